/- The document's answers: operations, the owner of an event, what is left, beginnings one by one. -/
import Derived.Test.YtojdelnnjhbgbaaZV16
set_option linter.all false
namespace Go.Proofs.Ytojdelnnjhbgbaa
open Go Go.Sv Go.Pu
def fwd (p : Int) : List Api_Event → Int → Int × Int
 | [], _ => (-1, -1)
 | x :: r, k => if x.Prc = p then (k, x.N) else fwd p r (k + 1)
def refGo : List Api_Event → Int → List Api_Oper
 | [], _ => []
 | x :: r, i => (if x.What = 1 then [⟨x.Prc, x.N, i, (fwd x.Prc r (i + 1)).1, (fwd x.Prc r (i + 1)).2⟩] else []) ++ refGo r (i + 1)
def finish (l : List Api_Event) (i : Int) (o : Api_Oper) : Api_Oper := if o.End = -1 ∧ (fwd o.Prc l i).1 ≠ -1 then ⟨o.Prc, o.Kind, o.Start, (fwd o.Prc l i).1, (fwd o.Prc l i).2⟩ else o
theorem fwd_none (p : Int) : ∀ (l : List Api_Event) (k : Int), 0 ≤ k → (fwd p l k).1 = -1 → (fwd p l k).2 = -1
 | [], _, _, _ => rfl
 | x :: l, k, h, e => by
  rw [fwd] at e ⊢
  split at e
  ·dsimp only at e; omega
  ·rename_i hh; rw [if_neg hh]; exact fwd_none p l (k + 1) (by omega) e
theorem finish_close {l : List Api_Event} {x : Api_Event} {i : Int} (h : 0 ≤ i) (o : Api_Oper) : finish l (i + 1) (closeAt i x o) = finish (x :: l) i o := by
 by_cases e : o.End = -1
 ·by_cases p : o.Prc = x.Prc
  ·rw [close_yes ⟨e, p⟩]
   unfold finish
   rw [if_neg (by dsimp only; omega), if_pos]
   ·rw [fwd, if_pos p.symm]
   ·rw [fwd, if_pos p.symm]; exact ⟨e, by dsimp only; omega⟩
  ·rw [close_no (fun h => p h.2)]
   have e2 : fwd o.Prc (x :: l) i = fwd o.Prc l (i + 1) := by rw [fwd, if_neg (fun h => p h.symm)]
   unfold finish
   rw [e2]
 ·rw [close_no (fun h => e h.1)]
  unfold finish
  rw [if_neg (fun h => e h.1), if_neg (fun h => e h.1)]
theorem opsGo_ref : ∀ (l : List Api_Event) (i : Int) (ops : List Api_Oper), 0 ≤ i → opsGo l i ops = ops.map (finish l i) ++ refGo l i
 | [], i, ops, _ => by
  have : ∀ o : Api_Oper, finish [] i o = o := fun o => by unfold finish; rw [if_neg (fun h => h.2 rfl)]
  rw [opsGo, refGo, List.append_nil, show finish [] i = id from funext this, List.map_id]
 | x :: l, i, ops, h => by
  rw [opsGo, opsGo_ref l (i + 1) _ (by omega), refGo, ← List.append_assoc]
  congr 1
  unfold opsStep
  rw [List.map_append, List.map_map]
  congr 1
  ·exact List.map_congr_left (fun o _ => finish_close h o)
  ·split
   ·rw [List.map_cons, List.map_nil]
    congr 1
    unfold finish
    dsimp only
    by_cases e : (fwd x.Prc l (i + 1)).1 = -1
    ·rw [if_neg (fun h => h.2 e), e, fwd_none _ _ _ (by omega) e]
    ·rw [if_pos ⟨rfl, e⟩]
   ·rfl
theorem ops_ref (l : List Api_Event) : opsOf l = refGo l 0 := by
 unfold opsOf; rw [opsGo_ref l 0 [] (by omega)]; rfl
theorem v27 (l : List Api_Event) : VC27 l (fun r => r = ref27_Of l) := by
 intro _
 rintro _ rfl
 unfold ref27_Of oper_Of ref25_Check
 refine ⟨fun h => by rw [if_pos (by simpa using h)], fun h => ?_⟩
 have h : (event_Check l).2 = 0 := by simpa using h
 rw [if_neg (by omega), ops_ref]
 have h10 := (evs_ok h).1
 generalize hR : refGo l 0 = R
 refine ⟨fun out i => ∃ k : Nat, i = (k : Int) ∧ k ≤ l.length ∧ out.length ≤ k ∧ out ++ refGo (l.drop k) (k : Int) = R, fun _ i => (l.length - i).toNat, ⟨0, rfl, by omega, by simp, hR⟩, ?_⟩
 rintro out _ ⟨k, rfl, hk, ho, hg⟩
 refine ⟨fun hi => ?_, fun hi => ?_⟩
 ·have hi := of_decide_eq_true hi
  have hI : (0 : Int) ≤ (k : Int) ∧ (k : Int) < (l.length : Int) := ⟨by omega, hi⟩
  rw [drop_gi (l := l) (i := k) (by omega), refGo, ← List.append_assoc] at hg
  refine ⟨hI, fun w => ?_, fun w => ⟨hI, hI, ?_⟩⟩
  ·unfold VC27_J2
   rw [if_neg (by simpa using w), List.append_nil] at hg
   rw [wrp (by omega) (by omega)]
   exact ⟨⟨k + 1, by push_cast; rfl, by omega, by omega, by push_cast; exact hg⟩, by first | omega | (dsimp only; omega)⟩
  ·rw [if_pos (by simpa using w)] at hg
   generalize hF : fwd (gi l (k : Int)).Prc (l.drop (k + 1)) ((k : Int) + 1) = F at hg
   rw [wrp (by omega) (by omega)]
   refine ⟨fun out' q a b d e r => out = out' ∧ a = (gi l (k : Int)).Prc ∧ b = (gi l (k : Int)).N ∧ d = (k : Int) ∧ ∃ q' : Nat, q = (q' : Int) ∧ q' ≤ l.length ∧ ((e = -1 ∧ r = -1 ∧ fwd (gi l (k : Int)).Prc (l.drop q') (q' : Int) = F) ∨ (e ≥ 0 ∧ (e, r) = F)), fun _ q _ _ _ _ _ => (l.length - q).toNat, ⟨rfl, rfl, rfl, rfl, k + 1, by push_cast; rfl, by omega, .inl ⟨rfl, rfl, by push_cast; exact hF⟩⟩, ?_⟩
   rintro _ _ _ _ _ e r ⟨rfl, rfl, rfl, rfl, q, rfl, hq, hst⟩
   refine ⟨fun h2 => ?_, fun h2 => ?_⟩
   ·rw [Bool.and_eq_true, decide_eq_true_eq, decide_eq_true_eq] at h2
    have hQ : (0 : Int) ≤ (q : Int) ∧ (q : Int) < (l.length : Int) := ⟨by omega, h2.1⟩
    rcases hst with ⟨rfl, rfl, hf⟩ | ⟨h3, _⟩
    ·rw [drop_gi (l := l) (i := q) (by omega), fwd] at hf
     refine ⟨hQ, hI, fun h4 => ⟨hQ, ?_⟩, fun h4 => ?_⟩
     ·rw [if_pos (by simpa using h4)] at hf
      unfold VC27_J4
      rw [wrp (by omega) (by omega)]
      exact ⟨⟨rfl, rfl, rfl, rfl, q + 1, by push_cast; rfl, by omega, .inr ⟨by omega, hf⟩⟩, by first | omega | (dsimp only; omega)⟩
     ·rw [if_neg (by simpa using h4)] at hf
      unfold VC27_J4
      rw [wrp (by omega) (by omega)]
      exact ⟨⟨rfl, rfl, rfl, rfl, q + 1, by push_cast; rfl, by omega, .inl ⟨rfl, rfl, by push_cast; exact hf⟩⟩, by first | omega | (dsimp only; omega)⟩
    ·omega
   ·have hF2 : (e, r) = F := by
     rcases hst with ⟨rfl, rfl, hf⟩ | ⟨_, h3⟩
     ·rw [Bool.and_eq_false_iff, decide_eq_false_iff_not, decide_eq_false_iff_not] at h2
      rw [List.drop_eq_nil_of_le (by omega)] at hf
      exact hf
     ·exact h3
    unfold VC27_J3 VC27_J2
    rw [wrp (by omega) (by omega)]
    rw [← hF2] at hg
    exact ⟨by simp; omega, ⟨k + 1, by push_cast; rfl, by omega, by simp; omega, by push_cast; exact hg⟩, by first | omega | (dsimp only; omega)⟩
 ·have hi := of_decide_eq_false hi
  unfold VC27_J1
  rw [List.drop_eq_nil_of_le (by omega), refGo, List.append_nil] at hg
  rw [hg]
theorem v11 (o : Api_Object) (l : List Api_Event) (hp : preRL o l) : VC11 o l (fun r => r = ref41_Lin o l) := by
 intro _ _
 rintro _ rfl
 unfold ref41_Lin
 refine ⟨fun h => by rw [if_pos (by simpa using h)], fun h => ?_⟩
 rw [if_neg (by simpa using h)]
 rintro _ rfl _
 rintro _ rfl
 refine ⟨fun h => by rw [if_pos (by simpa using h)], fun h => ?_⟩
 rw [if_neg (by simpa using h)]
 refine ⟨hp, ?_⟩
 rintro _ rfl _
 exact congrArg (·, (0 : Int)) (decide_eq_decide.2 (by omega))
theorem of_calls (l : List Api_Event) : ((ref27_Of l).1.length : Int) ≤ callsN l := by
 unfold ref27_Of oper_Of
 have := calls_len l
 split
 ·rw [← this]; simp
 ·rw [← this]; exact Int.le_refl _
theorem calls_of {l : List Api_Event} (h : (event_Check l).2 = 0) : ((ref27_Of l).1.length : Int) = callsN l := by
 unfold ref27_Of oper_Of
 rw [if_neg (by omega), ← calls_len]
theorem calls_sub {a b : List Api_Event} (h : a.Sublist b) : callsN a ≤ callsN b := by
 unfold callsN
 have := h.countP_le (p := fun x : Api_Event => x.What == 1)
 omega
theorem pre_sub {o : Api_Object} {a b : List Api_Event} (h : a.Sublist b) (hb : callsN b ≤ 5) : preRL o a := by
 have h1 := of_calls a
 have h2 := calls_sub h
 show (ref27_Of a).1.length ≤ 5
 omega
theorem rlin_ok {o : Api_Object} {l : List Api_Event} (h : (ref41_Lin o l).2 = 0) : caseE o l = 0 := by
 unfold ref41_Lin at h
 by_cases h1 : ref26_Check o l = 0
 ·exact h1
 ·rw [if_pos h1] at h; exact absurd h h1
theorem pre_calls {o : Api_Object} {l : List Api_Event} (hp : preRL o l) (h : (event_Check l).2 = 0) : callsN l ≤ 5 := by
 have hp : (ref27_Of l).1.length ≤ 5 := hp
 have := calls_of h
 omega
theorem v13 (o : Api_Object) (l : List Api_Event) (hp : preRL o l) : VC13 o l (fun r => r = ref41_Head o l) := by
 intro _ _
 refine ⟨hp, ?_⟩
 rintro _ rfl
 unfold ref41_Head
 refine ⟨fun h => by rw [if_pos (by simpa using h)], fun h => ?_⟩
 have h : (ref41_Lin o l).2 = 0 := by simpa using h
 rw [if_neg (by omega)]
 refine ⟨fun h2 => by rw [if_pos h2], fun h2 => ?_⟩
 rw [if_neg (by rw [h2]; simp)]
 have hc := (case_ok (rlin_ok h)).2.1
 have hcl := pre_calls hp hc
 have h10 := (evs_ok hc).1
 generalize hR : rHeadGo o l l.length 0 = R
 refine ⟨fun n => ∃ k : Nat, n = (k : Int) ∧ k ≤ l.length ∧ rHeadGo o l (l.length - k) (k : Int) = R, fun n => (l.length - n).toNat, ⟨0, rfl, by omega, hR⟩, ?_⟩
 rintro _ ⟨k, rfl, hk, hg⟩
 refine ⟨fun hi => ?_, fun hi => ?_⟩
 ·have hi := of_decide_eq_true hi
  rw [show l.length - k = (l.length - (k + 1)) + 1 by omega, rHeadGo] at hg
  refine ⟨⟨by omega, by omega⟩, pre_sub (List.take_sublist _ _) hcl, ?_⟩
  rintro _ rfl
  refine ⟨fun h3 => ?_, fun h3 => ?_⟩
  ·rw [if_pos (by simpa using h3)] at hg
   rw [hg]
  ·rw [if_neg (by simpa using h3)] at hg
   rw [wrp (by omega) (by omega)]
   exact ⟨⟨k + 1, by push_cast; rfl, by omega, by push_cast; exact hg⟩, by first | omega | (dsimp only; omega)⟩
 ·have hi := of_decide_eq_false hi
  obtain rfl : k = l.length := by omega
  unfold VC13_J1
  rw [Nat.sub_self, rHeadGo] at hg
  rw [hg]
theorem begun_snoc (p : Int) (x : Api_Event) : ∀ (l : List Api_Event) (n b : Int), begunGo p (l ++ [x]) n b = if x.What = 1 then (if x.Prc = p then n + callsN l + 1 else begunGo p l n b) else (if x.Prc = p then -1 else begunGo p l n b)
 | [], n, b => by simp [begunGo, callsN]
 | y :: l, n, b => by
  rw [List.cons_append, begunGo, begunGo]
  have e : callsN (y :: l) = callsN l + (if y.What = 1 then 1 else 0) := by
   unfold callsN
   rw [List.countP_cons]
   by_cases h : y.What = 1
   ·simp [h]
   ·simp [h]
  rw [e]
  split
  ·rename_i h
   rw [begun_snoc p x l]
   split
   ·split
    ·omega
    ·rfl
   ·rfl
  ·rename_i h
   rw [begun_snoc p x l]
   split
   ·split
    ·omega
    ·rfl
   ·rfl
theorem v36 (l : List Api_Event) (at_ : Int) (hp : preOw l at_) : VC36 l at_ (fun r => r = ref41_Owner l at_) := by
 obtain ⟨h0, h1⟩ := hp
 intro hsl
 have hsl : l.length ≤ 140737488355328 := hsl
 obtain ⟨m, rfl⟩ := Int.eq_ofNat_of_zero_le h0
 have hA : (0 : Int) ≤ (m : Int) ∧ (m : Int) < (l.length : Int) := ⟨h0, h1⟩
 have hcN : ∀ k : Nat, 0 ≤ callsN (l.take k) ∧ callsN (l.take k) ≤ k := fun k => by
  unfold callsN
  have := List.countP_le_length (p := fun x : Api_Event => x.What == 1) (l := l.take k)
  rw [List.length_take] at this
  omega
 generalize hB : (fun k : Nat => begunGo (gi l (m : Int)).Prc (l.take k) (-1) (-1)) = B
 have hBk : ∀ k, begunGo (gi l (m : Int)).Prc (l.take k) (-1) (-1) = B k := fun k => by rw [← hB]
 have hBs : ∀ k, k < l.length → B (k + 1) = if (gi l (k : Int)).What = 1 then (if (gi l (k : Int)).Prc = (gi l (m : Int)).Prc then callsN (l.take k) else B k) else (if (gi l (k : Int)).Prc = (gi l (m : Int)).Prc then -1 else B k) := fun k hk => by
  rw [← hBk (k + 1), take_snoc hk, begun_snoc, hBk]
  split
  ·split
   ·omega
   ·rfl
  ·rfl
 have hcs : ∀ k, k < l.length → callsN (l.take (k + 1)) = callsN (l.take k) + (if (gi l (k : Int)).What = 1 then 1 else 0) := fun k hk => by rw [take_snoc hk, calls_snoc]
 have hS : ref41_Owner l (m : Int) = if (gi l (m : Int)).What = 1 then callsN (l.take m) else if (gi l (m : Int)).What = 2 then B m else -1 := by
  unfold ref41_Owner
  rw [show ((m : Nat) : Int).toNat = m by omega, hBk]
 rw [hS]
 refine ⟨fun n b i => ∃ k : Nat, i = (k : Int) ∧ ((k ≤ m ∧ n = callsN (l.take k) - 1 ∧ b = B k) ∨ (k = m + 1 ∧ b = if (gi l (m : Int)).What = 1 then callsN (l.take m) else B m)), fun _ _ i => ((m : Int) + 1 - i).toNat, ⟨0, rfl, .inl ⟨by omega, by simp [callsN], by rw [← hBk]; rfl⟩⟩, ?_⟩
 rintro n b _ ⟨k, rfl, hst⟩
 refine ⟨fun hi => ?_, fun hi => ?_⟩
 ·have hi := of_decide_eq_true hi
  rcases hst with ⟨hk, rfl, rfl⟩ | ⟨hk, _⟩
  ·have hI : (0 : Int) ≤ (k : Int) ∧ (k : Int) < (l.length : Int) := ⟨by omega, by omega⟩
   obtain ⟨c1, c2⟩ := hcN k
   have b1 := hBs k (by omega)
   have b2 := hcs k (by omega)
   have fin : ∀ n' b' : Int, n' = callsN (l.take (k + 1)) - 1 → b' = (if (k : Int) < (m : Int) then B (k + 1) else if (gi l (m : Int)).What = 1 then callsN (l.take m) else B m) → VC36_J3 (fun n b i => ∃ k : Nat, i = (k : Int) ∧ ((k ≤ m ∧ n = callsN (l.take k) - 1 ∧ b = B k) ∨ (k = m + 1 ∧ b = if (gi l (m : Int)).What = 1 then callsN (l.take m) else B m))) (fun _ _ i => ((m : Int) + 1 - i).toNat) (callsN (l.take k) - 1) (B k) (k : Int) n' b' := by
    intro n' b' hn hb
    unfold VC36_J3
    rw [wrp (by omega) (by omega)]
    refine ⟨⟨k + 1, by push_cast; rfl, ?_⟩, by first | omega | (dsimp only; omega)⟩
    by_cases hkm : k < m
    ·left; rw [if_pos (by omega)] at hb; exact ⟨by omega, hn, hb⟩
    ·right; rw [if_neg (by omega)] at hb; exact ⟨by omega, hb⟩
   refine ⟨hI, fun w => ?_, fun w => ?_⟩
   ·have w : (gi l (k : Int)).What = 1 := by simpa using w
    rw [if_pos w] at b1 b2
    unfold VC36_J4
    rw [wrp (by omega) (by omega)]
    refine ⟨hI, hA, fun hpr => ⟨hI, fun _ => ?_, fun w2 => by simp [w] at w2⟩, fun hpr => ?_⟩
    ·have hpr : (gi l (k : Int)).Prc = (gi l (m : Int)).Prc := by simpa using hpr
     refine fin _ _ (by omega) ?_
     rw [if_pos hpr] at b1
     split
     ·omega
     ·have : k = m := by omega
      subst this; rw [if_pos w]; omega
    ·have hpr : ¬ (gi l (k : Int)).Prc = (gi l (m : Int)).Prc := by simpa using hpr
     refine fin _ _ (by omega) ?_
     rw [if_neg hpr] at b1
     rw [if_pos, b1]
     have : k ≠ m := by rintro rfl; exact hpr rfl
     omega
   ·have w : ¬ (gi l (k : Int)).What = 1 := by simpa using w
    rw [if_neg w] at b1 b2
    unfold VC36_J4
    refine ⟨hI, hA, fun hpr => ⟨hI, fun w2 => absurd (by simpa using w2) w, fun _ => ⟨fun hkm => ?_, fun hkm => ?_⟩⟩, fun hpr => ?_⟩
    ·have hpr : (gi l (k : Int)).Prc = (gi l (m : Int)).Prc := by simpa using hpr
     refine fin _ _ (by omega) ?_
     rw [if_pos hpr] at b1
     rw [if_pos (of_decide_eq_true hkm), b1]
    ·have hkm := of_decide_eq_false hkm
     have : k = m := by omega
     subst this
     refine fin _ _ (by omega) ?_
     rw [if_neg (by omega), if_neg w]
    ·have hpr : ¬ (gi l (k : Int)).Prc = (gi l (m : Int)).Prc := by simpa using hpr
     refine fin _ _ (by omega) ?_
     rw [if_neg hpr] at b1
     rw [if_pos, b1]
     have : k ≠ m := by rintro rfl; exact hpr rfl
     omega
  ·omega
 ·have hi := of_decide_eq_false hi
  rcases hst with ⟨hk, _⟩ | ⟨hk, hb⟩
  ·omega
  ·unfold VC36_J1 VC36_J2
   refine ⟨hA, fun w => ⟨hA, fun w2 => ?_, fun w2 => ?_⟩, fun w => ⟨(fun h => by cases h), fun _ => ?_⟩⟩
   ·rw [if_neg (by simpa using w), if_neg (by simpa using w2)]
   ·rw [if_neg (by simpa using w)] at hb ⊢
    rw [if_pos (by simpa using w2)]; exact hb
   ·have w : (gi l (m : Int)).What = 1 := by simpa using w
    rw [if_pos w] at hb ⊢; exact hb
theorem rWo_succ (l : List Api_Event) (ops : List Int) (k : Nat) : rWoTo l ops (k + 1) = rWoTo l ops k ++ (if rGone l ops (k : Int) then [] else [gi l (k : Int)]) := by
 unfold rWoTo
 rw [List.range_succ, List.filter_append, List.map_append]
 congr 1
 cases h : rGone l ops (k : Int) <;> simp [h]
theorem rWo_len (l : List Api_Event) (ops : List Int) (k : Nat) : (rWoTo l ops k).length ≤ k := by
 unfold rWoTo
 rw [List.length_map]
 exact Nat.le_trans (List.length_filter_le _ _) (by simp)
theorem v19 (l : List Api_Event) (ops : List Int) (hp : preWo l ops) : VC19 l ops (fun r => r = ref41_Without l ops) := by
 have hl : l.length ≤ 1000000 := hp
 intro _ hso
 have hso : ops.length ≤ 140737488355328 := hso
 unfold ref41_Without
 refine ⟨fun out i => ∃ k : Nat, i = (k : Int) ∧ k ≤ l.length ∧ out = rWoTo l ops k, fun _ i => (l.length - i).toNat, ⟨0, rfl, by omega, rfl⟩, ?_⟩
 rintro _ _ ⟨k, rfl, hk, rfl⟩
 have hle := rWo_len l ops k
 refine ⟨fun hi => ?_, fun hi => ?_⟩
 ·have hi := of_decide_eq_true hi
  refine ⟨⟨by omega, hi⟩, ?_⟩
  rintro _ rfl
  refine ⟨fun out' gone q => rWoTo l ops k = out' ∧ 0 ≤ q ∧ q ≤ ops.length ∧ gone = decide (ref41_Owner l (k : Int) ≥ 0 ∧ ref41_Owner l (k : Int) ∈ ops.take q.toNat), fun _ _ q => (ops.length - q).toNat, ⟨rfl, by omega, by omega, by simp⟩, ?_⟩
  rintro _ gone q ⟨rfl, q0, q1, hgone⟩
  refine ⟨fun hq => ?_, fun hq => ?_⟩
  ·have hq := of_decide_eq_true hq
   have htk := take_gi q0 hq
   unfold VC19_J4
   rw [wrp (by omega) (by omega)]
   refine ⟨fun g => ⟨⟨rfl, by omega, by omega, ?_⟩, by first | omega | (dsimp only; omega)⟩, fun g => ⟨fun h => ⟨⟨q0, hq⟩, ⟨rfl, by omega, by omega, ?_⟩, by first | omega | (dsimp only; omega)⟩, fun h => ⟨⟨rfl, by omega, by omega, ?_⟩, by first | omega | (dsimp only; omega)⟩⟩⟩
   ·rw [g] at hgone
    have hg := of_decide_eq_true hgone.symm
    rw [htk]
    exact (decide_eq_true ⟨hg.1, List.mem_append_left _ hg.2⟩).symm
   ·have h := of_decide_eq_true h
    rw [g] at hgone
    have hg := of_decide_eq_false hgone.symm
    rw [htk, Bool.eq_iff_iff, beq_iff_eq, decide_eq_true_eq, List.mem_append, List.mem_singleton]
    constructor
    ·intro h5; exact ⟨h, .inr h5.symm⟩
    ·rintro ⟨_, h5 | h5⟩
     ·exact absurd ⟨h, h5⟩ hg
     ·exact h5.symm
   ·have h := of_decide_eq_false h
    exact (decide_eq_false (fun h5 => h h5.1)).symm
  ·have hq := of_decide_eq_false hq
   rw [List.take_of_length_le (by omega)] at hgone
   have hgone : gone = rGone l ops (k : Int) := hgone
   unfold VC19_J3 VC19_J2
   rw [wrp (by omega) (by omega)]
   refine ⟨fun h => ⟨⟨by omega, hi⟩, by simp; omega, ⟨k + 1, by push_cast; rfl, by omega, ?_⟩, by first | omega | (dsimp only; omega)⟩, fun h => ⟨⟨k + 1, by push_cast; rfl, by omega, ?_⟩, by first | omega | (dsimp only; omega)⟩⟩
   ·rw [rWo_succ, ← hgone, if_neg (by simpa using h)]
   ·rw [rWo_succ, ← hgone, if_pos (by simpa using h), List.append_nil]
 ·have hi := of_decide_eq_false hi
  obtain rfl : k = l.length := by omega
  rfl
theorem rwo_sub (l : List Api_Event) (ops : List Int) : (ref41_Without l ops).Sublist l := by
 unfold ref41_Without rWoTo
 have h : ((List.range l.length).map fun i : Nat => gi l (i : Int)) = l := by
  apply List.ext_getElem (by simp)
  intro i h1 h2
  rw [List.getElem_map, List.getElem_range, gi_nat _ _ h2]
 have := (List.filter_sublist (l := List.range l.length) (p := fun i : Nat => !rGone l ops (i : Int))).map (fun i : Nat => gi l (i : Int))
 rw [h] at this
 exact this
theorem rHead_range (o : Api_Object) (l : List Api_Event) : ∀ (k : Nat) (n : Int), n ≤ rHeadGo o l k n ∧ rHeadGo o l k n ≤ n + k
 | 0, n => by rw [rHeadGo]; omega
 | k + 1, n => by
  rw [rHeadGo]
  have := rHead_range o l k (n + 1)
  split <;> (push_cast; omega)
theorem rhead_range (o : Api_Object) (l : List Api_Event) : 0 ≤ (ref41_Head o l).1 ∧ (ref41_Head o l).1 ≤ l.length := by
 unfold ref41_Head
 split
 ·exact ⟨by simp, by simp⟩
 ·split
  ·exact ⟨by simp, by simp⟩
  ·have := rHead_range o l l.length 0
   exact ⟨this.1, by dsimp only; omega⟩
theorem rhead_ok {o : Api_Object} {l : List Api_Event} (h : (ref41_Head o l).2 = 0) : (ref41_Lin o l).2 = 0 := by
 unfold ref41_Head at h
 by_cases h1 : (ref41_Lin o l).2 = 0
 ·exact h1
 ·rw [if_pos h1] at h; exact absurd h h1
theorem v15 (o : Api_Object) (l : List Api_Event) (hp : preRL o l) : VC15 o l (fun r => r = ref41_Part o l) := by
 intro _ _
 refine ⟨hp, ?_⟩
 rintro _ rfl
 unfold ref41_Part
 refine ⟨fun h => by rw [if_pos (by simpa using h)], fun h => ?_⟩
 have h : (ref41_Head o l).2 = 0 := by simpa using h
 rw [if_neg (by omega)]
 have hc := (case_ok (rlin_ok (rhead_ok h))).2.1
 have hcl := pre_calls hp hc
 have h10 := (evs_ok hc).1
 refine ⟨rhead_range o l, ?_⟩
 rintro _ rfl hso
 have hso : (ref27_Of (l.take (ref41_Head o l).1.toNat)).1.length ≤ 140737488355328 := hso
 generalize hl0 : l.take (ref41_Head o l).1.toNat = l0 at *
 have hs0 : l0.Sublist l := by rw [← hl0]; exact List.take_sublist _ _
 generalize hG : rPartGo o (ref27_Of l0).1.length l0 = G
 rw [wrp (by omega) (by omega)]
 refine ⟨fun out i => -1 ≤ i ∧ i ≤ 200000000000000 ∧ out.Sublist l ∧ rPartGo o (i + 1).toNat out = G, fun _ i => (i + 1).toNat, ⟨by omega, by omega, hs0, by rw [show (((ref27_Of l0).1.length : Int) - 1 + 1).toNat = (ref27_Of l0).1.length by omega]; exact hG⟩, ?_⟩
 rintro out i ⟨i0, i1, ho, hg⟩
 refine ⟨fun hi => ?_, fun hi => ?_⟩
 ·have hi := of_decide_eq_true hi
  obtain ⟨k, rfl⟩ := Int.eq_ofNat_of_zero_le hi
  rw [show (((k : Nat) : Int) + 1).toNat = k + 1 by omega, rPartGo] at hg
  have hol := ho.length_le
  refine ⟨by show out.length ≤ 1000000; omega, ?_⟩
  rintro _ rfl _
  have hw := (rwo_sub out [(k : Int)]).trans ho
  refine ⟨pre_sub hw hcl, ?_⟩
  rintro _ rfl
  unfold VC15_J2
  rw [wrp (by omega) (by omega)]
  refine ⟨fun h2 => ⟨rhead_range _ _, ⟨by omega, by omega, (List.take_sublist _ _).trans hw, ?_⟩, by first | omega | (dsimp only; omega)⟩, fun h2 => ⟨⟨by omega, by omega, ho, ?_⟩, by first | omega | (dsimp only; omega)⟩⟩
  ·rw [if_pos (by simpa using h2)] at hg
   rw [show (((k : Nat) : Int) - 1 + 1).toNat = k by omega]; exact hg
  ·rw [if_neg (by simpa using h2)] at hg
   rw [show (((k : Nat) : Int) - 1 + 1).toNat = k by omega]; exact hg
 ·have hi := of_decide_eq_false hi
  rw [show (i + 1).toNat = 0 by omega, rPartGo] at hg
  unfold VC15_J1
  rw [hg]
end Go.Proofs.Ytojdelnnjhbgbaa
