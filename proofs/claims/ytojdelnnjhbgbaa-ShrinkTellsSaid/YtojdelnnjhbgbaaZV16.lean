/- The code: operations, the least beginning, what is left, the least part. -/
import Derived.Test.YtojdelnnjhbgbaaZV15
set_option linter.all false
namespace Go.Proofs.Ytojdelnnjhbgbaa
open Go Go.Sv Go.Pu
theorem step_call {l : List Api_Event} {ops : List Api_Oper} {x : Api_Event} (H : OpsOk l ops) (hl : lastW l x.Prc ≠ 1) (w : x.What = 1) (k : Int) : opsStep ops k x = ops ++ [⟨x.Prc, x.N, k, -1, -1⟩] := by
 unfold opsStep
 rw [if_pos w]
 congr 1
 apply List.ext_getElem (by simp)
 intro i h1 h2
 rw [List.getElem_map]
 have := close_call H hl k i h2
 rw [gi_nat _ _ h2] at this
 exact this
theorem step_ret {l : List Api_Event} {ops : List Api_Oper} {x : Api_Event} (H : OpsOk l ops) (w : x.What ≠ 1) {j : Nat} (hj : j < ops.length) (hp : (gi ops (j : Int)).Prc = x.Prc) (he : (gi ops (j : Int)).End = -1) (k : Int) : opsStep ops k x = ops.set j ⟨(gi ops (j : Int)).Prc, (gi ops (j : Int)).Kind, (gi ops (j : Int)).Start, k, x.N⟩ := by
 unfold opsStep
 rw [if_neg w, List.append_nil]
 apply List.ext_getElem (by simp)
 intro i h1 h2
 have h2 : i < ops.length := by simpa using h2
 rw [List.getElem_map, List.getElem_set]
 have e := gi_nat ops i h2
 by_cases ij : j = i
 ·subst ij
  rw [if_pos rfl, ← e, close_yes ⟨he, hp⟩]
 ·rw [if_neg ij, ← e, close_no]
  rintro ⟨h3, h4⟩
  rcases Nat.lt_or_gt_of_ne ij with h | h
  ·exact ((H.two j i h h2).2.2.2.2 (by rw [hp, h4])).1 he
  ·exact ((H.two i j h hj).2.2.2.2 (by rw [hp, h4])).1 h3
def openOk (l : List Api_Event) (ops : List Api_Oper) (m : List (Int × Int)) : Prop := ∀ p, lastW l p = 1 → ∃ j : Nat, (mget m p).getD 0 = (j : Int) ∧ j < ops.length ∧ (gi ops (j : Int)).Prc = p ∧ (gi ops (j : Int)).End = -1
theorem gi_set_self {α : Type} [Inhabited α] {l : List α} {j : Nat} {a : α} (h : j < l.length) : gi (l.set j a) (j : Int) = a := by
 rw [gi_nat _ _ (by simpa using h)]; simp
theorem gi_set_other {α : Type} [Inhabited α] {l : List α} {i j : Nat} {a : α} (h : i < l.length) (hne : j ≠ i) : gi (l.set j a) (i : Int) = gi l (i : Int) := by
 rw [gi_nat _ _ (by simpa using h), gi_nat _ _ h, List.getElem_set_ne hne]
theorem v9 (l : List Api_Event) : VC9 l (fun r => r = oper_Of l) := by
 intro hsl
 rintro _ rfl
 unfold oper_Of
 refine ⟨fun h => by rw [if_pos (by simpa using h)], fun h => ?_⟩
 have h : (event_Check l).2 = 0 := by simpa using h
 rw [if_neg (by omega)]
 have h10 := (evs_ok h).1
 refine ⟨fun out m x => ∃ k : Nat, x = (k : Int) ∧ k ≤ l.length ∧ out = opsOf (l.take k) ∧ openOk (l.take k) out m, fun _ _ x => (l.length - x).toNat, ⟨0, rfl, by omega, rfl, fun p hp => by simp [lastW] at hp⟩, ?_⟩
 rintro out m _ ⟨k, rfl, hk, rfl, hop⟩
 refine ⟨fun hi => ?_, fun hi => ?_⟩
 ·have hi := of_decide_eq_true hi
  have hk : k < l.length := by omega
  have H := ops_ok h k (by omega)
  have hx := ev_next h hk
  have hts := take_snoc hk
  have htl : ((l.take k).length : Int) = (k : Int) := by rw [List.length_take]; omega
  have hcl := calls_len (l.take k)
  have hol : (opsOf (l.take k)).length ≤ 10000 := by
   have : callsN (l.take k) ≤ k := by
    unfold callsN
    have := List.countP_le_length (p := fun x : Api_Event => x.What == 1) (l := l.take k)
    omega
   omega
  have hso := opsOf_snoc (l.take k) (gi l (k : Int))
  rw [htl] at hso
  refine ⟨⟨by omega, hi⟩, fun w => ⟨by simp; omega, ?_⟩, fun w => ?_⟩
  ·have w : (gi l (k : Int)).What = 1 := by simpa using w
   rcases next_inv hx with ⟨_, hl⟩ | ⟨w2, _⟩
   ·unfold VC9_J2
    rw [wrp (by omega) (by omega)]
    refine ⟨⟨k + 1, by push_cast; rfl, by omega, ?_, ?_⟩, by first | omega | (dsimp only; omega)⟩
    ·rw [hts, hso, step_call H hl w]
    ·rw [hts]
     intro p hp
     rw [lastW_snoc] at hp
     by_cases e : p = (gi l (k : Int)).Prc
     ·subst e
      refine ⟨(opsOf (l.take k)).length, by rw [mget_mput, if_pos rfl]; rfl, by simp, ?_, ?_⟩ <;> rw [gi_nat _ _ (by simp)] <;> simp
     ·rw [if_neg (fun hh => e hh.symm)] at hp
      obtain ⟨j, j1, j2, j3, j4⟩ := hop p hp
      have eg : gi (opsOf (l.take k) ++ [(⟨(gi l (k : Int)).Prc, (gi l (k : Int)).N, (k : Int), -1, -1⟩ : Api_Oper)]) (j : Int) = gi (opsOf (l.take k)) (j : Int) := gi_app (by omega) (by omega)
      exact ⟨j, by rw [mget_mput, if_neg e]; exact j1, by simp; omega, by rw [eg]; exact j3, by rw [eg]; exact j4⟩
   ·omega
  ·have w : (gi l (k : Int)).What ≠ 1 := by simpa using w
   rcases next_inv hx with ⟨w2, _⟩ | ⟨w2, hl⟩
   ·omega
   ·obtain ⟨j, j1, j2, j3, j4⟩ := hop _ hl
    rw [j1]
    refine ⟨⟨by omega, by omega⟩, ?_⟩
    unfold VC9_J2
    rw [wrp (by omega) (by omega)]
    rw [show ((j : Nat) : Int).toNat = j by omega, gi_set_self j2, List.set_set]
    refine ⟨⟨k + 1, by push_cast; rfl, by omega, ?_, ?_⟩, by first | omega | (dsimp only; omega)⟩
    ·rw [hts, hso, step_ret H w j2 j3 j4]
    ·rw [hts]
     intro p hp
     rw [lastW_snoc] at hp
     by_cases e : p = (gi l (k : Int)).Prc
     ·subst e; rw [if_pos rfl] at hp; omega
     ·rw [if_neg (fun hh => e hh.symm)] at hp
      obtain ⟨q, q1, q2, q3, q4⟩ := hop p hp
      have hne : j ≠ q := by rintro rfl; exact e (q3.symm.trans j3)
      exact ⟨q, q1, by simpa using q2, by rw [gi_set_other q2 hne]; exact q3, by rw [gi_set_other q2 hne]; exact q4⟩
 ·have hi := of_decide_eq_false hi
  unfold VC9_J1
  rw [List.take_of_length_le (by omega)]
theorem v10 (c : Histtext_Case) (hp : preCa c) : VC10 c (fun r => r = shrink_Lin c) := by
 intro _ _
 refine ⟨hp, ?_⟩
 rintro _ rfl
 unfold shrink_Lin
 refine ⟨fun h => by rw [if_pos (by simpa using h)], fun h => ?_⟩
 rw [if_neg (by simpa using h)]
 rintro _ rfl _
 refine ⟨fun h => by rw [if_pos (by simpa using h)], fun h => ?_⟩
 rw [if_neg (by simpa using h)]
 refine ⟨hp, ?_⟩
 rintro _ rfl
 rfl
theorem v31 (c : Histtext_Case) : VC31 c (fun r => r = shrink_asker c) := fun _ _ => rfl
theorem v48 (n : Int) (c : Histtext_Case) (hp : preAs n c) : VC48 n c (fun r => r = shrink_asker_1 n c) := by
 obtain ⟨h1, h2, h3⟩ := hp
 intro _ _
 refine ⟨⟨h2, h3⟩, h1, ?_⟩
 rintro _ rfl
 rfl
theorem half_eq {i j : Int} (h0 : 0 ≤ i) (h1 : i ≤ 1000000) (h2 : 0 ≤ j) (h3 : j ≤ 1000000) : IntKind.i64.wrap ((IntKind.u64.wrap (IntKind.i64.wrap (i + j))).fdiv (2 ^ 1)) = (i + j) / 2 := by
 rw [wrp (n := i + j) (by omega) (by omega)]
 have e : IntKind.u64.wrap (i + j) = i + j := by simp [IntKind.wrap, IntKind.signed, IntKind.bits]; omega
 rw [e, Int.fdiv_eq_ediv_of_nonneg _ (by decide), show (2 : Int) ^ 1 = 2 by decide, wrp (by omega) (by omega)]
theorem v30_48 (n : Int) (c : Histtext_Case) (hp : preBs n c) : VC30_48 n c (fun r => r = sort_Search_shrink_asker_1 n c) := by
 obtain ⟨h1, h2, h3, h4⟩ := hp
 intro _ _
 unfold sort_Search_shrink_asker_1
 generalize hR : bsGo (fun i => shrink_asker_1 i c) n.toNat 0 n = R
 refine ⟨fun i j => 0 ≤ i ∧ i ≤ j ∧ j ≤ n ∧ ∃ f : Nat, j - i ≤ f ∧ bsGo (fun i => shrink_asker_1 i c) f i j = R, fun i j => (j - i).toNat, ⟨by omega, h2, by omega, n.toNat, by omega, hR⟩, ?_⟩
 rintro i j ⟨i0, ij, jn, f, hf, hgo⟩
 refine ⟨fun h => ?_, fun h => ?_⟩
 ·have h := of_decide_eq_true h
  rw [half_eq (by omega) (by omega) (by omega) (by omega)]
  rw [wrp (n := (i + j) / 2 + 1) (by omega) (by omega)]
  refine ⟨⟨h1, by omega, by omega⟩, ?_⟩
  rintro _ rfl
  obtain ⟨f, rfl⟩ : ∃ f', f = f' + 1 := ⟨f - 1, by omega⟩
  rw [bsGo, if_pos h] at hgo
  refine ⟨fun h5 => ?_, fun h5 => ?_⟩
  ·have h5 : shrink_asker_1 ((i + j) / 2) c = false := by simpa using h5
   rw [if_pos h5] at hgo
   exact ⟨⟨by omega, by omega, by omega, f, by omega, hgo⟩, by first | omega | (dsimp only; omega)⟩
  ·have h5 : shrink_asker_1 ((i + j) / 2) c = true := by simpa using h5
   rw [if_neg (by rw [h5]; simp)] at hgo
   exact ⟨⟨by omega, by omega, by omega, f, by omega, hgo⟩, by first | omega | (dsimp only; omega)⟩
 ·have h := of_decide_eq_false h
  unfold VC30_48_J1
  cases f with
  | zero => exact hgo
  | succ f => rw [bsGo, if_neg (by omega)] at hgo; exact hgo
theorem lin_fits {c : Histtext_Case} (h : (shrink_Lin c).2 = 0) : caseE c.Object c.Events = 0 ∧ c.Events.length ≤ 10000 := by
 unfold shrink_Lin at h
 by_cases h1 : histtext_Check c = 0
 ·exact ⟨h1, (evs_ok (case_ok h1).2.1).1⟩
 ·rw [if_pos h1] at h; exact absurd h h1
theorem v12 (c : Histtext_Case) (hp : preCa c) : VC12 c (fun r => r = shrink_Head c) := by
 intro _ _
 refine ⟨hp, ?_⟩
 rintro _ rfl
 unfold shrink_Head
 refine ⟨fun h => by rw [if_pos (by simpa using h)], fun h => ?_⟩
 have h : (shrink_Lin c).2 = 0 := by simpa using h
 rw [if_neg (by omega)]
 refine ⟨fun h2 => by rw [if_pos h2], fun h2 => ?_⟩
 rw [if_neg (by rw [h2]; simp)]
 rintro _ rfl _ _
 have := (lin_fits h).2
 refine ⟨⟨hp, by omega, by show (c.Events.length : Int) ≤ c.Events.length; omega, by show c.Events.length ≤ 1000000; omega⟩, ?_⟩
 rintro _ rfl
 rfl
theorem v49 (s : List Int) (v : Int) : VC49 s v (fun r => r = slices_Index_int_int s v) := by
 intro hs
 simp only [sm] at hs
 unfold slices_Index_int_int
 refine ⟨fun x => ∃ k : Nat, x = (k : Int) ∧ k ≤ s.length ∧ idxGo v (s.drop k) (k : Int) = idxGo v s 0, fun x => (s.length - x).toNat, ⟨0, rfl, by omega, rfl⟩, ?_⟩
 rintro _ ⟨k, rfl, hk, hg⟩
 refine ⟨fun h => ?_, fun h => ?_⟩
 ·have h := of_decide_eq_true h
  rw [drop_gi (l := s) (i := k) (by omega), idxGo] at hg
  refine ⟨⟨by omega, h⟩, fun h2 => ?_, fun h2 => ?_⟩
  ·rw [if_pos (by simpa using h2)] at hg; exact hg
  ·rw [if_neg (by simpa using h2)] at hg
   rw [wrp (by omega) (by omega)]
   exact ⟨⟨k + 1, by push_cast; rfl, by omega, by push_cast; exact hg⟩, by first | omega | (dsimp only; omega)⟩
 ·have h := of_decide_eq_false h
  rw [List.drop_eq_nil_of_le (by omega)] at hg
  exact hg
theorem idx_mem (v : Int) : ∀ (s : List Int) (i : Int), 0 ≤ i → (idxGo v s i ≥ 0 ↔ v ∈ s)
 | [], i, _ => by simp [idxGo]
 | y :: s, i, h => by
  rw [idxGo]
  by_cases e : v = y
  ·subst e; rw [if_pos rfl]; simp; omega
  ·rw [if_neg e, idx_mem v s (i + 1) (by omega)]; simp [e]
theorem v35 (s : List Int) (v : Int) : VC35 s v (fun r => r = slices_Contains_int_int s v) := by
 intro _
 rintro _ rfl
 exact decide_eq_decide.2 (idx_mem v s 0 (by omega))
theorem v18 (l : List Api_Event) (ops : List Int) (hp : preWo l ops) : VC18 l ops (fun r => r = shrink_Without l ops) := by
 have hl : l.length ≤ 1000000 := hp
 intro _ _
 unfold shrink_Without
 generalize hR : woGo ops l 0 [] = R
 refine ⟨fun out n g x => ∃ k : Nat, x = (k : Int) ∧ k ≤ l.length ∧ out.length ≤ k ∧ 0 ≤ n ∧ n ≤ k ∧ out ++ woGo ops (l.drop k) n g = R, fun _ _ _ x => (l.length - x).toNat, ⟨0, rfl, by omega, by simp, by omega, by omega, hR⟩, ?_⟩
 rintro out n g _ ⟨k, rfl, hk, ho, n0, nk, hg⟩
 refine ⟨fun h => ?_, fun h => ?_⟩
 ·have h := of_decide_eq_true h
  rw [drop_gi (l := l) (i := k) (by omega), woGo] at hg
  refine ⟨⟨by omega, h⟩, fun w => ?_, fun w => ?_⟩
  ·have w : (gi l (k : Int)).What = 1 := by simpa using w
   rw [if_pos w] at hg
   rintro _ rfl
   unfold VC18_J3 VC18_J2
   rw [wrp (n := n + 1) (by omega) (by omega), wrp (n := (k : Int) + 1) (by omega) (by omega)]
   refine ⟨fun hc => ?_, fun hc => ⟨by simp; omega, ?_⟩⟩
   ·rw [if_pos (of_decide_eq_true hc)] at hg
    exact ⟨⟨k + 1, by push_cast; rfl, by omega, by omega, by omega, by push_cast; omega, hg⟩, by first | omega | (dsimp only; omega)⟩
   ·rw [if_neg (of_decide_eq_false hc)] at hg
    exact ⟨⟨k + 1, by push_cast; rfl, by omega, by simp; omega, by omega, by push_cast; omega, by rw [List.append_assoc]; exact hg⟩, by first | omega | (dsimp only; omega)⟩
  ·have w : (gi l (k : Int)).What ≠ 1 := by simpa using w
   rw [if_neg w] at hg
   unfold VC18_J4 VC18_J2
   rw [wrp (n := (k : Int) + 1) (by omega) (by omega)]
   have ec : (((mget g (gi l (k : Int)).Prc).getD 0 == 0) || ((gi l (k : Int)).What != 2)) = true ↔ ((mget g (gi l (k : Int)).Prc).getD 0 = 0 ∨ (gi l (k : Int)).What ≠ 2) := by
    rw [Bool.or_eq_true, beq_iff_eq, bne_iff_ne]
   refine ⟨fun hc => ⟨by simp; omega, ?_⟩, fun hc => ?_⟩
   ·rw [if_pos (ec.1 hc)] at hg
    exact ⟨⟨k + 1, by push_cast; rfl, by omega, by simp; omega, by omega, by push_cast; omega, by rw [List.append_assoc]; exact hg⟩, by first | omega | (dsimp only; omega)⟩
   ·rw [if_neg (fun h => by rw [ec.2 h] at hc; cases hc)] at hg
    exact ⟨⟨k + 1, by push_cast; rfl, by omega, by omega, by omega, by push_cast; omega, hg⟩, by first | omega | (dsimp only; omega)⟩
 ·have h := of_decide_eq_false h
  rw [List.drop_eq_nil_of_le (by omega), woGo, List.append_nil] at hg
  exact hg
theorem v32 (s : List Api_Row) (hp : preC2 s) : VC32 s (fun r => r = slices_Clone_api_Row_api_Row s) := by
 have hl : s.length ≤ 1000000 := hp
 intro _ b hb
 exact ⟨fun h => (hb h).symm, fun _ => ⟨by simp; omega, rfl⟩⟩
theorem v33 (s : List Api_Event) (hp : preC3 s) : VC33 s (fun r => r = slices_Clone_api_Event_api_Event s) := by
 have hl : s.length ≤ 1000000 := hp
 intro _ b hb
 exact ⟨fun h => (hb h).symm, fun _ => ⟨by simp; omega, rfl⟩⟩
theorem wo_sub (ops : List Int) : ∀ (l : List Api_Event) (n : Int) (g : List (Int × Int)), (woGo ops l n g).Sublist l
 | [], _, _ => by rw [woGo]; exact List.Sublist.refl _
 | x :: l, n, g => by
  rw [woGo]
  split
  ·split
   ·exact (wo_sub ops l _ _).cons _
   ·exact (wo_sub ops l _ _).cons₂ _
  ·split
   ·exact (wo_sub ops l _ _).cons₂ _
   ·exact (wo_sub ops l _ _).cons _
theorem bs_range (f : Int → Bool) : ∀ (k : Nat) (i j : Int), i ≤ j → i ≤ bsGo f k i j ∧ bsGo f k i j ≤ j
 | 0, i, j, h => ⟨by rw [bsGo]; omega, by rw [bsGo]; omega⟩
 | k + 1, i, j, h => by
  rw [bsGo]
  split
  ·split
   ·have := bs_range f k ((i + j) / 2 + 1) j (by omega); omega
   ·have := bs_range f k i ((i + j) / 2) (by omega); omega
  ·omega
theorem head_range (c : Histtext_Case) : 0 ≤ (shrink_Head c).1 ∧ (shrink_Head c).1 ≤ c.Events.length := by
 unfold shrink_Head
 split
 ·exact ⟨by simp, by simp⟩
 ·split
  ·exact ⟨by simp, by simp⟩
  ·exact bs_range _ _ _ _ (by omega)
theorem v14 (c : Histtext_Case) (hp : prePa c) : VC14 c (fun r => r = shrink_Part c) := by
 obtain ⟨hO, hR, hE⟩ := hp
 intro _ _
 refine ⟨hO, ?_⟩
 rintro _ rfl
 unfold shrink_Part
 refine ⟨fun h => by rw [if_pos (by simpa using h)], fun h => ?_⟩
 have h : (shrink_Head c).2 = 0 := by simpa using h
 rw [if_neg (by omega)]
 obtain ⟨g0, g1⟩ := head_range c
 refine ⟨hR, ?_⟩
 rintro _ rfl _
 refine ⟨⟨g0, g1⟩, by show (c.Events.take _).length ≤ 1000000; rw [List.length_take]; omega, ?_⟩
 rintro _ rfl hsh
 rintro _ rfl hso
 have e1 : slices_Clone_api_Row_api_Row c.Object.Rows = c.Object.Rows := rfl
 have e2 : slices_Clone_api_Event_api_Event (c.Events.take (shrink_Head c).1.toNat) = headEv c := rfl
 rw [e1, e2]
 have hso : (oper_Of (headEv c)).1.length ≤ 140737488355328 := hso
 have hel : (headEv c).length ≤ 1000000 := by unfold headEv; rw [List.length_take]; omega
 generalize hG : partGo c.Object (oper_Of (headEv c)).1.length (headEv c) = G
 rw [wrp (by omega) (by omega)]
 refine ⟨fun i a b d rows out => -1 ≤ i ∧ i ≤ 200000000000000 ∧ a = c.Object.States ∧ b = c.Object.Kinds ∧ d = c.Object.Init ∧ rows = c.Object.Rows ∧ out.length ≤ 1000000 ∧ partGo c.Object (i + 1).toNat out = G, fun i _ _ _ _ _ => (i + 1).toNat, ⟨by omega, by omega, rfl, rfl, rfl, rfl, hel, by rw [show (((oper_Of (headEv c)).1.length : Int) - 1 + 1).toNat = (oper_Of (headEv c)).1.length by omega]; exact hG⟩, ?_⟩
 rintro i _ _ _ _ out ⟨i0, i1, rfl, rfl, rfl, rfl, ho, hg⟩
 refine ⟨fun hi => ?_, fun hi => ?_⟩
 ·have hi := of_decide_eq_true hi
  obtain ⟨k, rfl⟩ := Int.eq_ofNat_of_zero_le hi
  rw [show (((k : Nat) : Int) + 1).toNat = k + 1 by omega, partGo] at hg
  refine ⟨ho, ?_⟩
  rintro _ rfl _
  refine ⟨hO, ?_⟩
  rintro _ rfl
  have hsl := (wo_sub [(k : Int)] out 0 []).length_le
  have hsl : (shrink_Without out [(k : Int)]).length ≤ out.length := hsl
  unfold VC14_J2
  rw [wrp (by omega) (by omega)]
  refine ⟨fun h2 => ⟨head_range _, ⟨by omega, by omega, rfl, rfl, rfl, rfl, by rw [List.length_take]; omega, ?_⟩, by first | omega | (dsimp only; omega)⟩, fun h2 => ⟨⟨by omega, by omega, rfl, rfl, rfl, rfl, ho, ?_⟩, by first | omega | (dsimp only; omega)⟩⟩
  ·rw [if_pos (by simpa using h2)] at hg
   rw [show (((k : Nat) : Int) - 1 + 1).toNat = k by omega]; exact hg
  ·rw [if_neg (by simpa using h2)] at hg
   rw [show (((k : Nat) : Int) - 1 + 1).toNat = k by omega]; exact hg
 ·have hi := of_decide_eq_false hi
  rw [show (i + 1).toNat = 0 by omega, partGo] at hg
  unfold VC14_J1
  rw [← hg]
theorem v7 (o : Api_Object) (l : List Api_Event) : VC7 o l (fun r => r = law41_few o l) := by
 intro _ _
 rintro _ rfl
 unfold law41_few
 congr 1
 exact decide_eq_decide.2 (by omega)
theorem v21 : VC21 (fun r => r = law41_flag) := rfl
theorem v22 : VC22 (fun r => r = law41_bad) := rfl
theorem v8 : VC8 (fun r => r = law41_awake) := by
 have hp : preO law41_flag := by unfold preO inR; decide
 unfold VC8
 rintro _ rfl _ _ rfl _
 refine ⟨hp, ?_⟩
 rintro _ rfl
 refine ⟨hp, ?_⟩
 rintro _ rfl
 refine ⟨⟨hp, by decide, by decide⟩, ?_⟩
 rintro _ rfl _ _ _ rfl _
 refine ⟨hp, ?_⟩
 rintro _ rfl _ rfl _
 refine ⟨by show law41_bad.length ≤ 1000000; decide, ?_⟩
 rintro _ rfl _
 refine ⟨by unfold preCa preO inR; decide, ?_⟩
 rintro _ rfl
 refine ⟨fun _ => ?_, fun h => ?_⟩
 ·rintro _ rfl _
  refine ⟨by decide, ?_⟩
  rintro _ rfl
  refine ⟨fun _ => ?_, fun h => ?_⟩
  ·rintro _ rfl _
   refine ⟨by decide, ?_⟩
   rintro _ rfl
   decide +kernel
  ·exfalso
   revert h
   decide +kernel
 ·exfalso
  revert h
  decide +kernel
end Go.Proofs.Ytojdelnnjhbgbaa
