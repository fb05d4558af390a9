/- Verdicts as text: the place behind a line, the document's picks. -/
import Derived.Test.YtkgcdoeldilhaaaGreatDoorNV25
set_option linter.all false
namespace Go.Proofs.YtkgcdoeldilhaaaGreatDoor
open Go Go.Sv Go.Pu
theorem lines_goodL (s : Bs) (hs : s.length ≤ 1000000) : goodL (token_Lines s) := by
 obtain ⟨a, b, _⟩ := lines_len s.length s 1 0
 have a : (token_Lines s).length ≤ s.length := a
 refine ⟨by omega, fun r hr => ⟨by rw [pairsT_len]; have := b r hr; omega, fun p hp => ?_⟩⟩
 simp only [pairsT, List.mem_map] at hp
 obtain ⟨t, ht, rfl⟩ := hp
 obtain ⟨k, g⟩ := (flat_good s).1 t (List.mem_flatten.2 ⟨_, hr, ht⟩)
 have a := g.lo
 have b := g.hi
 unfold tend at b
 exact ⟨a, by show t.At ≤ _; omega, by show t.Text.length ≤ _; omega⟩
theorem v20 (s : Bs) (hp : len1 s) : VC20 s (fun r => r = verdict_behind s) := by
 have hs : s.length ≤ 1000000 := hp
 refine ⟨hp, ?_⟩
 rintro _ rfl
 intro hsm
 simp only [sm] at hsm
 have hT : verdict_behind s = beh s 1 0 := rfl
 rw [hT]
 generalize hT : beh s 1 0 = T
 have hL : token_Lines s = linesL s 1 0 := rfl
 rw [hL] at hsm ⊢
 generalize hM : linesL s 1 0 = M at hsm ⊢
 unfold VC20_J1
 refine ⟨fun a x => 0 ≤ x ∧ x ≤ M.length ∧ 0 ≤ a ∧ a ≤ s.length ∧ M.drop x.toNat = linesL (s.drop a.toNat) (x + 1) a ∧ beh (s.drop a.toNat) (x + 1) a = T, fun _ x => (M.length - x).toNat, ⟨by omega, by omega, by omega, by omega, by simpa using hM.symm, by simpa using hT⟩, ?_⟩
 rintro a x ⟨x0, x1, a0, a1, hd, hb⟩
 refine ⟨fun hx => ?_, fun hx => ?_⟩
 ·have hx := of_decide_eq_true hx
  have hne : s.drop a.toNat ≠ [] := by
   intro e
   rw [e, linesL_nil, drop_gi x0 hx] at hd; cases hd
  have ha : a < s.length := by
   by_cases h : a < s.length
   ·exact h
   ·exact absurd (List.drop_eq_nil_of_le (by omega)) hne
  rw [drop_gi x0 hx, linesL_cons hne] at hd
  obtain ⟨hrow, hrest⟩ := List.cons.inj hd
  rw [beh_cons hne] at hb
  -- behind the line's end
  have fin : ∀ e : Int, a ≤ e → e ≤ s.length → (∀ j : Int, a ≤ j → j < e → gi s j ≠ 10) → (e < s.length → gi s e = 10) →
    VC20_J2 s (fun r => r = T) M (fun a x => 0 ≤ x ∧ x ≤ M.length ∧ 0 ≤ a ∧ a ≤ s.length ∧ M.drop x.toNat = linesL (s.drop a.toNat) (x + 1) a ∧ beh (s.drop a.toNat) (x + 1) a = T) (fun _ x => (M.length - x).toNat) a x e := by
   intro e e0 e1 hin hend
   have htw := tw_seg a0 e0 e1 hin hend
   have hlen := seg_len a0 e0 e1
   have htl : ((tw (s.drop a.toNat)).length : Int) = e - a := by rw [htw]; exact hlen
   have hw : IntKind.i64.wrap (e + 1) = e + 1 := wrp (by omega) (by omega)
   have hw2 : IntKind.i64.wrap (x + 1) = x + 1 := wrp (by omega) (by omega)
   have hm : (if ((s.length : Nat) : Int) < e + 1 then ((s.length : Nat) : Int) else e + 1) = a + ((min ((tw (s.drop a.toNat)).length + 1) (s.drop a.toNat).length : Nat) : Int) := by
    rw [List.length_drop]
    split <;> omega
   unfold VC20_J2
   rw [hw, hw2, hm]
   have hrl : (gi M x).length = (rowOf (tw (s.drop a.toNat)) (x + 1) a).length := by rw [hrow]
   refine ⟨fun hl => ?_, fun hl => ?_⟩
   ·have hl := of_decide_eq_true hl
    rw [if_neg (by intro e; rw [e, List.length_nil] at hrl; omega)] at hb
    exact hb
   ·have hl := of_decide_eq_false hl
    rw [if_pos (List.length_eq_zero_iff.1 (by omega)), List.drop_drop] at hb
    rw [List.drop_drop] at hrest
    have hm0 : e < s.length → a + ((min ((tw (s.drop a.toNat)).length + 1) (s.drop a.toNat).length : Nat) : Int) = e + 1 := by rw [List.length_drop]; omega
    have hm1 : ¬ e < s.length → a + ((min ((tw (s.drop a.toNat)).length + 1) (s.drop a.toNat).length : Nat) : Int) = s.length := by rw [List.length_drop]; omega
    generalize a + ((min ((tw (s.drop a.toNat)).length + 1) (s.drop a.toNat).length : Nat) : Int) = m at hm0 hm1 hb ⊢
    have hmm : 0 ≤ m ∧ m ≤ s.length := by
     by_cases h : e < s.length
     ·have := hm0 h; omega
     ·have := hm1 h; omega
    have hdr : s.drop (a.toNat + ((tw (s.drop a.toNat)).length + 1)) = s.drop m.toNat := by
     by_cases h : e < s.length
     ·rw [show a.toNat + ((tw (s.drop a.toNat)).length + 1) = m.toNat by have := hm0 h; omega]
     ·rw [List.drop_eq_nil_of_le (by omega), List.drop_eq_nil_of_le (by have := hm1 h; omega)]
    rw [hdr] at hb hrest
    refine ⟨⟨by omega, by omega, hmm.1, hmm.2, ?_, hb⟩, by first | omega | (dsimp only; omega)⟩
    rw [hrest]
    by_cases h : e < s.length
    ·rw [show a + ((tw (s.drop a.toNat)).length : Int) + 1 = m by have := hm0 h; omega]
    ·rw [show s.drop m.toNat = [] from List.drop_eq_nil_of_le (by have := hm1 h; omega)]; rfl
  refine ⟨⟨x0, hx⟩, fun _ => ⟨fun e => a ≤ e ∧ e ≤ s.length ∧ ∀ j : Int, a ≤ j → j < e → gi s j ≠ 10, fun e => (s.length - e).toNat, ⟨Int.le_refl _, a1, fun j _ _ => by omega⟩, ?_⟩⟩
  rintro e ⟨e0, e1, hin⟩
  unfold VC20_J3
  refine ⟨fun he => ?_, fun he => ?_⟩
  ·have he := of_decide_eq_true he
   refine ⟨⟨by omega, he⟩, fun h => ?_, fun h => ?_⟩
   ·have h : gi s e ≠ 10 := fun e2 => by rw [e2] at h; simp at h
    rw [wrp (n := e + 1) (by omega) (by omega)]
    refine ⟨⟨by omega, by omega, fun j j0 j1 => ?_⟩, by first | omega | (dsimp only; omega)⟩
    by_cases hj : j = e
    ·subst hj; exact h
    ·exact hin j j0 (by omega)
   ·have h : ((gi s e).toNat : Int) = 10 := by simpa using h
    refine fin e e0 e1 hin (fun _ => ?_)
    apply UInt8.toNat_inj.1
    show (gi s e).toNat = 10; omega
  ·have he := of_decide_eq_false he
   exact ⟨fun h => (by cases h), fun _ => fin e e0 e1 hin (fun h => absurd h he)⟩
 ·have hx := of_decide_eq_false hx
  rw [List.drop_eq_nil_of_le (by omega)] at hd
  have : s.drop a.toNat = [] := by
   by_cases h : s.drop a.toNat = []
   ·exact h
   ·rw [linesL_cons h] at hd; cases hd
  rw [this, beh_nil] at hb
  exact hb
theorem v27 (s : Bs) (a : Int) (hp : preBe s a) : VC27 s a (fun r => r = ref39_behind s a) := by
 obtain ⟨hs, a0, a1⟩ := hp
 unfold VC27 VC27_J1
 have key : ∀ e : Int, a ≤ e → e ≤ s.length → (∀ j : Int, a ≤ j → j < e → gi s j ≠ 10) → (e < s.length → gi s e = 10) → ref39_behind s a = if e < s.length then e + 1 else s.length := by
  intro e e0 e1 hin hend
  have htw := tw_seg a0 e0 e1 hin hend
  have hlen := seg_len a0 e0 e1
  have htl : ((tw (s.drop a.toNat)).length : Int) = e - a := by rw [htw]; exact hlen
  have hd : ref39_behind s a = a + ((min ((tw (s.drop a.toNat)).length + 1) (s.length - a.toNat) : Nat) : Int) := rfl
  rw [hd]
  split <;> omega
 refine ⟨fun e => a ≤ e ∧ e ≤ s.length ∧ ∀ j : Int, a ≤ j → j < e → gi s j ≠ 10, fun e => (s.length - e).toNat, ⟨Int.le_refl _, a1, fun j _ _ => by omega⟩, ?_⟩
 rintro e ⟨e0, e1, hin⟩
 refine ⟨fun he => ?_, fun he => ?_⟩
 ·have he := of_decide_eq_true he
  rw [wrp (n := e + 1) (by omega) (by omega)]
  refine ⟨⟨by omega, he⟩, fun h => ?_, fun h => ?_⟩
  ·have h : ((gi s e).toNat : Int) = 10 := by simpa using h
   rw [key e e0 e1 hin (fun _ => by apply UInt8.toNat_inj.1; show (gi s e).toNat = 10; omega), if_pos he]
  ·have h : gi s e ≠ 10 := fun e2 => by rw [e2] at h; simp at h
   refine ⟨⟨by omega, by omega, fun j j0 j1 => ?_⟩, by first | omega | (dsimp only; omega)⟩
   by_cases hj : j = e
   ·subst hj; exact h
   ·exact hin j j0 (by omega)
 ·have he := of_decide_eq_false he
  rw [key e e0 e1 hin (fun h => absurd h he), if_neg he]
theorem picked_snoc {l : List Api_Pick} {p : Api_Pick} (h : pickedB l = true) (hl : l.length < 64) (hp : pickOK p = true) : pickedB (l ++ [p]) = !(l.any fun q => q.Oper == p.Oper) := by
 obtain ⟨a, b, c⟩ := (pickedB_iff l).1 h
 rw [Bool.eq_iff_iff, pickedB_iff, Bool.not_eq_true', ← Bool.not_eq_true, any_oper, List.map_append, List.map_cons, List.map_nil, nodup_snoc]
 refine ⟨fun h => h.2.2.2, fun h => ⟨by simp; omega, fun q hq => ?_, c, h⟩⟩
 rcases List.mem_append.1 hq with hq | hq
 ·exact b q hq
 ·have : q = p := by simpa using hq
  rw [this]; exact hp
theorem v26 (l : List (List Ref05_Token)) (n e : Int) (hp : preRp l n e) : VC26 l n e (fun r => r = ref39_picks l n e) := by
 intro _
 obtain ⟨n0, n1, hl, hne, hg⟩ := hp
 have hpos := List.length_pos_iff.2 hne
 unfold VC26_J1 ref39_picks
 generalize hT : (picksGo e n.toNat ((l.drop 1).map pairsR) []).1 = T
 refine ⟨fun out i => 1 ≤ i ∧ i ≤ n + 1 ∧ i ≤ l.length ∧ (out.length : Int) = i - 1 ∧ pickedB out = true ∧ (picksGo e (n + 1 - i).toNat ((l.drop i.toNat).map pairsR) out).1 = T, fun _ i => (n + 1 - i).toNat, ⟨by omega, by omega, by omega, rfl, rfl, by rw [show (n + 1 - 1).toNat = n.toNat by omega]; exact hT⟩, ?_⟩
 rintro out i ⟨i0, i1, i2, ho, hpk, ht⟩
 refine ⟨fun hi => ?_, fun hi => ?_⟩
 ·have hi := of_decide_eq_true hi
  rw [show (n + 1 - i).toNat = (n + 1 - (i + 1)).toNat + 1 by omega] at ht
  rw [wrp (n := i + 1) (by omega) (by omega)]
  refine ⟨fun hx => ?_, fun hx => ?_⟩
  ·have hx := of_decide_eq_true hx
   rw [List.drop_eq_nil_of_le (by omega)] at ht
   exact ht
  ·have hx := of_decide_eq_false hx
   have hx : i < l.length := by omega
   obtain ⟨g, gne⟩ := hg _ (mem_gi (by omega) hx)
   rw [drop_gi (by omega) hx, List.map_cons, picksGo_succ] at ht
   refine ⟨⟨by omega, hx⟩, fun _ => ⟨pick_pre g, ?_⟩⟩
   have hnu : ref24_Numbers (gi l i) ([112, 105, 99, 107] : Bs) [0, 0] [63, 1000000] e = numsOf (pairsR (gi l i)) wPick [0, 0] [63, 1000000] e := rfl
   rw [hnu]
   rintro _ rfl
   intro _
   have h2 := fun h => nums_two (l := pairsR (gi l i)) (w := wPick) (a := 0) (b := 0) (c := 63) (d := 1000000) (e := e) h
   have g0 : (gi (pairsR (gi l i)) 0).1 = (gi (gi l i) 0).At := by
    rw [pairsR_gi (by omega) (by have := List.length_pos_iff.2 gne; omega)]
   rw [g0] at ht
   generalize numsOf (pairsR (gi l i)) wPick [0, 0] [63, 1000000] e = q at *
   refine ⟨fun h => ?_, fun h => ?_⟩
   ·rw [if_pos (bne_iff_ne.1 h)] at ht
    exact ht
   ·have h : q.2.2 = 0 := by simpa using h
    rw [if_neg (by simp [h])] at ht
    obtain ⟨z1, x, y, hxy, b0, b1, b2, b3⟩ := h2 h
    have gx : gi q.1 0 = x := by rw [hxy]; rfl
    have gy : gi q.1 1 = y := by rw [hxy]; rfl
    have hq2 : q.1.length = 2 := by rw [hxy]; rfl
    rw [gx, gy] at ht ⊢
    have hs := picked_snoc (p := ⟨x, y⟩) hpk (by omega) ((pickOK_iff _).2 ⟨b0, b1, b2, b3⟩)
    refine ⟨⟨by omega, by omega⟩, ⟨by omega, by omega⟩, by simp; omega, ?_⟩
    rintro _ rfl
    have hr : ref39_picked (out ++ [⟨x, y⟩]) = pickedB (out ++ [⟨x, y⟩]) := rfl
    rw [hr, hs, Bool.not_not]
    refine ⟨fun hd => ⟨⟨by omega, hx⟩, fun _ => ⟨⟨by omega, by have := List.length_pos_iff.2 gne; omega⟩, ?_⟩⟩, fun hd => ⟨⟨by omega, by omega, by omega, by simp; omega, by rw [hs, hd]; rfl, ?_⟩, by first | omega | (dsimp only; omega)⟩⟩
    ·rw [if_pos hd] at ht; exact ht
    ·rw [if_neg (by simp [hd])] at ht; exact ht
 ·have hi := of_decide_eq_false hi
  rw [show (n + 1 - i).toNat = 0 by omega] at ht
  exact ht
end Go.Proofs.YtkgcdoeldilhaaaGreatDoor
