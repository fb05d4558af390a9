/- Parts' linearizations, pairs and what is joined, as the code finds them. -/
import Derived.Test.YteahldlmkheleaaLV17
set_option linter.all false
namespace Go.Proofs.Yteahldlmkheleaa
open Go Go.Sv Go.Pu
def gT (of : List Int) (k : Int) (t : Nat) : List Int := ((List.range t).filter fun i : Nat => gi of (i : Int) == k).map fun i : Nat => (i : Int)
theorem gw (of : List Int) (k : Int) (t : Nat) : gT of k (t + 1) = gT of k t ++ (if (gi of (t : Int) == k) = true then [(t : Int)] else []) := by
 unfold gT
 rw [List.range_succ, List.filter_append, List.map_append, List.filter_cons, List.filter_nil]
 split <;> rfl
theorem jZ (of : List Int) (k : Int) (t : Nat) : (gT of k t).length ≤ t := by
 unfold gT
 rw [List.length_map]
 have := List.length_filter_le (fun i : Nat => gi of (i : Int) == k) (List.range t)
 rw [List.length_range] at this; exact this
theorem nX {of : List Int} {k : Int} {t : Nat} {i : Int} : i ∈ gT of k t ↔ 0 ≤ i ∧ i < t ∧ gi of i = k := by
 unfold gT
 rw [List.mem_map]
 constructor
 ·rintro ⟨j, hj, rfl⟩
  rw [List.mem_filter, List.mem_range] at hj
  exact ⟨by omega, by omega, by simpa using hj.2⟩
 ·rintro ⟨h0, h1, h2⟩
  obtain ⟨n, rfl⟩ := Int.eq_ofNat_of_zero_le h0
  exact ⟨n, by rw [List.mem_filter, List.mem_range]; exact ⟨by omega, by simpa using h2⟩, rfl⟩
theorem j6 (k x : Int) : ∀ (l : List Int) (i : Int), eD k (l ++ [x]) i = eD k l i ++ (if (x == k) = true then [i + l.length] else [])
 | [], i => by simp [eD]
 | y :: l, i => by
  rw [List.cons_append, eD, eD, j6 k x l (i + 1)]
  have e : i + 1 + (l.length : Int) = i + ((y :: l).length : Int) := by simp only [List.length_cons]; push_cast; omega
  rw [e]
  split <;> rfl
theorem j5 (of : List Int) (k : Int) : ∀ t : Nat, t ≤ of.length → eD k (of.take t) 0 = gT of k t
 | 0, _ => rfl
 | t + 1, h => by
  rw [ep (by omega), j6, j5 of k t (by omega), gw]
  have e : (0 : Int) + ((of.take t).length : Int) = (t : Int) := by rw [List.length_take]; omega
  rw [e]
theorem fL (of : List Int) (k : Int) : bG of k = gT of k of.length := by
 have := j5 of k of.length (by omega)
 rwa [List.take_length] at this
theorem pK (l : List aa) (of : List Int) (k : Int) : ∀ t : Nat, t ≤ l.length → ew (fun i => cz i of k) (l.take t) 0 = (gT of k t).map (gi l)
 | 0, _ => rfl
 | t + 1, h => by
  rw [gv _ (by omega), pK l of k t (by omega), gw, List.map_append]
  unfold cz
  split <;> rfl
theorem mM {l : List aa} {of : List Int} (hl : l.length = of.length) (k : Int) : eK l of k = (bG of k).map (gi l) := by
 have := pK l of k l.length (by omega)
 rw [List.take_length, hl] at this
 rw [fL]; exact this
theorem v38 (h : ak) (hp : dS h) : VC38 h (fun r => r = cm h) := by
 unfold VC38
 intro _ _
 refine ⟨hp, ?_⟩
 rintro _ rfl
 unfold cm
 refine ⟨fun hb => by rw [if_pos (by simpa using hb)], fun hb => ⟨hp, ?_⟩⟩
 have hb : (aV h).2 = 0 := by simpa using hb
 rintro _ rfl _ _
 have e : bP h = (cQ h, ofH h) := by unfold bP; rw [if_neg (by omega)]
 rw [e, if_neg (by omega)]
 exact ⟨fun h1 => by rw [if_pos (by simp at h1; omega)], fun h1 => by rw [if_neg (by simp at h1; omega)]⟩
theorem v52 (of : List Int) (k : Int) (hp : kK of k) : VC52 of k (fun r => r = bG of k) := by
 unfold VC52 kK at *
 intro _
 refine ⟨fun out x => ∃ t : Nat, x = t ∧ t ≤ of.length ∧ out = gT of k t, fun _ x => (of.length - x).toNat, ⟨0, rfl, by omega, rfl⟩, ?_⟩
 rintro _ _ ⟨t, rfl, ht, rfl⟩
 have hl := jZ of k t
 refine ⟨fun hi => ?_, fun hi => ?_⟩
 ·rw [decide_eq_true_eq] at hi
  have hw := wrp (n := (t : Int) + 1) (by omega) (by omega)
  refine ⟨⟨by omega, hi⟩, fun hc => ⟨by simp; omega, ?_⟩, fun hc => ?_⟩ <;> unfold VC52_J2 <;> rw [hw] <;> refine ⟨⟨t + 1, by push_cast; rfl, by omega, ?_⟩, by dsimp only; omega⟩
  ·rw [gw, if_pos hc]
  ·rw [gw, if_neg (by rw [hc]; decide), List.append_nil]
 ·rw [decide_eq_false_iff_not] at hi
  have : t = of.length := by omega
  subst this
  exact (fL of k).symm
theorem v55 (i : Int) (of : List Int) (k : Int) (hp : lr i of k) : VC55 i of k (fun r => r = cz i of k) := by
 intro _
 exact ⟨hp, rfl⟩
theorem v54_55 (l : List aa) (of : List Int) (k : Int) (hp : nk l of k) : VC54_55 l of k (fun r => r = bg l of k) := by
 obtain ⟨hp1, hp2⟩ := hp
 unfold VC54_55
 intro _ _
 refine ⟨fun out x => ∃ t : Nat, x = t ∧ t ≤ l.length ∧ out = ew (fun i => cz i of k) (l.take t) 0, fun _ x => (l.length - x).toNat, ⟨0, rfl, by omega, rfl⟩, ?_⟩
 rintro _ _ ⟨t, rfl, ht, rfl⟩
 have hl := ia (fun i => cz i of k) l t
 refine ⟨fun hi => ?_, fun hi => ?_⟩
 ·rw [decide_eq_true_eq] at hi
  have hw := wrp (n := (t : Int) + 1) (by omega) (by omega)
  have hs := gv (fun i => cz i of k) (l := l) (k := t) (by omega)
  refine ⟨⟨by omega, hi⟩, ⟨by omega, by omega⟩, ?_⟩
  rintro _ rfl
  refine ⟨fun hc => ⟨by simp; omega, ?_⟩, fun hc => ?_⟩ <;> unfold VC54_55_J2 <;> rw [hw] <;> refine ⟨⟨t + 1, by push_cast; rfl, by omega, ?_⟩, by dsimp only; omega⟩
  ·rw [hs, if_pos hc]
  ·rw [hs, if_neg (by rw [show cz (t : Int) of k = false from hc]; decide), List.append_nil]
 ·rw [decide_eq_false_iff_not] at hi
  unfold VC54_55_J1 bg
  rw [List.take_of_length_le (by omega)]
theorem oZ {o : ai} {l : List aa} (h : (a9 o l).2 = 0) : bV o l 20 = 0 ∧ c6 o l (a9 o l).1 = true := by
 rcases lk o l with ⟨h1, h2⟩ | ⟨_, _, h2⟩ | ⟨x, L, h1, h2, h3⟩
 ·rw [h2] at h; exact absurd h h1
 ·rw [h2] at h; cases h
 ·obtain ⟨c1, c2, _⟩ := il h1
  refine ⟨h1, ?_⟩
  rw [h3]
  exact (mc c1 c2 x).1 (by rw [h2]; exact List.mem_cons_self ..)
theorem ki {o : ai} {l : List aa} (h : (a9 o l).2 = 0) : (opers (a9 o l).1).Nodup ∧ ∀ x ∈ opers (a9 o l).1, 0 ≤ x ∧ x < l.length := oy (oW.1 (oZ h).2).2.2.1
theorem mb {p : ah} {ps : List ah} (h : p ∈ ps) : p.Oper ∈ opers ps := by
 unfold opers; exact List.mem_map.2 ⟨p, h, rfl⟩
theorem kT {o : ai} {l : List aa} (h : (a9 o l).2 = 0) : (a9 o l).1.length ≤ l.length := by
 obtain ⟨h1, h2⟩ := ki h
 have := ma (b := (List.range l.length).map fun i : Nat => (i : Int)) h1 (fun x hx => by
  obtain ⟨a, b⟩ := h2 x hx
  exact List.mem_map.2 ⟨x.toNat, List.mem_range.2 (by omega), by omega⟩)
 rw [List.length_map, List.length_range] at this
 unfold opers at this
 rwa [List.length_map] at this
theorem pg {own : List Int} {x : List ah} {t : Nat} (h : t < x.length) : ((x.take t).map (gR own) ++ x.drop t).set t (gR own (gi ((x.take t).map (gR own) ++ x.drop t) (t : Int))) = (x.take (t + 1)).map (gR own) ++ x.drop (t + 1) := by
 have hl : ((x.take t).map (gR own)).length = t := by rw [List.length_map, List.length_take]; omega
 have hg : gi ((x.take t).map (gR own) ++ x.drop t) (t : Int) = gi x (t : Int) := by
  rw [cx _ _ (by simp; omega), List.getElem_append_right (by omega), List.getElem_drop, cx _ _ h]
  congr 1; omega
 rw [hg, List.set_append_right _ _ (by omega), hl, Nat.sub_self, fq h, List.set_cons_zero, ep h, List.map_append, List.append_assoc]; rfl
theorem pW {own : List Int} {x : List ah} {t : Nat} (h : t < x.length) : gi ((x.take t).map (gR own) ++ x.drop t) (t : Int) = gi x (t : Int) := by
 have hl : ((x.take t).map (gR own)).length = t := by rw [List.length_map, List.length_take]; omega
 rw [cx _ _ (by simp; omega), List.getElem_append_right (by omega), List.getElem_drop, cx _ _ h]
 congr 1; omega
theorem jS {l : List aa} {of : List Int} {os : List ai} {t : Nat} (h : t < os.length) (out : List (List ah)) : fp l of (os.drop t) t out = if (a9 (gi os (t : Int)) (eK l of (t : Int))).2 ≠ 0 then ([], (a9 (gi os (t : Int)) (eK l of (t : Int))).2) else fp l of (os.drop (t + 1)) ((t : Int) + 1) (out ++ [rowOf l of (gi os (t : Int)) (t : Int)]) := by
 rw [fq h, fp]
theorem v39 (h : ak) (l : List aa) (of : List Int) (hp : ni h l of) : VC39 h l of (fun r => r = bT h l of) := by
 obtain ⟨⟨hp1, hp2, hp3⟩, hp4, hp5, hp6⟩ := hp
 unfold VC39
 intro hso _ _ _
 simp only [sm] at hso
 refine ⟨fun out x => ∃ t : Nat, x = t ∧ t ≤ h.ae.length ∧ out.length ≤ t ∧ fp l of (h.ae.drop t) t out = bT h l of, fun _ x => (h.ae.length - x).toNat, ⟨0, rfl, by omega, by simp, rfl⟩, ?_⟩
 rintro out _ ⟨t, rfl, ht, hol, hg⟩
 refine ⟨fun hi => ?_, fun hi => ?_⟩
 ·rw [decide_eq_true_eq] at hi
  have hw := wrp (n := (t : Int) + 1) (by omega) (by omega)
  rw [jS (by omega)] at hg
  refine ⟨⟨by omega, hi⟩, fun _ => ⟨by unfold kK; omega, ?_⟩⟩
  rintro _ rfl _
  refine ⟨⟨by omega, by omega⟩, ?_⟩
  rintro _ rfl _
  refine ⟨hp1 _ (fh (by omega) hi), ?_⟩
  rintro _ rfl _
  have hoo : bg l of (t : Int) = eK l of (t : Int) := rfl
  rw [hoo]
  refine ⟨fun he => ?_, fun he => ?_⟩
  ·rw [if_pos (show (a9 (gi h.ae (t : Int)) (eK l of (t : Int))).2 ≠ 0 from by simpa using he)] at hg
   exact hg
  ·have he : (a9 (gi h.ae (t : Int)) (eK l of (t : Int))).2 = 0 := by simpa using he
   rw [if_neg (by rw [he]; decide)] at hg
   have hin := ki he
   have hnl : (eK l of (t : Int)).length = (bG of (t : Int)).length := by rw [mM hp4, List.length_map]
   have hnn : (bG of (t : Int)).length ≤ 1000000 := by rw [fL]; have := jZ of (t : Int) of.length; omega
   have hfl := kT he
   generalize hx : (a9 (gi h.ae (t : Int)) (eK l of (t : Int))).1 = x at *
   refine ⟨fun o2 p2 i => o2 = out ∧ ∃ j : Nat, i = j ∧ j ≤ x.length ∧ p2 = (x.take j).map (gR (bG of (t : Int))) ++ x.drop j, fun _ _ i => (x.length - i).toNat, ⟨rfl, 0, rfl, by omega, by simp⟩, ?_⟩
   rintro _ _ _ ⟨rfl, j, rfl, hj, rfl⟩
   refine ⟨fun hji => ?_, fun hji => ?_⟩
   ·rw [decide_eq_true_eq] at hji
    have hlen : (((x.take j).map (gR (bG of (t : Int))) ++ x.drop j).length : Int) = x.length := by simp; omega
    have hga := pW (own := bG of (t : Int)) (x := x) (t := j) (by omega)
    have hop := hin.2 (gi x (j : Int)).Oper (mb (fh (by omega) hji))
    have hsr := pg (own := bG of (t : Int)) (x := x) (t := j) (by omega)
    rw [wrp (n := (j : Int) + 1) (by omega) (by omega), show ((j : Int)).toNat = j by omega]
    refine ⟨by omega, by rw [hga]; omega, by omega, ⟨rfl, j + 1, by push_cast; rfl, by omega, ?_⟩, by dsimp only; omega⟩
    rw [← hsr]; rfl
   ·rw [decide_eq_false_iff_not] at hji
    have : j = x.length := by omega
    subst this
    unfold VC39_J2
    rw [hw, List.take_length, List.drop_length, List.append_nil]
    refine ⟨by simp; omega, ⟨t + 1, by push_cast; rfl, by omega, by simp; omega, ?_⟩, by dsimp only; omega⟩
    rw [← hg, ← hx]
    push_cast
    rfl
 ·rw [decide_eq_false_iff_not] at hi
  have : t = h.ae.length := by omega
  subst this
  rw [List.drop_length, fp] at hg
  exact hg
theorem v71 (n : Int) (hp : nu n) : VC71 n (fun r => r = bI n) := by
 obtain ⟨h0, h1⟩ := hp
 unfold VC71
 refine ⟨fun h => by simp at h; omega, fun _ => ?_⟩
 rw [show IntKind.i64.wrap (0 - 0) = 0 by rw [wrp] <;> omega, Int.sub_zero, wrp (by omega) (by omega)]
 refine ⟨fun h => ?_, fun h => rfl⟩
 rw [decide_eq_true_eq] at h
 exact ⟨⟨by omega, by simp⟩, ⟨h, by omega⟩, ⟨by omega, by omega⟩, by unfold VC71_J1; simp [bI]⟩
theorem jc {L : List (List ah)} {t : Nat} (h : t < L.length) : (L.take (t + 1)).flatten = (L.take t).flatten ++ gi L (t : Int) := by
 rw [ep h, List.flatten_append]; simp
theorem iH (L : List (List ah)) (t : Nat) : (L.take t).flatten.length ≤ L.flatten.length := by
 have : L.flatten = (L.take t).flatten ++ (L.drop t).flatten := by rw [← List.flatten_append, List.take_append_drop]
 rw [this]; simp
theorem v56 (L : List (List ah)) (hp : kM L) : VC56 L (fun r => r = bE L) := by
 unfold VC56 kM at *
 intro hs
 simp only [sm] at hs
 refine ⟨fun n x => ∃ t : Nat, x = t ∧ t ≤ L.length ∧ n = ((L.take t).flatten.length : Int), fun _ x => (L.length - x).toNat, ⟨0, rfl, by omega, rfl⟩, ?_⟩
 rintro _ _ ⟨t, rfl, ht, rfl⟩
 have hle := iH L t
 refine ⟨fun hi => ?_, fun hi => ?_⟩
 ·rw [decide_eq_true_eq] at hi
  have h1 := iH L (t + 1)
  have h2 := jc (L := L) (t := t) (by omega)
  rw [h2, List.length_append] at h1
  rw [wrp (n := (t : Int) + 1) (by omega) (by omega), wrp (n := ((L.take t).flatten.length : Int) + ((gi L (t : Int)).length : Int)) (by omega) (by omega)]
  refine ⟨⟨by omega, hi⟩, fun _ => ⟨fun h => by simp at h; omega, fun _ => ⟨⟨t + 1, by push_cast; rfl, by omega, by rw [h2, List.length_append]; push_cast; rfl⟩, by dsimp only; omega⟩⟩⟩
 ·rw [decide_eq_false_iff_not] at hi
  unfold VC56_J1
  refine ⟨⟨by omega, by omega⟩, ?_⟩
  rintro _ rfl _
  refine ⟨fun out x => ∃ u : Nat, x = u ∧ u ≤ L.length ∧ out = (L.take u).flatten, fun _ x => (L.length - x).toNat, ⟨0, rfl, by omega, rfl⟩, ?_⟩
  rintro _ _ ⟨u, rfl, hu, rfl⟩
  refine ⟨fun hi => ?_, fun hi => ?_⟩
  ·rw [decide_eq_true_eq] at hi
   have h1 := iH L (u + 1)
   have h2 := jc (L := L) (t := u) (by omega)
   rw [h2, List.length_append] at h1
   rw [wrp (n := (u : Int) + 1) (by omega) (by omega)]
   exact ⟨⟨by omega, hi⟩, fun _ => ⟨by omega, ⟨u + 1, by push_cast; rfl, by omega, h2.symm⟩, by dsimp only; omega⟩⟩
  ·rw [decide_eq_false_iff_not] at hi
   unfold VC56_J2 bE
   rw [List.take_of_length_le (by omega)]
end Go.Proofs.Yteahldlmkheleaa
