/- Pairs and what is joined, as the code finds them. -/
import Derived.Test.YteahldlmkheleaaLV18
set_option linter.all false
namespace Go.Proofs.Yteahldlmkheleaa
open Go Go.Sv Go.Pu
theorem gP (r : List ah) : ∀ (rs : List (List ah)) (a : Int), dC (rs ++ [r]) a = dC rs a ++ iy (a + rs.flatten.length) r.length
 | [], a => by simp [dC]
 | x :: rs, a => by
  rw [List.cons_append, dC, dC, gP r rs, List.append_assoc]
  have e : a + (x.length : Int) + (rs.flatten.length : Int) = a + ((x :: rs).flatten.length : Int) := by rw [List.flatten_cons, List.length_append]; push_cast; omega
  rw [e]
theorem ll (a : Int) (n : Nat) : (iy a n).length = n - 1 := by unfold iy; simp
theorem gg : ∀ (rs : List (List ah)) (a : Int), (dC rs a).length ≤ rs.flatten.length
 | [], a => by simp [dC]
 | x :: rs, a => by
  rw [dC, List.length_append, ll, List.flatten_cons, List.length_append]
  have := gg rs (a + x.length)
  omega
def gN (l : List aa) (all : List ah) (t : Nat) : List (Int × Int) := (List.range t).flatMap fun i => fm l all i all.length
theorem iu (l : List aa) (all : List ah) (i n : Nat) : fm l all i (n + 1) = fm l all i n ++ (if jL l all i n = true then [((i : Int), (n : Int))] else []) := by
 unfold fm
 rw [List.range_succ, List.filter_append, List.map_append, List.filter_cons, List.filter_nil]
 split <;> rfl
theorem jK (l : List aa) (all : List ah) (i n : Nat) : (fm l all i n).length ≤ n := by
 unfold fm
 rw [List.length_map]
 have := List.length_filter_le (jL l all i) (List.range n)
 rw [List.length_range] at this; exact this
theorem jk (l : List aa) (all : List ah) (t : Nat) : gN l all (t + 1) = gN l all t ++ fm l all t all.length := by
 unfold gN
 rw [List.range_succ, List.flatMap_append]; simp
theorem kC (l : List aa) (all : List ah) : ∀ t : Nat, (gN l all t).length ≤ all.length * t
 | 0 => by simp [gN]
 | t + 1 => by
  rw [jk, List.length_append, Nat.mul_succ]
  have := kC l all t
  have := jK l all t all.length
  omega
theorem j43 {l : List aa} {all : List ah} {P0 : List (Int × Int)} {Q : List ah × List (Int × Int) → Prop} (hP : P0.length ≤ 1000) (ha : all.length ≤ 1000) (hin : ∀ p ∈ all, 0 ≤ p.Oper ∧ p.Oper < l.length) (hQ : Q (all, P0 ++ kD l all)) : VC40_J1 l Q all P0 := by
 unfold VC40_J1
 refine ⟨fun ps x => ∃ t : Nat, x = t ∧ t ≤ all.length ∧ ps = P0 ++ gN l all t, fun _ x => (all.length - x).toNat, ⟨0, rfl, by omega, by simp [gN]⟩, ?_⟩
 rintro _ _ ⟨t, rfl, ht, rfl⟩
 refine ⟨fun hi => ?_, fun hi => ?_⟩
 ·rw [decide_eq_true_eq] at hi
  refine ⟨⟨by omega, hi⟩, fun ps x => ∃ u : Nat, x = u ∧ u ≤ all.length ∧ ps = P0 ++ gN l all t ++ fm l all t u, fun _ x => (all.length - x).toNat, ⟨0, rfl, by omega, by simp [fm]⟩, ?_⟩
  rintro _ _ ⟨u, rfl, hu, rfl⟩
  have h1 := kC l all t
  have h2 := jK l all t u
  have h3 : all.length * t ≤ 1000 * 1000 := Nat.mul_le_mul ha (by omega)
  refine ⟨fun hj => ?_, fun hj => ?_⟩
  ·rw [decide_eq_true_eq] at hj
   refine ⟨⟨by omega, hj⟩, hin _ (fh (by omega) hi), hin _ (fh (by omega) hj), ?_⟩
   rintro _ rfl
   refine ⟨fun hc => ⟨by simp; omega, ?_⟩, fun hc => ?_⟩ <;> unfold VC40_J4 <;> rw [wrp (n := (u : Int) + 1) (by omega) (by omega)] <;> refine ⟨⟨u + 1, by push_cast; rfl, by omega, ?_⟩, by dsimp only; omega⟩
   ·rw [iu, if_pos (show jL l all t u = true from hc), ← List.append_assoc]
   ·rw [iu, if_neg (by rw [show jL l all t u = false from hc]; decide), List.append_nil]
  ·rw [decide_eq_false_iff_not] at hj
   have : u = all.length := by omega
   subst this
   unfold VC40_J3
   rw [wrp (n := (t : Int) + 1) (by omega) (by omega)]
   exact ⟨⟨t + 1, by push_cast; rfl, by omega, by rw [jk, ← List.append_assoc]⟩, by dsimp only; omega⟩
 ·rw [decide_eq_false_iff_not] at hi
  have : t = all.length := by omega
  subst this
  exact hQ
theorem v40 (l : List aa) (rows : List (List ah)) (hp : lZ l rows) : VC40 l rows (fun r => r = cq l rows) := by
 obtain ⟨hp1, hp2⟩ := hp
 unfold VC40
 intro _ hs
 simp only [sm] at hs
 refine ⟨by unfold kM; omega, ?_⟩
 rintro _ rfl _
 refine ⟨fun ps a x => ∃ t : Nat, x = t ∧ t ≤ rows.length ∧ a = ((rows.take t).flatten.length : Int) ∧ ps = dC (rows.take t) 0, fun _ _ x => (rows.length - x).toNat, ⟨0, rfl, by omega, rfl, rfl⟩, ?_⟩
 rintro _ _ _ ⟨t, rfl, ht, rfl, rfl⟩
 refine ⟨fun hi => ?_, fun hi => ?_⟩
 ·rw [decide_eq_true_eq] at hi
  have hf1 := iH rows (t + 1)
  have hft := jc (L := rows) (t := t) (by omega)
  rw [hft, List.length_append] at hf1
  have hpl := gg (rows.take t) 0
  generalize hr : gi rows (t : Int) = r at *
  generalize ha : ((rows.take t).flatten.length : Int) = a at *
  refine ⟨⟨by omega, hi⟩, fun _ => ⟨fun ps x => ∃ u : Nat, x = (u : Int) + 1 ∧ u ≤ r.length - 1 ∧ ps = dC (rows.take t) 0 ++ (List.range u).map fun i : Nat => (a + i, a + i + 1), fun _ x => (r.length - x).toNat, ⟨0, rfl, by omega, by simp⟩, ?_⟩⟩
  rintro _ _ ⟨u, rfl, hu, rfl⟩
  refine ⟨fun hj => ?_, fun hj => ?_⟩
  ·rw [decide_eq_true_eq] at hj
   rw [wrp (n := a + ((u : Int) + 1)) (by omega) (by omega), wrp (n := a + ((u : Int) + 1) - 1) (by omega) (by omega), wrp (n := (u : Int) + 1 + 1) (by omega) (by omega)]
   refine ⟨by simp; omega, ⟨u + 1, by push_cast; rfl, by omega, ?_⟩, by dsimp only; omega⟩
   rw [List.range_succ, List.map_append, ← List.append_assoc]
   congr 1
   simp only [List.map_cons, List.map_nil]
   congr 2 <;> omega
  ·rw [decide_eq_false_iff_not] at hj
   have : u = r.length - 1 := by omega
   subst this
   unfold VC40_J5
   rw [hr, wrp (n := (t : Int) + 1) (by omega) (by omega), wrp (n := a + (r.length : Int)) (by omega) (by omega)]
   refine ⟨⟨t + 1, by push_cast; rfl, by omega, by rw [hft, List.length_append]; push_cast; omega, ?_⟩, by dsimp only; omega⟩
   rw [ep (by omega), gP, hr, ha, Int.zero_add]; rfl
 ·rw [decide_eq_false_iff_not] at hi
  have : t = rows.length := by omega
  subst this
  rw [List.take_length]
  have hpl := gg rows 0
  exact j43 (by omega) hp1 hp2 rfl
theorem nV {n : Int} {pairs : List (Int × Int)} {out : List Int} {x : Nat} (h : gU n pairs out = some x) : (x : Int) < n ∧ cb x n out pairs = false := by
 unfold gU at h
 have h1 := List.mem_range.1 (List.mem_of_find?_eq_some h)
 have h2 := List.find?_some h
 exact ⟨by omega, by simpa using h2⟩
def l7 (n : Int) (pairs : List (Int × Int)) (out : List Int) : Prop := ∀ p ∈ pairs, c9 p n = true → ∀ i : Nat, i < out.length → gi out (i : Int) = p.2 → ∃ j : Nat, j < i ∧ gi out (j : Int) = p.1
theorem kf {l : List Int} {x : Int} {i : Nat} (h : i < l.length) : gi (l ++ [x]) (i : Int) = gi l (i : Int) := by
 rw [cx _ _ (by simp; omega), cx _ _ h, List.getElem_append_left h]
theorem oY (l : List Int) (x : Int) : gi (l ++ [x]) (l.length : Int) = x := by
 rw [cx _ _ (by simp)]; simp
theorem oB {n : Int} {pairs : List (Int × Int)} {out : List Int} {x : Int} (h : l7 n pairs out) (hx : cb x n out pairs = false) : l7 n pairs (out ++ [x]) := by
 intro p hp hq i hi he
 rw [List.length_append, List.length_singleton] at hi
 by_cases hlt : i < out.length
 ·rw [kf hlt] at he
  obtain ⟨j, hj, hg⟩ := h p hp hq i hlt he
  exact ⟨j, hj, by rw [kf (by omega)]; exact hg⟩
 ·have : i = out.length := by omega
  subst this
  rw [oY] at he
  unfold cb at hx
  rw [Bool.or_eq_false_iff] at hx
  have hx2 := List.any_eq_false.1 hx.2 p hp
  unfold bH at hx2
  rw [hq, he] at hx2
  have hm : p.1 ∈ out := by simpa using hx2
  obtain ⟨j, hj, hg⟩ := List.getElem_of_mem hm
  exact ⟨j, hj, by rw [kf hj, cx _ _ hj]; exact hg⟩
theorem na {n : Int} {pairs : List (Int × Int)} : ∀ (k : Nat) (out : List Int), (ff n pairs k out).2 = true → (∀ x ∈ out, 0 ≤ x ∧ x < n) → out.Nodup → l7 n pairs out → (ff n pairs k out).1.length = out.length + k ∧ (∀ x ∈ (ff n pairs k out).1, 0 ≤ x ∧ x < n) ∧ (ff n pairs k out).1.Nodup ∧ l7 n pairs (ff n pairs k out).1
 | 0, out, _, h1, h2, h3 => ⟨rfl, h1, h2, h3⟩
 | k + 1, out, h, h1, h2, h3 => by
  rw [ff] at h ⊢
  cases e : gU n pairs out with
  | none => rw [e] at h; cases h
  | some x =>
   rw [e] at h
   dsimp only at h ⊢
   obtain ⟨a, b⟩ := nV e
   have hnx : (x : Int) ∉ out := by
    unfold cb at b
    rw [Bool.or_eq_false_iff, decide_eq_false_iff_not] at b
    exact b.1
   have := na k (out ++ [(x : Int)]) h (fun y hy => by
    rcases List.mem_append.1 hy with hy | hy
    ·exact h1 y hy
    ·rw [List.mem_singleton] at hy; subst hy; exact ⟨by omega, a⟩) (by
     rw [List.nodup_append]
     exact ⟨h2, by simp, fun y hy z hz => by rw [List.mem_singleton] at hz; subst hz; rintro rfl; exact hnx hy⟩) (oB h3 b)
   rw [List.length_append, List.length_singleton] at this
   exact ⟨by omega, this.2⟩
theorem nP {n : Nat} {pairs : List (Int × Int)} (h : (cc n pairs).2 = true) : (cc n pairs).1.length = n ∧ n ≤ 64 ∧ (∀ x ∈ (cc n pairs).1, 0 ≤ x ∧ x < n) ∧ (cc n pairs).1.Nodup ∧ l7 n pairs (cc n pairs).1 := by
 unfold cc at h ⊢
 by_cases e : (n : Int) < 0 ∨ (n : Int) > 64
 ·rw [if_pos e] at h; cases h
 ·rw [if_neg e] at h ⊢
  obtain ⟨a, b, c, d⟩ := na (n := (n : Int)) (pairs := pairs) ((n : Int)).toNat [] h (fun x hx => by cases hx) List.nodup_nil (fun p _ _ i hi => by simp at hi)
  exact ⟨by simpa using a, by omega, b, c, d⟩
theorem o9 {h : ak} (he : (cm h).2.2 = 0) : (aV h).2 = 0 ∧ (cQ h).length ≤ 20 ∧ cm h = (cQ h, ofH h, 0) := by
 unfold cm at he ⊢
 by_cases h1 : (aV h).2 ≠ 0
 ·rw [if_pos h1] at he; exact absurd he h1
 ·rw [if_neg h1] at he ⊢
  by_cases h2 : (cQ h).length > 20
  ·rw [if_pos h2] at he; cases he
  ·rw [if_neg h2]; exact ⟨by omega, by omega, rfl⟩
theorem jX (h : ak) : (cQ h).length = (ofH h).length := by unfold ofH; rw [List.length_map]
theorem l8 {h : ak} (hc : (aV h).2 = 0) : 1 ≤ h.ae.length ∧ h.ae.length ≤ 8 := by
 have := (ik hc).2.1
 unfold ke at this
 omega
def fw (l : List aa) (of : List Int) (os : List ai) (t : Nat) : List (List ah) := (List.range t).map fun j : Nat => rowOf l of (gi os (j : Int)) (j : Int)
def iV (l : List aa) (of : List Int) (os : List ai) (j : Nat) : Prop := (a9 (gi os (j : Int)) (eK l of (j : Int))).2 = 0
theorem jn (l : List aa) (of : List Int) (os : List ai) (t : Nat) : fw l of os (t + 1) = fw l of os t ++ [rowOf l of (gi os (t : Int)) (t : Int)] := by
 unfold fw; rw [List.range_succ, List.map_append]; rfl
theorem l0 {l : List aa} {of : List Int} {os : List ai} : ∀ (n t : Nat), t + n = os.length → (∀ j, j < t → iV l of os j) →
  (∃ j, j < os.length ∧ (∀ i, i < j → iV l of os i) ∧ ¬ iV l of os j ∧ fp l of (os.drop t) t (fw l of os t) = ([], (a9 (gi os (j : Int)) (eK l of (j : Int))).2)) ∨ ((∀ j, j < os.length → iV l of os j) ∧ fp l of (os.drop t) t (fw l of os t) = (fw l of os os.length, 0))
 | 0, t, h, hok => by
  right
  have : t = os.length := by omega
  subst this
  exact ⟨hok, by rw [List.drop_length, fp]⟩
 | n + 1, t, h, hok => by
  rw [jS (l := l) (of := of) (os := os) (t := t) (by omega)]
  by_cases e : iV l of os t
  ·rw [if_neg (by unfold iV at e; omega), ← jn]
   have := l0 (l := l) (of := of) (os := os) n (t + 1) (by omega) (fun j hj => by
    by_cases hjt : j = t
    ·rw [hjt]; exact e
    ·exact hok j (by omega))
   push_cast at this
   exact this
  ·left
   exact ⟨t, by omega, hok, e, if_pos e⟩
theorem l3 (h : ak) (l : List aa) (of : List Int) :
  (∃ j, j < h.ae.length ∧ (∀ i, i < j → iV l of h.ae i) ∧ ¬ iV l of h.ae j ∧ bT h l of = ([], (a9 (gi h.ae (j : Int)) (eK l of (j : Int))).2)) ∨ ((∀ j, j < h.ae.length → iV l of h.ae j) ∧ bT h l of = (fw l of h.ae h.ae.length, 0)) :=
 l0 h.ae.length 0 (by omega) (fun j hj => by omega)
theorem oz {h : ak} {l : List aa} {of : List Int} (he : (bT h l of).2 = 0) : (∀ j, j < h.ae.length → iV l of h.ae j) ∧ (bT h l of).1 = fw l of h.ae h.ae.length := by
 rcases l3 h l of with ⟨j, h1, h2, h3, h4⟩ | ⟨h1, h2⟩
 ·rw [h4] at he; exact absurd he h3
 ·exact ⟨h1, by rw [h2]⟩
theorem oQ {l : List aa} {of : List Int} {os : List ai} {p : ah} {n : Nat} : p ∈ (fw l of os n).flatten ↔ ∃ j : Nat, j < n ∧ p ∈ rowOf l of (gi os (j : Int)) (j : Int) := by
 unfold fw
 rw [List.mem_flatten]
 constructor
 ·rintro ⟨r, hr, hp⟩
  obtain ⟨j, hj, rfl⟩ := List.mem_map.1 hr
  exact ⟨j, List.mem_range.1 hj, hp⟩
 ·rintro ⟨j, hj, hp⟩
  exact ⟨_, List.mem_map.2 ⟨j, List.mem_range.2 hj, rfl⟩, hp⟩
theorem pU {l : List aa} {of : List Int} (hl : l.length = of.length) {os : List ai} {j : Nat} (hok : iV l of os j) {p : ah} (hp : p ∈ rowOf l of (gi os (j : Int)) (j : Int)) : p.Oper ∈ bG of (j : Int) := by
 unfold rowOf at hp
 obtain ⟨q, hq, rfl⟩ := List.mem_map.1 hp
 have := (ki hok).2 q.Oper (mb hq)
 have hn : (eK l of (j : Int)).length = (bG of (j : Int)).length := by rw [mM hl, List.length_map]
 exact fh this.1 (by omega)
theorem p5 {of : List Int} {k i : Int} (h : i ∈ bG of k) : 0 ≤ i ∧ i < of.length ∧ gi of i = k := by rw [fL] at h; exact nX.1 h
theorem ph {l : List aa} {of : List Int} (hl : l.length = of.length) {os : List ai} {j : Nat} (hok : iV l of os j) : (rowOf l of (gi os (j : Int)) (j : Int)).length ≤ l.length := by
 unfold rowOf
 rw [List.length_map]
 have h1 := kT hok
 have hn : (eK l of (j : Int)).length = (bG of (j : Int)).length := by rw [mM hl, List.length_map]
 have h2 := jZ of (j : Int) of.length
 rw [← fL] at h2
 omega
theorem lT {l : List aa} {of : List Int} (hl : l.length = of.length) {os : List ai} : ∀ n : Nat, (∀ j, j < n → iV l of os j) → (fw l of os n).flatten.length ≤ l.length * n
 | 0, _ => by simp [fw]
 | n + 1, h => by
  have h1 := lT hl n (fun j hj => h j (by omega))
  have h2 := ph hl (h n (by omega))
  have h3 : [rowOf l of (gi os (n : Int)) (n : Int)].flatten = rowOf l of (gi os (n : Int)) (n : Int) := by simp
  rw [jn, List.flatten_append, List.length_append, Nat.mul_succ, h3]
  omega
theorem ox {h : ak} (hc : (aV h).2 = 0) (h20 : (cQ h).length ≤ 20) (he : (bT h (cQ h) (ofH h)).2 = 0) : lZ (cQ h) (bT h (cQ h) (ofH h)).1 := by
 obtain ⟨h1, h2⟩ := oz he
 rw [h2]
 have ho := l8 hc
 have h3 := lT (jX h) (os := h.ae) h.ae.length h1
 have h4 : (cQ h).length * h.ae.length ≤ 20 * 8 := Nat.mul_le_mul h20 ho.2
 refine ⟨by omega, fun p hp => ?_⟩
 obtain ⟨j, hj, hpj⟩ := oQ.1 hp
 have := p5 (pU (jX h) (h1 j hj) hpj)
 have := jX h
 omega
theorem v20 (h : ak) (hp : dS h) : VC20 h (fun r => r = cJ h) := by
 unfold VC20
 intro _ _
 refine ⟨hp, ?_⟩
 rintro _ rfl _ _
 unfold cJ
 refine ⟨fun he => by rw [if_pos (by simpa using he)], fun he => ?_⟩
 have he : (cm h).2.2 = 0 := by simpa using he
 obtain ⟨hc, h20, hck⟩ := o9 he
 rw [if_neg (by omega), hck]
 dsimp only
 refine ⟨⟨hp, jX h, by omega, (l8 hc).2⟩, ?_⟩
 rintro _ rfl _
 refine ⟨fun he2 => by rw [if_pos (by simpa using he2)], fun he2 => ?_⟩
 have he2 : (bT h (cQ h) (ofH h)).2 = 0 := by simpa using he2
 rw [if_neg (by omega)]
 refine ⟨ox hc h20 he2, ?_⟩
 generalize (bT h (cQ h) (ofH h)).1 = rows
 rintro _ rfl _ _
 have hj : cc (((cq (cQ h) rows).1.length : Nat) : Int) (cq (cQ h) rows).2 = iZ (cQ h) rows := rfl
 rw [hj]
 rintro _ rfl _
 refine ⟨fun hn => by rw [if_pos (by simpa using hn)], fun hn => ?_⟩
 have hn : (iZ (cQ h) rows).2 = true := by simpa using hn
 rw [if_neg (by rw [hn]; decide)]
 have hb : (cq (cQ h) rows).1 = rows.flatten := rfl
 rw [hb]
 obtain ⟨s1, s2, s3, _, _⟩ := nP (n := rows.flatten.length) (pairs := (cq (cQ h) rows).2) hn
 have hjo : iZ (cQ h) rows = cc ((rows.flatten.length : Nat) : Int) (cq (cQ h) rows).2 := rfl
 rw [← hjo] at s1 s3
 generalize (iZ (cQ h) rows).1 = ord at s1 s3 ⊢
 refine ⟨fun out x => ∃ t : Nat, x = t ∧ t ≤ ord.length ∧ out = (ord.take t).map (gi rows.flatten), fun _ x => (ord.length - x).toNat, ⟨0, rfl, by omega, rfl⟩, ?_⟩
 rintro _ _ ⟨t, rfl, ht, rfl⟩
 refine ⟨fun hi => ?_, fun hi => ?_⟩
 ·rw [decide_eq_true_eq] at hi
  rw [wrp (n := (t : Int) + 1) (by omega) (by omega)]
  refine ⟨⟨by omega, hi⟩, s3 _ (fh (by omega) hi), by simp; omega, ⟨t + 1, by push_cast; rfl, by omega, ?_⟩, by dsimp only; omega⟩
  rw [ep (by omega), List.map_append]; rfl
 ·rw [decide_eq_false_iff_not] at hi
  unfold VC20_J1
  rw [List.take_of_length_le (by omega)]
theorem v18 (h : ak) (hp : dS h) : VC18 h (fun r => r = eE h) := by
 unfold VC18
 intro _ _
 refine ⟨hp, ?_⟩
 rintro _ rfl _
 unfold eE
 exact ⟨fun he => by rw [if_pos (by simpa using he)], fun he => by rw [if_neg (by simpa using he)]⟩
end Go.Proofs.Yteahldlmkheleaa
