/- Ways on are linearizations; what is found is one, and if any is there, one is found. -/
import Derived.Test.YteahldlmkheleaaLV7
set_option linter.all false
namespace Go.Proofs.Yteahldlmkheleaa
open Go Go.Sv Go.Pu
def jV (l : List aa) : List Int → List ah → Prop
 | _, [] => True
 | prev, p :: ps => (∀ k : Nat, k < l.length → bF (gi l (k : Int)) (gi l p.Oper) = true → (k : Int) ∈ prev) ∧ jV l (p.Oper :: prev) ps
def fI (l : List aa) (done : List Bool) (prev : List Int) : Prop := done.length = l.length ∧ ∀ i : Nat, i < l.length → (gi done (i : Int) = true ↔ (i : Int) ∈ prev)
theorem ou {l : List aa} {done : List Bool} {prev : List Int} {i : Int} (h : fI l done prev) (h0 : 0 ≤ i) (h1 : i < l.length) : fI l (done.set i.toNat true) (i :: prev) := by
 obtain ⟨a, b⟩ := h
 refine ⟨by simpa using a, fun j hj => ?_⟩
 rw [List.mem_cons]
 by_cases e : i = (j : Int)
 ·subst e
  rw [n4 h0 (by omega)]
  simp
 ·rw [n3 h0 (by omega) e, b j hj]
  constructor
  ·intro h; exact .inr h
  ·rintro (h | h)
   ·exact absurd h.symm e
   ·exact h
theorem ov (l : List aa) : fI l (List.replicate l.length false) [] := by
 refine ⟨by simp, fun i hi => ?_⟩
 rw [cx _ _ (by simpa using hi)]
 simp
theorem km {l : List aa} {done : List Bool} {prev : List Int} (h : fI l done prev) {i : Nat} (hi : i < l.length) : isDone done (i : Int) = true ↔ (i : Int) ∈ prev := by
 unfold isDone
 rw [decide_eq_true (by rw [h.1]; omega), Bool.true_and]
 exact h.2 i hi
theorem ml {l : List aa} {done : List Bool} {prev : List Int} (h : fI l done prev) {i : Nat} (hi : i < l.length) : gG l done i = true ↔ (i : Int) ∉ prev ∧ ∀ k : Nat, k < l.length → bF (gi l (k : Int)) (gi l (i : Int)) = true → (k : Int) ∈ prev := by
 unfold gG
 rw [Bool.and_eq_true, Bool.not_eq_true', List.all_eq_true, ← Bool.not_eq_true, km h hi]
 refine and_congr Iff.rfl ⟨fun hh k hk ha => ?_, fun hh k hk => ?_⟩
 ·have := hh k (List.mem_range.2 hk)
  rw [ha] at this
  exact (km h hk).1 (by simpa using this)
 ·have hk := List.mem_range.1 hk
  by_cases ha : bF (gi l (k : Int)) (gi l (i : Int)) = true
  ·rw [(km h hk).2 (hh k hk ha)]; rfl
  ·simp [ha]
theorem oR {l : List aa} {done : List Bool} {i : Nat} (hi : i < l.length) (h : gG l done i = true) : (i : Int) ∈ dk l done := by
 unfold dk fy
 exact List.mem_map.2 ⟨i, List.mem_filter.2 ⟨List.mem_range.2 hi, h⟩, rfl⟩
theorem oL {o : ai} {l : List aa} {st : Int} {done : List Bool} {prev : List Int} (hc : (bd o).2 = 0) (hs : fI l done prev) (p : ah) : p ∈ bm o l st done ↔ 0 ≤ p.Oper ∧ p.Oper < l.length ∧ p.Oper ∉ prev ∧ (∀ k : Nat, k < l.length → bF (gi l (k : Int)) (gi l p.Oper) = true → (k : Int) ∈ prev) ∧ fg o l st p.Oper = some p := by
 constructor
 ·intro h
  obtain ⟨_, a, b, c, d⟩ := j9 h
  have e : ((p.Oper.toNat : Nat) : Int) = p.Oper := by omega
  have := (ml hs (i := p.Oper.toNat) (by omega)).1 c
  rw [e] at this
  exact ⟨a, b, this.1, this.2, d⟩
 ·rintro ⟨a, b, c, d, e⟩
  unfold bm nE
  rw [if_neg (by omega)]
  have ee : ((p.Oper.toNat : Nat) : Int) = p.Oper := by omega
  have hm := oR (l := l) (done := done) (i := p.Oper.toNat) (by omega) ((ml hs (by omega)).2 ⟨by rw [ee]; exact c, by rw [ee]; exact d⟩)
  rw [ee] at hm
  exact List.mem_filterMap.2 ⟨_, hm, e⟩
theorem om {o : ai} {l : List aa} {prev : List Int} {st : Int} {p : ah} (h0 : 0 ≤ st) (h1 : st < o.ao) (a : 0 ≤ p.Oper) (b : p.Oper < l.length) (c : p.Oper ∉ prev) :
  ((dy o l prev st p).2 = 0 ↔ fg o l st p.Oper = some p) ∧ ((dy o l prev st p).2 = 0 → (dy o l prev st p).1 = dm o l st p ∧ (cI o st (gi l p.Oper).Kind).2.2 = true) := by
 unfold dy dm fg
 rw [if_neg (by omega), if_neg c]
 have hst : ∀ k r, dW o st k r = if (cI o st k).2.2 = false ∨ (cI o st k).2.1 ≠ r then (0, 40) else ((cI o st k).1, 0) := fun k r => by
  unfold dW; rw [if_neg (by omega)]
 unfold fc gq bJ
 simp only [hst]
 generalize cI o st (gi l p.Oper).Kind = m
 obtain ⟨x, y, z⟩ := m
 obtain ⟨pi, pr⟩ := p
 dsimp only at *
 cases z with
 | false => simp
 | true =>
  by_cases hy : y = pr
  ·subst hy
   simp only [Bool.true_and]
   by_cases he : (gi l pi).End = -1
   ·simp [he]
   ·by_cases hr : (gi l pi).Result = y
    ·simp [he, hr]
    ·simp [he, hr]
  ·simp [hy]
theorem m6 {o : ai} {l : List aa} (hc : (bd o).2 = 0) : ∀ (ps : List ah) (st : Int) (done : List Bool) (prev : List Int), fI l done prev → 0 ≤ st → st < o.ao →
  (g9 o l st done ps ↔ (gK o l prev st ps).2.2 = 0 ∧ jV l prev ps ∧ ∀ m : Nat, m < l.length → (gi l (m : Int)).End ≠ -1 → (m : Int) ∈ prev ∨ (m : Int) ∈ opers ps)
 | [], st, done, prev, hs, h0, h1 => by
  unfold g9 gd jV gK opers
  rw [List.all_eq_true]
  constructor
  ·intro h
   refine ⟨rfl, trivial, fun m hm he => .inl ?_⟩
   have := h m (List.mem_range.2 hm)
   rw [Bool.not_eq_true', Bool.and_eq_false_iff] at this
   rcases this with h | h
   ·exact absurd h (by simpa using he)
   ·exact (hs.2 m hm).1 (by simpa using h)
  ·rintro ⟨_, _, h⟩ m hm
   have hm := List.mem_range.1 hm
   by_cases he : (gi l (m : Int)).End = -1
   ·simp [he]
   ·rcases h m hm he with h | h
    ·rw [(hs.2 m hm).2 h]; simp
    ·cases h
 | p :: ps, st, done, prev, hs, h0, h1 => by
  unfold g9 jV
  rw [oL hc hs p]
  by_cases hr : 0 ≤ p.Oper ∧ p.Oper < l.length ∧ p.Oper ∉ prev
  ·obtain ⟨a, b, c⟩ := hr
   obtain ⟨s1, s2⟩ := om (l := l) (prev := prev) (p := p) h0 h1 a b c
   rw [← s1, gK]
   by_cases he : (dy o l prev st p).2 = 0
   ·obtain ⟨e1, e2⟩ := s2 he
    obtain ⟨m0, m1⟩ := pA hc e2
    have ih := m6 hc ps (dm o l st p) _ _ (ou hs a b) m0 m1
    rw [ih, if_neg (by omega), e1]
    have eo : opers (p :: ps) = p.Oper :: opers ps := rfl
    rw [eo]
    simp only [List.mem_cons]
    constructor
    ·rintro ⟨⟨_, _, _, ha, _⟩, g1, g2, g3⟩
     refine ⟨g1, ⟨ha, g2⟩, fun m hm hh => ?_⟩
     rcases g3 m hm hh with (h | h) | h
     ·exact .inr (.inl h)
     ·exact .inl h
     ·exact .inr (.inr h)
    ·rintro ⟨g1, ⟨ha, g2⟩, g3⟩
     refine ⟨⟨a, b, c, ha, he⟩, g1, g2, fun m hm hh => ?_⟩
     rcases g3 m hm hh with h | h | h
     ·exact .inl (.inr h)
     ·exact .inl (.inl h)
     ·exact .inr h
   ·rw [if_pos he]
    exact ⟨fun h => absurd h.1.2.2.2.2 he, fun h => absurd h.1 he⟩
  ·constructor
   ·intro h; exact absurd ⟨h.1.1, h.1.2.1, h.1.2.2.1⟩ hr
   ·intro h
    exfalso
    have h := h.1
    rw [gK] at h
    unfold dy at h
    by_cases h3 : p.Oper < 0 ∨ p.Oper ≥ l.length
    ·rw [if_pos h3, if_pos (by decide)] at h; exact absurd h (by decide)
    ·by_cases h4 : p.Oper ∈ prev
     ·rw [if_neg h3, if_pos h4, if_pos (by decide)] at h; exact absurd h (by decide)
     ·exact hr ⟨by omega, by omega, h4⟩
theorem nA {l : List aa} : ∀ (ps : List ah) (prev : List Int), jV l prev ps ↔ ∀ x : Nat, x < ps.length → ∀ k : Nat, k < l.length → bF (gi l (k : Int)) (gi l (gi ps (x : Int)).Oper) = true → (k : Int) ∈ prev ∨ (k : Int) ∈ opers (ps.take x)
 | [], prev => by simp [jV]
 | p :: ps, prev => by
  unfold jV
  rw [nA ps (p.Oper :: prev)]
  constructor
  ·rintro ⟨h1, h2⟩ x hx k hk ha
   cases x with
   | zero => exact .inl (h1 k hk ha)
   | succ x =>
    have e : gi (p :: ps) ((x + 1 : Nat) : Int) = gi ps (x : Int) := rfl
    rw [e] at ha
    rcases h2 x (by simpa using hx) k hk ha with h | h
    ·rcases List.mem_cons.1 h with h | h
     ·right; rw [List.take_succ_cons]; exact List.mem_cons.2 (.inl h)
     ·exact .inl h
    ·right; rw [List.take_succ_cons]; exact List.mem_cons.2 (.inr h)
  ·intro h
   refine ⟨fun k hk ha => ?_, fun x hx k hk ha => ?_⟩
   ·rcases h 0 (by simp) k hk ha with h | h
    ·exact h
    ·cases h
   ·rcases h (x + 1) (by simpa using hx) k hk ha with h | h
    ·exact .inl (List.mem_cons_of_mem _ h)
    ·rw [List.take_succ_cons] at h
     rcases List.mem_cons.1 h with h | h
     ·exact .inl (List.mem_cons.2 (.inl h))
     ·exact .inr h
theorem p8 {o : ai} (hc : (bd o).2 = 0) : fo o o.aC = 0 ∧ 0 ≤ o.aC ∧ o.aC < o.ao := by
 have h : 0 ≤ o.aC ∧ o.aC < o.ao := by
  unfold bd b5 at hc
  split at hc
  ·cases hc
  ·rename_i hh; unfold e9 at hh; omega
 refine ⟨?_, h⟩
 unfold fo
 have hc' : (b5 o).2 = 0 := hc
 simp only [hc, hc']
 simp; omega
theorem pB {o : ai} {l : List aa} (hc : (bd o).2 = 0) (hl : (b6 l).2 = 0) (ps : List ah) : c6 o l ps = true ↔ g9 o l o.aC (List.replicate l.length false) ps := by
 obtain ⟨hm, i0, i1⟩ := p8 hc
 rw [m6 hc ps o.aC _ [] (ov l) i0 i1, oW, nA]
 have er : cr o l ps = gK o l [] o.aC ps := by unfold cr eR; rw [hm, if_neg (by decide)]
 rw [er]
 constructor
 ·rintro ⟨_, _, hrun, hord, hmis⟩
  refine ⟨hrun, fun x hx k hk ha => .inr ?_, fun m hm he => .inr ?_⟩
  ·apply Classical.byContradiction
   intro hn
   have hin := (mI hrun).2 (gi ps (x : Int)).Oper (by
    have := (nW (p := ps) (i := (gi ps (x : Int)).Oper) (Nat.le_refl _)).mpr ⟨x, hx, rfl⟩
    rwa [List.take_length] at this)
   have := hord x hx
   rw [pc ⟨hin.1, hin.2.1⟩ hk ha hn] at this
   cases this
  ·apply Classical.byContradiction
   intro hn
   exact hmis m (jq.2 ⟨by omega, by omega, he, hn⟩)
 ·rintro ⟨hrun, hord, hmis⟩
  refine ⟨hc, hl, hrun, fun x hx => pd (fun k hk hh => ?_), fun m hm => ?_⟩
  ·rcases hord x hx k hk hh.1 with h | h
   ·cases h
   ·exact hh.2 h
  ·obtain ⟨h0, h1, h2, h3⟩ := jq.1 hm
   have e : ((m.toNat : Nat) : Int) = m := by omega
   rcases hmis m.toNat (by omega) (by rw [e]; exact h2) with h | h
   ·cases h
   ·rw [e] at h; exact h3 h
def ic (o : ai) (l : List aa) : List (List ah) := gZ o l (l.length + 1) o.aC (List.replicate l.length false)
theorem mc {o : ai} {l : List aa} (hc : (bd o).2 = 0) (hl : (b6 l).2 = 0) (ps : List ah) : ps ∈ ic o l ↔ c6 o l ps = true := by
 rw [pB hc hl]
 have := pH (o := o) (l := l) (st := o.aC) (done := List.replicate l.length false) (by simp) (ps := ps)
 rw [pb] at this
 exact this
theorem o0 {o : ai} {l : List aa} (h : bV o l 20 = 0) : a9 o l = match ic o l with | [] => ([], 41) | x :: _ => (x, 0) := by
 obtain ⟨hc, hl, h20⟩ := il h
 have hf := (mq (o := o) (l := l) (by omega) (cf (List.replicate l.length false) + 1) o.aC [] (List.replicate l.length false) [] rfl (by simp) (oO o l)).1
 have hf : (fA (bf o l) o.aC []).1 = e8 [] (gZ o l (cf (List.replicate l.length false) + 1) o.aC (List.replicate l.length false)) := hf
 rw [pb] at hf
 have hf : (fA (bf o l) o.aC []).1 = e8 [] (ic o l) := hf
 unfold a9
 rw [if_neg (by omega), hf]
 cases hL : ic o l with
 | nil => simp [e8]
 | cons x L =>
  have := (mc hc hl x).1 (by rw [hL]; simp)
  simp [e8, this]
theorem lk (o : ai) (l : List aa) : (bV o l 20 ≠ 0 ∧ a9 o l = ([], bV o l 20)) ∨ (bV o l 20 = 0 ∧ ic o l = [] ∧ a9 o l = ([], 41)) ∨ (∃ x L, bV o l 20 = 0 ∧ ic o l = x :: L ∧ a9 o l = (x, 0)) := by
 by_cases h : bV o l 20 = 0
 ·right
  have := o0 h
  cases hL : ic o l with
  | nil => rw [hL] at this; exact .inl ⟨h, rfl, this⟩
  | cons x L => rw [hL] at this; exact .inr ⟨x, L, h, rfl, this⟩
 ·left
  exact ⟨h, by unfold a9; rw [if_pos h]⟩
end Go.Proofs.Yteahldlmkheleaa
