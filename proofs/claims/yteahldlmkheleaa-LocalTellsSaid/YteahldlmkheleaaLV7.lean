/- All ways on, and the first of them; plain. -/
import Derived.Test.YteahldlmkheleaaLV6
set_option linter.all false
namespace Go.Proofs.Yteahldlmkheleaa
open Go Go.Sv Go.Pu
def g9 (o : ai) (l : List aa) : Int → List Bool → List ah → Prop
 | _, done, [] => gd l done = true
 | st, done, p :: ps => p ∈ bm o l st done ∧ g9 o l (dm o l st p) (done.set p.Oper.toNat true) ps
theorem lB {o : ai} {l : List aa} : ∀ (n : Nat) (st : Int) (done : List Bool) (ps : List ah), ps ∈ gZ o l n st done ↔ ps.length < n ∧ g9 o l st done ps
 | 0, st, done, ps => by simp [gZ]
 | n + 1, st, done, [] => by
  unfold gZ g9
  rw [List.mem_append, List.mem_flatMap]
  constructor
  ·rintro (h | ⟨p, _, h⟩)
   ·split at h
    ·rename_i hw; exact ⟨by simp, hw⟩
    ·cases h
   ·obtain ⟨_, _, h⟩ := List.mem_map.1 h; cases h
  ·rintro ⟨_, hw⟩; left; rw [if_pos hw]; simp
 | n + 1, st, done, p :: ps => by
  unfold gZ g9
  rw [List.mem_append, List.mem_flatMap]
  constructor
  ·rintro (h | ⟨q, hq, h⟩)
   ·split at h
    ·simp at h
    ·cases h
   ·obtain ⟨r, hr, h⟩ := List.mem_map.1 h
    obtain ⟨rfl, rfl⟩ := List.cons.inj h
    have := (lB n _ _ _).1 hr
    exact ⟨by simp only [List.length_cons]; omega, hq, this.2⟩
  ·rintro ⟨hl, hp, hw⟩
   right
   exact ⟨p, hp, List.mem_map.2 ⟨ps, (lB n _ _ _).2 ⟨by simp only [List.length_cons] at hl; omega, hw⟩, rfl⟩⟩
theorem nD {o : ai} {l : List aa} {st : Int} {done : List Bool} {p : ah} (hd : done.length = l.length) (h : p ∈ bm o l st done) : 0 ≤ p.Oper ∧ p.Oper < l.length ∧ gi done p.Oper = false ∧ cf (done.set p.Oper.toNat true) + 1 = cf done := by
 obtain ⟨_, a, b, c, _⟩ := j9 h
 have := mj a (by omega) c
 exact ⟨a, b, this, pa a (by omega) this⟩
theorem mZ {o : ai} {l : List aa} : ∀ (ps : List ah) (st : Int) (done : List Bool), done.length = l.length → g9 o l st done ps → ps.length ≤ cf done
 | [], _, _, _, _ => by simp
 | p :: ps, st, done, hd, h => by
  have ⟨_, _, _, hc⟩ := nD hd h.1
  have := mZ ps _ _ (by simpa using hd) h.2
  simp only [List.length_cons]; omega
theorem pH {o : ai} {l : List aa} {st : Int} {done : List Bool} (hd : done.length = l.length) {ps : List ah} : ps ∈ gZ o l (cf done + 1) st done ↔ g9 o l st done ps := by
 rw [lB]
 exact ⟨fun h => h.2, fun h => ⟨by have := mZ ps st done hd h; omega, h⟩⟩
def mC : List Bool → Nat
 | [] => 0
 | b :: r => (if b then 1 else 0) + 2 * mC r
theorem lO : ∀ (a b : List Bool), a.length = b.length → mC a = mC b → a = b
 | [], [], _, _ => rfl
 | x :: a, y :: b, h, hv => by
  unfold mC at hv
  have e : x = y := by cases x <;> cases y <;> simp at hv ⊢ <;> omega
  subst e
  rw [lO a b (by simpa using h) (by omega)]
theorem pE {i : Nat} (h : i < 32) : pF (i : Int) = ((2 ^ i : Nat) : Int) := by
 have h2 : 2 ^ i ≤ 2 ^ 31 := Nat.pow_le_pow_right (by decide) (by omega)
 unfold pF
 rw [show min (i : Int).toNat IntKind.u32.bits = i by show min _ 32 = _; omega]
 have e : (1 * 2 ^ i : Int) = ((2 ^ i : Nat) : Int) := by push_cast; omega
 rw [e]
 generalize 2 ^ i = x at *
 have : x ≤ 2147483648 := by simpa using h2
 simp [IntKind.wrap, IntKind.signed, IntKind.bits]; omega
theorem pZ {i m : Nat} (h : i < 32) (hm : m < 2 ^ i) : orU (m : Int) ((2 ^ i : Nat) : Int) = ((m + 2 ^ i : Nat) : Int) := by
 have h2 : 2 ^ i ≤ 2 ^ 31 := Nat.pow_le_pow_right (by decide) (by omega)
 have h3 : m ||| 2 ^ i = m + 2 ^ i := by
  have := Nat.two_pow_add_eq_or_of_lt hm 1
  rw [Nat.mul_one] at this
  rw [Nat.or_comm, ← this, Nat.add_comm]
 unfold orU
 have e1 : ∀ x : Nat, x < 2 ^ 32 → (BitVec.ofInt IntKind.u32.bits (x : Int)).toNat = x := fun x hx => by
  show (BitVec.ofInt 32 (x : Int)).toNat = x
  rw [BitVec.ofInt_natCast, BitVec.toNat_ofNat]
  exact Nat.mod_eq_of_lt hx
 rw [BitVec.toNat_or, e1 m (by omega), e1 _ (by omega), h3]
 generalize 2 ^ i = x at *
 have : x ≤ 2147483648 := by simpa using h2
 simp [IntKind.wrap, IntKind.signed, IntKind.bits]; omega
theorem jF : ∀ (d : List Bool) (i m : Nat), i + d.length ≤ 32 → m < 2 ^ i → fN d (i : Int) (m : Int) = ((m + 2 ^ i * mC d : Nat) : Int)
 | [], i, m, _, _ => by simp [fN, mC]
 | b :: d, i, m, h, hm => by
  simp only [List.length_cons] at h
  have hp : 2 ^ (i + 1) = 2 ^ i * 2 := Nat.pow_succ ..
  unfold fN mC
  rw [show ((i : Int) + 1) = ((i + 1 : Nat) : Int) by push_cast; rfl]
  cases b with
  | true =>
   rw [if_pos rfl, if_pos rfl, pE (by omega), pZ (by omega) hm, jF d (i + 1) (m + 2 ^ i) (by omega) (by omega), hp, Nat.mul_add, Nat.mul_assoc]
   congr 1; omega
  | false =>
   rw [if_neg (by simp), if_neg (by simp), jF d (i + 1) m (by omega) (by omega), hp, Nat.mul_add, Nat.mul_assoc]
   congr 1; omega
theorem oX {a b : List Bool} {s t : Int} (hl : a.length = b.length) (h : a.length ≤ 20) (he : e7 a s = e7 b t) : a = b ∧ s = t := by
 unfold e7 at he
 injection he with h1 h2
 refine ⟨?_, h2⟩
 have e1 := jF a 0 0 (by omega) (by decide)
 have e2 := jF b 0 0 (by omega) (by decide)
 have h1 : fN a ((0 : Nat) : Int) ((0 : Nat) : Int) = fN b ((0 : Nat) : Int) ((0 : Nat) : Int) := h1
 rw [e1, e2] at h1
 exact lO a b hl (by omega)
def e8 (so : List ah) : List (List ah) → List ah × Bool
 | [] => ([], false)
 | x :: _ => (so ++ x, true)
def ib (o : ai) (l : List aa) (f : Fm) : Prop := ∀ done st, done.length = l.length → (ay f (e7 done st)).getD 0 > 0 → gZ o l (cf done + 1) st done = []
theorem pY {o : ai} {l : List aa} {f : Fm} {done : List Bool} {st : Int} (hl : l.length ≤ 20) (hd : done.length = l.length) (h : ib o l f) (ha : gZ o l (cf done + 1) st done = []) : ib o l (iK f (e7 done st)) := by
 unfold iK
 split
 ·exact h
 ·intro done' st' hd' hg
  rw [dP] at hg
  by_cases e : e7 done' st' = e7 done st
  ·obtain ⟨rfl, rfl⟩ := oX (by omega) (by omega) e
   exact ha
  ·rw [if_neg e] at hg
   exact h done' st' hd' hg
theorem mf (so : List ah) (p : ah) (A B : List (List ah)) : e8 so (A.map (p :: ·) ++ B) = if (e8 (so ++ [p]) A).2 then e8 (so ++ [p]) A else e8 so B := by
 cases A with
 | nil => simp [e8]
 | cons x A => simp [e8]
theorem mq {o : ai} {l : List aa} (hl : l.length ≤ 20) : ∀ (n : Nat) (st : Int) (so : List ah) (done : List Bool) (f : Fm), n = cf done + 1 → done.length = l.length → ib o l f →
  (dH o l n st so done f).1 = e8 so (gZ o l n st done) ∧ ib o l (dH o l n st so done f).2
 | 0, _, _, _, _, h, _, _ => by omega
 | n + 1, st, so, done, f, hn, hd, hf => by
  have hT : ∀ (L : List ah) (f : Fm), (∀ p ∈ L, p ∈ bm o l st done) → ib o l f →
    (gI (fun p f => dH o l n (dm o l st p) (so ++ [p]) (done.set p.Oper.toNat true) f) L f).1 = e8 so (L.flatMap fun p => (gZ o l n (dm o l st p) (done.set p.Oper.toNat true)).map (p :: ·)) ∧
    ib o l (gI (fun p f => dH o l n (dm o l st p) (so ++ [p]) (done.set p.Oper.toNat true) f) L f).2 := by
   intro L
   induction L with
   | nil => intro f _ hf; exact ⟨rfl, hf⟩
   | cons p L ih =>
    intro f hL hf
    have ⟨_, _, _, hc⟩ := nD hd (hL p (by simp))
    obtain ⟨e1, e2⟩ := mq hl n (dm o l st p) (so ++ [p]) (done.set p.Oper.toNat true) f (by omega) (by simpa using hd) hf
    rw [List.flatMap_cons, mf, ← e1]
    unfold gI
    by_cases h : (dH o l n (dm o l st p) (so ++ [p]) (done.set p.Oper.toNat true) f).1.2 = true
    ·rw [if_pos h, if_pos h]; exact ⟨rfl, e2⟩
    ·rw [if_neg h, if_neg h]
     exact ih _ (fun q hq => hL q (by simp [hq])) e2
  obtain ⟨t1, t2⟩ := hT (bm o l st done) f (fun _ h => h) hf
  have hA : gZ o l (n + 1) st done = (if gd l done then [[]] else []) ++ (bm o l st done).flatMap fun p => (gZ o l n (dm o l st p) (done.set p.Oper.toNat true)).map (p :: ·) := rfl
  unfold dH
  by_cases hw : gd l done = true
  ·rw [if_pos hw, hA, if_pos hw]
   exact ⟨by simp [e8], hf⟩
  ·rw [if_neg hw]
   by_cases hm : (ay f (e7 done st)).getD 0 > 0
   ·rw [if_pos hm]
    have := hf done st hd hm
    rw [← hn] at this
    rw [this]
    exact ⟨rfl, hf⟩
   ·rw [if_neg hm]
    rw [if_neg hw, List.nil_append] at hA
    rw [hA]
    by_cases h2 : (gI (fun p f => dH o l n (dm o l st p) (so ++ [p]) (done.set p.Oper.toNat true) f) (bm o l st done) f).1.2 = true
    ·rw [if_pos h2]; exact ⟨t1, t2⟩
    ·rw [if_neg h2]
     have hnil : ((bm o l st done).flatMap fun p => (gZ o l n (dm o l st p) (done.set p.Oper.toNat true)).map (p :: ·)) = [] := by
      rw [t1] at h2
      revert h2
      cases ((bm o l st done).flatMap fun p => (gZ o l n (dm o l st p) (done.set p.Oper.toNat true)).map (p :: ·)) with
      | nil => intro _; rfl
      | cons x A => intro h; simp [e8] at h
     refine ⟨by rw [hnil]; rfl, pY hl hd t2 ?_⟩
     rw [← hn, hA, hnil]
theorem oO (o : ai) (l : List aa) : ib o l [] := fun done st _ h => by simp [ay] at h
end Go.Proofs.Yteahldlmkheleaa
