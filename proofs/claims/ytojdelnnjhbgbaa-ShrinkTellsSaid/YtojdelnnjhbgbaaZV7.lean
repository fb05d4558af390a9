/- All ways on, and the first of them; plain. -/
import Derived.Test.YtojdelnnjhbgbaaZV6
set_option linter.all false
namespace Go.Proofs.Ytojdelnnjhbgbaa
open Go Go.Sv Go.Pu
def wayOn (o : Api_Object) (l : List Api_Oper) : Int → List Bool → List Api_Pick → Prop
 | _, done, [] => wholeB l done = true
 | st, done, p :: ps => p ∈ search_Next o l st done ∧ wayOn o l (moveTo o l st p) (done.set p.Oper.toNat true) ps
theorem mem_all {o : Api_Object} {l : List Api_Oper} : ∀ (n : Nat) (st : Int) (done : List Bool) (ps : List Api_Pick), ps ∈ allF o l n st done ↔ ps.length < n ∧ wayOn o l st done ps
 | 0, st, done, ps => by simp [allF]
 | n + 1, st, done, [] => by
  unfold allF wayOn
  rw [List.mem_append, List.mem_flatMap]
  constructor
  ·rintro (h | ⟨p, _, h⟩)
   ·split at h
    ·rename_i hw; exact ⟨by simp, hw⟩
    ·cases h
   ·obtain ⟨_, _, h⟩ := List.mem_map.1 h; cases h
  ·rintro ⟨_, hw⟩; left; rw [if_pos hw]; simp
 | n + 1, st, done, p :: ps => by
  unfold allF wayOn
  rw [List.mem_append, List.mem_flatMap]
  constructor
  ·rintro (h | ⟨q, hq, h⟩)
   ·split at h
    ·simp at h
    ·cases h
   ·obtain ⟨r, hr, h⟩ := List.mem_map.1 h
    obtain ⟨rfl, rfl⟩ := List.cons.inj h
    have := (mem_all n _ _ _).1 hr
    exact ⟨by simp only [List.length_cons]; omega, hq, this.2⟩
  ·rintro ⟨hl, hp, hw⟩
   right
   exact ⟨p, hp, List.mem_map.2 ⟨ps, (mem_all n _ _ _).2 ⟨by simp only [List.length_cons] at hl; omega, hw⟩, rfl⟩⟩
theorem next_in {o : Api_Object} {l : List Api_Oper} {st : Int} {done : List Bool} {p : Api_Pick} (hd : done.length = l.length) (h : p ∈ search_Next o l st done) : 0 ≤ p.Oper ∧ p.Oper < l.length ∧ gi done p.Oper = false ∧ cf (done.set p.Oper.toNat true) + 1 = cf done := by
 obtain ⟨_, a, b, c, _⟩ := next_mem h
 have := free_not a (by omega) c
 exact ⟨a, b, this, cf_set a (by omega) this⟩
theorem way_len {o : Api_Object} {l : List Api_Oper} : ∀ (ps : List Api_Pick) (st : Int) (done : List Bool), done.length = l.length → wayOn o l st done ps → ps.length ≤ cf done
 | [], _, _, _, _ => by simp
 | p :: ps, st, done, hd, h => by
  have ⟨_, _, _, hc⟩ := next_in hd h.1
  have := way_len ps _ _ (by simpa using hd) h.2
  simp only [List.length_cons]; omega
theorem all_iff {o : Api_Object} {l : List Api_Oper} {st : Int} {done : List Bool} (hd : done.length = l.length) {ps : List Api_Pick} : ps ∈ allF o l (cf done + 1) st done ↔ wayOn o l st done ps := by
 rw [mem_all]
 exact ⟨fun h => h.2, fun h => ⟨by have := way_len ps st done hd h; omega, h⟩⟩
def valN : List Bool → Nat
 | [] => 0
 | b :: r => (if b then 1 else 0) + 2 * valN r
theorem valN_inj : ∀ (a b : List Bool), a.length = b.length → valN a = valN b → a = b
 | [], [], _, _ => rfl
 | x :: a, y :: b, h, hv => by
  unfold valN at hv
  have e : x = y := by cases x <;> cases y <;> simp at hv ⊢ <;> omega
  subst e
  rw [valN_inj a b (by simpa using h) (by omega)]
theorem bitU_eq {i : Nat} (h : i < 32) : bitU (i : Int) = ((2 ^ i : Nat) : Int) := by
 have h2 : 2 ^ i ≤ 2 ^ 31 := Nat.pow_le_pow_right (by decide) (by omega)
 unfold bitU
 rw [show min (i : Int).toNat IntKind.u32.bits = i by show min _ 32 = _; omega]
 have e : (1 * 2 ^ i : Int) = ((2 ^ i : Nat) : Int) := by push_cast; omega
 rw [e]
 generalize 2 ^ i = x at *
 have : x ≤ 2147483648 := by simpa using h2
 simp [IntKind.wrap, IntKind.signed, IntKind.bits]; omega
theorem orU_eq {i m : Nat} (h : i < 32) (hm : m < 2 ^ i) : orU (m : Int) ((2 ^ i : Nat) : Int) = ((m + 2 ^ i : Nat) : Int) := by
 have h2 : 2 ^ i ≤ 2 ^ 31 := Nat.pow_le_pow_right (by decide) (by omega)
 have h3 : m ||| 2 ^ i = m + 2 ^ i := by
  have := Nat.two_pow_add_eq_or_of_lt hm 1
  rw [Nat.mul_one] at this
  rw [Nat.or_comm, ← this, Nat.add_comm]
 unfold orU
 have e1 : ∀ x : Nat, x < 2 ^ 32 → (BitVec.ofInt IntKind.u32.bits (x : Int)).toNat = x := fun x hx => by
  show (BitVec.ofInt 32 (x : Int)).toNat = x
  rw [BitVec.ofInt_natCast, BitVec.toNat_ofNat]
  exact Nat.mod_eq_of_lt hx
 rw [BitVec.toNat_or, e1 m (by omega), e1 _ (by omega), h3]
 generalize 2 ^ i = x at *
 have : x ≤ 2147483648 := by simpa using h2
 simp [IntKind.wrap, IntKind.signed, IntKind.bits]; omega
theorem mask_eq : ∀ (d : List Bool) (i m : Nat), i + d.length ≤ 32 → m < 2 ^ i → maskGo d (i : Int) (m : Int) = ((m + 2 ^ i * valN d : Nat) : Int)
 | [], i, m, _, _ => by simp [maskGo, valN]
 | b :: d, i, m, h, hm => by
  simp only [List.length_cons] at h
  have hp : 2 ^ (i + 1) = 2 ^ i * 2 := Nat.pow_succ ..
  unfold maskGo valN
  rw [show ((i : Int) + 1) = ((i + 1 : Nat) : Int) by push_cast; rfl]
  cases b with
  | true =>
   rw [if_pos rfl, if_pos rfl, bitU_eq (by omega), orU_eq (by omega) hm, mask_eq d (i + 1) (m + 2 ^ i) (by omega) (by omega), hp, Nat.mul_add, Nat.mul_assoc]
   congr 1; omega
  | false =>
   rw [if_neg (by simp), if_neg (by simp), mask_eq d (i + 1) m (by omega) (by omega), hp, Nat.mul_add, Nat.mul_assoc]
   congr 1; omega
theorem here_inj {a b : List Bool} {s t : Int} (hl : a.length = b.length) (h : a.length ≤ 20) (he : hereS a s = hereS b t) : a = b ∧ s = t := by
 unfold hereS at he
 injection he with h1 h2
 refine ⟨?_, h2⟩
 have e1 := mask_eq a 0 0 (by omega) (by decide)
 have e2 := mask_eq b 0 0 (by omega) (by decide)
 have h1 : maskGo a ((0 : Nat) : Int) ((0 : Nat) : Int) = maskGo b ((0 : Nat) : Int) ((0 : Nat) : Int) := h1
 rw [e1, e2] at h1
 exact valN_inj a b hl (by omega)
def headOr (so : List Api_Pick) : List (List Api_Pick) → List Api_Pick × Bool
 | [] => ([], false)
 | x :: _ => (so ++ x, true)
def memoOk (o : Api_Object) (l : List Api_Oper) (f : Fm) : Prop := ∀ done st, done.length = l.length → (mget f (hereS done st)).getD 0 > 0 → allF o l (cf done + 1) st done = []
theorem put_ok {o : Api_Object} {l : List Api_Oper} {f : Fm} {done : List Bool} {st : Int} (hl : l.length ≤ 20) (hd : done.length = l.length) (h : memoOk o l f) (ha : allF o l (cf done + 1) st done = []) : memoOk o l (failPut f (hereS done st)) := by
 unfold failPut
 split
 ·exact h
 ·intro done' st' hd' hg
  rw [mget_mput] at hg
  by_cases e : hereS done' st' = hereS done st
  ·obtain ⟨rfl, rfl⟩ := here_inj (by omega) (by omega) e
   exact ha
  ·rw [if_neg e] at hg
   exact h done' st' hd' hg
theorem headOr_cons (so : List Api_Pick) (p : Api_Pick) (A B : List (List Api_Pick)) : headOr so (A.map (p :: ·) ++ B) = if (headOr (so ++ [p]) A).2 then headOr (so ++ [p]) A else headOr so B := by
 cases A with
 | nil => simp [headOr]
 | cons x A => simp [headOr]
theorem first_is {o : Api_Object} {l : List Api_Oper} (hl : l.length ≤ 20) : ∀ (n : Nat) (st : Int) (so : List Api_Pick) (done : List Bool) (f : Fm), n = cf done + 1 → done.length = l.length → memoOk o l f →
  (firstF o l n st so done f).1 = headOr so (allF o l n st done) ∧ memoOk o l (firstF o l n st so done f).2
 | 0, _, _, _, _, h, _, _ => by omega
 | n + 1, st, so, done, f, hn, hd, hf => by
  have hT : ∀ (L : List Api_Pick) (f : Fm), (∀ p ∈ L, p ∈ search_Next o l st done) → memoOk o l f →
    (tryF (fun p f => firstF o l n (moveTo o l st p) (so ++ [p]) (done.set p.Oper.toNat true) f) L f).1 = headOr so (L.flatMap fun p => (allF o l n (moveTo o l st p) (done.set p.Oper.toNat true)).map (p :: ·)) ∧
    memoOk o l (tryF (fun p f => firstF o l n (moveTo o l st p) (so ++ [p]) (done.set p.Oper.toNat true) f) L f).2 := by
   intro L
   induction L with
   | nil => intro f _ hf; exact ⟨rfl, hf⟩
   | cons p L ih =>
    intro f hL hf
    have ⟨_, _, _, hc⟩ := next_in hd (hL p (by simp))
    obtain ⟨e1, e2⟩ := first_is hl n (moveTo o l st p) (so ++ [p]) (done.set p.Oper.toNat true) f (by omega) (by simpa using hd) hf
    rw [List.flatMap_cons, headOr_cons, ← e1]
    unfold tryF
    by_cases h : (firstF o l n (moveTo o l st p) (so ++ [p]) (done.set p.Oper.toNat true) f).1.2 = true
    ·rw [if_pos h, if_pos h]; exact ⟨rfl, e2⟩
    ·rw [if_neg h, if_neg h]
     exact ih _ (fun q hq => hL q (by simp [hq])) e2
  obtain ⟨t1, t2⟩ := hT (search_Next o l st done) f (fun _ h => h) hf
  have hA : allF o l (n + 1) st done = (if wholeB l done then [[]] else []) ++ (search_Next o l st done).flatMap fun p => (allF o l n (moveTo o l st p) (done.set p.Oper.toNat true)).map (p :: ·) := rfl
  unfold firstF
  by_cases hw : wholeB l done = true
  ·rw [if_pos hw, hA, if_pos hw]
   exact ⟨by simp [headOr], hf⟩
  ·rw [if_neg hw]
   by_cases hm : (mget f (hereS done st)).getD 0 > 0
   ·rw [if_pos hm]
    have := hf done st hd hm
    rw [← hn] at this
    rw [this]
    exact ⟨rfl, hf⟩
   ·rw [if_neg hm]
    rw [if_neg hw, List.nil_append] at hA
    rw [hA]
    by_cases h2 : (tryF (fun p f => firstF o l n (moveTo o l st p) (so ++ [p]) (done.set p.Oper.toNat true) f) (search_Next o l st done) f).1.2 = true
    ·rw [if_pos h2]; exact ⟨t1, t2⟩
    ·rw [if_neg h2]
     have hnil : ((search_Next o l st done).flatMap fun p => (allF o l n (moveTo o l st p) (done.set p.Oper.toNat true)).map (p :: ·)) = [] := by
      rw [t1] at h2
      revert h2
      cases ((search_Next o l st done).flatMap fun p => (allF o l n (moveTo o l st p) (done.set p.Oper.toNat true)).map (p :: ·)) with
      | nil => intro _; rfl
      | cons x A => intro h; simp [headOr] at h
     refine ⟨by rw [hnil]; rfl, put_ok hl hd t2 ?_⟩
     rw [← hn, hA, hnil]
theorem memo_nil (o : Api_Object) (l : List Api_Oper) : memoOk o l [] := fun done st _ h => by simp [mget] at h
end Go.Proofs.Ytojdelnnjhbgbaa
