/- What is left, the least beginning, the least part: plain; laws 4, 5, 6. -/
import Derived.Test.YtojdelnnjhbgbaaZV17
set_option linter.all false
namespace Go.Proofs.Ytojdelnnjhbgbaa
open Go Go.Sv Go.Pu
theorem wo_eq (l : List Api_Event) (ops : List Int) : shrink_Without l ops = ref41_Without l ops := by
  have key : ∀ (f k : Nat) (g : List (Int × Int)), k + f = l.length → (∀ p, (mget g p).getD 0 = if begunGo p (l.take k) (-1) (-1) ≥ 0 ∧ begunGo p (l.take k) (-1) (-1) ∈ ops then 1 else 0) → rWoTo l ops k ++ woGo ops (l.drop k) (callsN (l.take k)) g = rWoTo l ops l.length := by
    intro f
    induction f with
    | zero =>
      intro k g hk _
      rw [List.drop_eq_nil_of_le (by omega), woGo, List.append_nil, show k = l.length by omega]
    | succ f ih =>
      intro k g hk hg
      have hkl : k < l.length := by omega
      have hcs : callsN (l.take (k + 1)) = callsN (l.take k) + (if (gi l (k : Int)).What = 1 then 1 else 0) := by rw [take_snoc hkl, calls_snoc]
      have hc0 : 0 ≤ callsN (l.take k) := by unfold callsN; omega
      have hbs : ∀ p, begunGo p (l.take (k + 1)) (-1) (-1) = if (gi l (k : Int)).What = 1 then (if (gi l (k : Int)).Prc = p then callsN (l.take k) else begunGo p (l.take k) (-1) (-1)) else (if (gi l (k : Int)).Prc = p then -1 else begunGo p (l.take k) (-1) (-1)) := fun p => by
        rw [take_snoc hkl, begun_snoc]
        split
        · split
          · omega
          · rfl
        · rfl
      have hS : ref41_Owner l (k : Int) = if (gi l (k : Int)).What = 1 then callsN (l.take k) else if (gi l (k : Int)).What = 2 then begunGo (gi l (k : Int)).Prc (l.take k) (-1) (-1) else -1 := by
        unfold ref41_Owner
        rw [show ((k : Nat) : Int).toNat = k by omega]
      rw [drop_gi hkl, woGo]
      have fin : ∀ (n' : Int) (g' : List (Int × Int)), n' = callsN (l.take (k + 1)) → (∀ p, (mget g' p).getD 0 = if begunGo p (l.take (k + 1)) (-1) (-1) ≥ 0 ∧ begunGo p (l.take (k + 1)) (-1) (-1) ∈ ops then 1 else 0) → rWoTo l ops (k + 1) ++ woGo ops (l.drop (k + 1)) n' g' = rWoTo l ops l.length := fun n' g' hn hg' => by
        rw [hn]; exact ih (k + 1) g' (by omega) hg'
      have hrs := rWo_succ l ops k
      by_cases w : (gi l (k : Int)).What = 1
      · rw [if_pos w] at hcs hS
        rw [if_pos w]
        have hrg : rGone l ops (k : Int) = decide (callsN (l.take k) ∈ ops) := by
          unfold rGone; rw [hS]; exact decide_eq_decide.2 ⟨fun h => h.2, fun h => ⟨hc0, h⟩⟩
        rw [hrg] at hrs
        by_cases hm : callsN (l.take k) ∈ ops
        · rw [if_pos (decide_eq_true hm), List.append_nil] at hrs
          rw [if_pos hm, ← hrs]
          refine fin _ _ hcs.symm (fun p => ?_)
          by_cases e : p = (gi l (k : Int)).Prc
          · subst e
            have e2 : begunGo (gi l (k : Int)).Prc (l.take (k + 1)) (-1) (-1) = callsN (l.take k) := by rw [hbs, if_pos w, if_pos rfl]
            rw [mget_mput, if_pos rfl, e2, if_pos ⟨hc0, hm⟩]; rfl
          · have e2 : begunGo p (l.take (k + 1)) (-1) (-1) = begunGo p (l.take k) (-1) (-1) := by rw [hbs, if_pos w, if_neg (fun h => e h.symm)]
            rw [mget_mput, mget_mput, if_neg e, if_neg e, e2]; exact hg p
        · rw [if_neg (by simpa using hm)] at hrs
          rw [if_neg hm, List.append_cons, ← hrs]
          refine fin _ _ hcs.symm (fun p => ?_)
          by_cases e : p = (gi l (k : Int)).Prc
          · subst e
            have e2 : begunGo (gi l (k : Int)).Prc (l.take (k + 1)) (-1) (-1) = callsN (l.take k) := by rw [hbs, if_pos w, if_pos rfl]
            rw [mget_mput, if_pos rfl, e2, if_neg (fun h => hm h.2)]; rfl
          · have e2 : begunGo p (l.take (k + 1)) (-1) (-1) = begunGo p (l.take k) (-1) (-1) := by rw [hbs, if_pos w, if_neg (fun h => e h.symm)]
            rw [mget_mput, if_neg e, e2]; exact hg p
      · rw [if_neg w] at hcs hS
        rw [Int.add_zero] at hcs
        rw [if_neg w]
        have hg' : ∀ p, (mget (mput g (gi l (k : Int)).Prc 0) p).getD 0 = if begunGo p (l.take (k + 1)) (-1) (-1) ≥ 0 ∧ begunGo p (l.take (k + 1)) (-1) (-1) ∈ ops then 1 else 0 := fun p => by
          by_cases e : p = (gi l (k : Int)).Prc
          · subst e
            have e2 : begunGo (gi l (k : Int)).Prc (l.take (k + 1)) (-1) (-1) = -1 := by rw [hbs, if_neg w, if_pos rfl]
            rw [mget_mput, if_pos rfl, e2, if_neg (fun h => absurd h.1 (by decide))]; rfl
          · have e2 : begunGo p (l.take (k + 1)) (-1) (-1) = begunGo p (l.take k) (-1) (-1) := by rw [hbs, if_neg w, if_neg (fun h => e h.symm)]
            rw [mget_mput, if_neg e, e2]; exact hg p
        have hgp := hg (gi l (k : Int)).Prc
        by_cases hc : (mget g (gi l (k : Int)).Prc).getD 0 = 0 ∨ (gi l (k : Int)).What ≠ 2
        · have hrg : rGone l ops (k : Int) = false := by
            unfold rGone
            rw [hS, decide_eq_false_iff_not]
            rintro ⟨h1, h2⟩
            by_cases w2 : (gi l (k : Int)).What = 2
            · rw [if_pos w2] at h1 h2
              rw [if_pos ⟨h1, h2⟩] at hgp
              rcases hc with hc | hc
              · rw [hc] at hgp; cases hgp
              · exact hc w2
            · rw [if_neg w2] at h1; exact absurd h1 (by decide)
          rw [hrg, if_neg (by simp)] at hrs
          rw [if_pos hc, List.append_cons, ← hrs]
          exact fin _ _ hcs.symm hg'
        · have w2 : (gi l (k : Int)).What = 2 := by
            apply Classical.byContradiction
            intro h; exact hc (.inr h)
          have hc1 : ¬ (mget g (gi l (k : Int)).Prc).getD 0 = 0 := fun h => hc (.inl h)
          have hrg : rGone l ops (k : Int) = true := by
            unfold rGone
            rw [hS, if_pos w2, decide_eq_true_eq]
            apply Classical.byContradiction
            intro h
            rw [if_neg h] at hgp
            exact hc1 hgp
          rw [hrg, if_pos rfl, List.append_nil] at hrs
          rw [if_neg hc, ← hrs]
          exact fin _ _ hcs.symm hg'
  have h0 := key l.length 0 [] (by omega) (fun p => by simp [mget, begunGo])
  exact h0
theorem v4 {A B : Prop} (l : List Api_Event) (ops : List Int) (_ : A) (_ : B) : VC4 l ops (fun r => r = true) := by
  intro _ _
  refine ⟨fun _ => by rintro _ rfl; rfl, fun h => ?_⟩
  rw [Bool.or_eq_false_iff, decide_eq_false_iff_not, decide_eq_false_iff_not] at h
  have hl : l.length ≤ 1000000 := by omega
  refine ⟨hl, ?_⟩
  rintro _ rfl _
  refine ⟨hl, ?_⟩
  rintro _ rfl _
  rintro _ rfl
  refine ⟨fun _ => by rintro _ rfl; rfl, fun h => ?_⟩
  exfalso
  rw [wo_eq] at h
  unfold ref25_Same at h
  exact of_decide_eq_false h rfl
def some_ (o : Api_Object) (l : List Api_Event) : Bool := decide (linsOf o (opsOf l) ≠ [])
structure LeastOk (o : Api_Object) (l out : List Api_Event) : Prop where
  ok : caseE o out = 0
  no : some_ o out = false
  less : ∀ m : Nat, m < out.length → some_ o (out.take m) = true
  sub : out.Sublist l
end Go.Proofs.Ytojdelnnjhbgbaa
