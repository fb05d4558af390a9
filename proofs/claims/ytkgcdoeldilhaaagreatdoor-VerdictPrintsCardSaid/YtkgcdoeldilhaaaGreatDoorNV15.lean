/- Proofs as text: Parse and the reference's reading. -/
import Derived.Test.YtkgcdoeldilhaaaGreatDoorNV14
set_option linter.all false
namespace Go.Proofs.YtkgcdoeldilhaaaGreatDoor
open Go Go.Sv Go.Pu
theorem line_good {s : Bs} (hs : s.length ≤ 1000000) {x : Int} (h0 : 0 ≤ x) (h1 : x < (token_Lines s).length) : goodT (gi (token_Lines s) x) := by
  intro t ht
  obtain ⟨k, g⟩ := (flat_good s).1 t (List.mem_flatten.2 ⟨_, mem_gi h0 h1, ht⟩)
  have a := g.lo
  have b := g.hi
  unfold tend at b
  exact ⟨a, by omega, by omega⟩
theorem lines_le (s : Bs) : (token_Lines s).length ≤ s.length := (lines_len s.length s 1 0).1
theorem empty_row {t : List Token_Token} (h : (((t.length : Nat) : Int) == 0) = true) : t = [] := by
  have : ((t.length : Nat) : Int) = 0 := by simpa using h
  exact List.length_eq_zero_iff.1 (by omega)
theorem full_row {t : List Token_Token} (h : (((t.length : Nat) : Int) == 0) = false) : t ≠ [] := by
  rintro rfl; simp at h
theorem v21 (s : Bs) : VC21 s (fun x => x = proof_Parse s) := by
  unfold VC21 VC21_J1 VC21_J2
  refine ⟨fun h => ?_, fun h => ?_⟩
  · have h := of_decide_eq_true h
    unfold proof_Parse
    rw [if_pos (by omega)]
  · have hl : ¬ s.length > 1000000 := by have := of_decide_eq_false h; omega
    refine ⟨by show s.length ≤ 1000000; omega, ?_⟩
    have hP : proof_Parse s = stepsGo s.length (token_Lines s) [] := by unfold proof_Parse; rw [if_neg hl]
    rw [hP]
    have hlen := lines_le s
    have hgood : ∀ x : Int, 0 ≤ x → x < (token_Lines s).length → goodT (gi (token_Lines s) x) := fun x a b => line_good (by omega) a b
    rintro _ rfl
    intro _
    generalize token_Lines s = L at *
    generalize htgt : stepsGo s.length L [] = tgt
    refine ⟨fun l i => 0 ≤ i ∧ i ≤ L.length ∧ l.length ≤ 1000000 ∧ stepsGo s.length (L.drop i.toNat) l = tgt, fun _ i => (L.length - i).toNat, ⟨by omega, by omega, by simp, by simpa using htgt⟩, ?_⟩
    rintro l i ⟨h0, h1, h2, ht⟩
    refine ⟨fun hi => ?_, fun hi => ?_⟩
    · have hi := of_decide_eq_true hi
      rw [wrp (n := i + 1) (by omega) (by omega)]
      rw [drop_gi h0 hi] at ht
      unfold stepsGo at ht
      refine ⟨⟨h0, hi⟩, fun _ => ⟨fun he => ?_, fun he => ⟨fun hf => ?_, fun hf => ?_⟩⟩⟩
      · rw [if_pos (empty_row he)] at ht
        exact ⟨⟨by omega, by omega, h2, ht⟩, by first | omega | (dsimp only; omega)⟩
      · have hne := full_row he
        have hf := of_decide_eq_true hf
        rw [if_neg hne, if_pos (by omega)] at ht
        have := List.length_pos_iff.2 hne
        exact ⟨⟨by omega, by omega⟩, ht⟩
      · have hne := full_row he
        have hf := of_decide_eq_false hf
        rw [if_neg hne, if_neg (by omega)] at ht
        refine ⟨⟨hgood i h0 hi, hne⟩, ?_⟩
        rintro _ rfl
        intro _ _ _
        refine ⟨by simp; omega, fun hb => ?_, fun hb => ?_⟩
        · have hb : (stepOf (gi L i)).2.e ≠ 0 := bne_iff_ne.1 hb
          rw [if_pos hb] at ht
          exact ht
        · have hb : (stepOf (gi L i)).2.e = 0 := by have := hb; rw [bne_eq_false_iff_eq] at this; exact this
          rw [if_neg (by simp [hb])] at ht
          exact ⟨⟨by omega, by omega, by simp; omega, ht⟩, by first | omega | (dsimp only; omega)⟩
    · have hi := of_decide_eq_false hi
      rw [show i.toNat = L.length by omega, List.drop_length] at ht
      exact ht
theorem row_taken (t : List Ref05_Token) (k end_ lo hh : Int) (tw : Bool) (h : (ref10_row t k end_ lo hh tw).E = 0) : 1 ≤ (ref10_row t k end_ lo hh tw).Taken ∧ (ref10_row t k end_ lo hh tw).Taken ≤ t.length - k.toNat := by
  unfold ref10_row at h ⊢
  obtain ⟨_, i2⟩ := row_rel lo hh tw ((t.drop k.toNat).map fromR) end_ 0 []
  obtain ⟨_, _, j, a1, a2, a3, _⟩ := i2 h
  rw [List.length_map, List.length_drop] at a2
  rw [a3]
  omega
theorem v53 (t : List Ref05_Token) (hp : preRs t) : VC53 t (fun x => x = ref10_step t) := by
  intro _
  obtain ⟨hg, hne, hl⟩ := hp
  have hpos : 0 < t.length := List.length_pos_iff.2 hne
  have j0 : inR .i64 0 := ⟨by decide, by decide⟩
  have j1 : inR .i64 10000000 := ⟨by decide, by decide⟩
  have j2 : inR .i64 (-100000) := ⟨by decide, by decide⟩
  have j3 : inR .i64 100000 := ⟨by decide, by decide⟩
  have j4 : inR .i64 (-10000000) := ⟨by decide, by decide⟩
  have g0 := hg _ (mem_gi (by omega : (0 : Int) ≤ 0) (by omega))
  refine ⟨⟨by omega, by omega⟩, ⟨g0.2.2, j0, j1⟩, ?_⟩
  rintro _ rfl
  unfold ref05_Number ref10_step
  refine ⟨fun he => ?_, fun he => ?_⟩
  · have he : (numOf (gi t 0).Text 0 10000000).2 ≠ 0 := bne_iff_ne.1 he
    rw [if_pos he]
    exact ⟨⟨by omega, by omega⟩, rfl⟩
  · have he : (numOf (gi t 0).Text 0 10000000).2 = 0 := by have := he; rw [bne_eq_false_iff_eq] at this; exact this
    rw [if_neg (by simp [he])]
    generalize numOf (gi t 0).Text 0 10000000 = q at *
    obtain ⟨id, qe⟩ := q
    have fin : ∀ (nx k : Int) (L H : List Int) (X : Api_Step × Int × Int), 0 ≤ nx → X = (if nx < t.length then (⟨k, id, L, H⟩, (gi t nx).At, 6) else (⟨k, id, L, H⟩, 0, 0)) → VC53_J1 t (fun x => x = X) (id, qe) nx k L H := by
      rintro nx k L H X h0 rfl
      refine ⟨fun h => ⟨⟨h0, of_decide_eq_true h⟩, ?_⟩, fun h => ?_⟩
      · rw [if_pos (of_decide_eq_true h)]
      · rw [if_neg (of_decide_eq_false h)]
    have ff : VC53_J2 t (fun x => x = ref10_step.addStep t id (ref10_row t 1 (ref10_behind (gi t 0)) (-100000) 100000 true)) (id, qe) false := by
      refine ⟨fun h => by simp at h, fun _ => ⟨⟨by omega, by omega⟩, g0, ?_⟩⟩
      rintro _ rfl
      refine ⟨⟨by omega, by omega, hl, j2, j3, hg⟩, ?_⟩
      rintro _ rfl
      intro _
      have hT := row_taken t 1 (ref10_behind (gi t 0)) (-100000) 100000 true
      generalize ref10_row t 1 (ref10_behind (gi t 0)) (-100000) 100000 true = a at *
      unfold ref10_step.addStep
      refine ⟨fun h => ?_, fun h => ?_⟩
      · rw [if_pos (bne_iff_ne.1 h)]
      · have h : a.E = 0 := by rw [bne_eq_false_iff_eq] at h; exact h
        rw [if_neg (by simp [h])]
        obtain ⟨t1, t2⟩ := hT h
        have t2 : a.Taken ≤ t.length - (1 : Nat) := t2
        rw [wrp (n := 1 + a.Taken) (by omega) (by omega), wrp (n := 1 + a.Taken - 1) (by omega) (by omega)]
        have gk := hg _ (mem_gi (l := t) (i := 1 + a.Taken - 1) (by omega) (by omega))
        refine ⟨⟨by omega, by omega⟩, gk, ?_⟩
        rintro _ rfl
        refine ⟨⟨by omega, by omega, hl, j4, j1, hg⟩, ?_⟩
        rintro _ rfl
        intro _
        have hU := row_taken t (1 + a.Taken) (ref10_behind (gi t (1 + a.Taken - 1))) (-10000000) 10000000 false
        generalize ref10_row t (1 + a.Taken) (ref10_behind (gi t (1 + a.Taken - 1))) (-10000000) 10000000 false = b at *
        unfold ref10_step.addStep2
        refine ⟨fun h => ?_, fun h => ?_⟩
        · rw [if_pos (bne_iff_ne.1 h)]
        · have h : b.E = 0 := by rw [bne_eq_false_iff_eq] at h; exact h
          rw [if_neg (by simp [h])]
          obtain ⟨u1, u2⟩ := hU h
          refine ⟨fun hi => ⟨⟨by omega, by omega⟩, ?_⟩, fun hi => ?_⟩
          · have hi : id = 0 := by simpa using hi
            rw [if_pos hi]
          · have hi : ¬ id = 0 := by simpa using hi
            rw [if_neg hi, wrp (n := 1 + a.Taken + b.Taken) (by omega) (by omega)]
            exact fin _ _ _ _ _ (by omega) rfl
    refine ⟨fun h1 => ⟨⟨by omega, of_decide_eq_true h1⟩, ?_⟩, fun h1 => ?_⟩
    · have h1 : t.length > 1 := by have := of_decide_eq_true h1; omega
      by_cases hw : (gi t 1).Text = wD
      · rw [if_pos ⟨h1, hw⟩]
        have e1 : ((gi t 1).Text == ([100] : List UInt8)) = true := by rw [hw]; rfl
        rw [e1]
        have g1 := hg _ (mem_gi (l := t) (i := 1) (by omega) (by omega))
        refine ⟨fun _ => ⟨⟨by omega, by omega⟩, g1, ?_⟩, fun h => by simp at h⟩
        rintro _ rfl
        refine ⟨⟨by omega, by omega, hl, j0, j1, hg⟩, ?_⟩
        rintro _ rfl
        intro _
        have hT := row_taken t 2 (ref10_behind (gi t 1)) 0 10000000 false
        generalize ref10_row t 2 (ref10_behind (gi t 1)) 0 10000000 false = a at *
        refine ⟨fun h => ?_, fun h => ?_⟩
        · rw [if_pos (bne_iff_ne.1 h)]
        · have h : a.E = 0 := by rw [bne_eq_false_iff_eq] at h; exact h
          rw [if_neg (by simp [h])]
          obtain ⟨t1, t2⟩ := hT h
          rw [wrp (n := 2 + a.Taken) (by omega) (by omega)]
          exact fin _ _ _ _ _ (by omega) rfl
      · rw [if_neg (fun x => hw x.2)]
        have e1 : ((gi t 1).Text == ([100] : List UInt8)) = false := by rw [beq_eq_false_iff_ne]; exact hw
        rw [e1]
        exact ff
    · have h1 : ¬ t.length > 1 := by have := of_decide_eq_false h1; omega
      rw [if_neg (fun x => h1 x.1)]
      exact ff
end Go.Proofs.YtkgcdoeldilhaaaGreatDoor
