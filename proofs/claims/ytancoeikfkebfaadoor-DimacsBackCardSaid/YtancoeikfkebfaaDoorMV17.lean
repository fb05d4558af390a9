/- The laws of formulas as text: plain. -/
import Derived.Test.YtancoeikfkebfaaDoorMV16
set_option linter.all false
namespace Go.Proofs.YtancoeikfkebfaaDoor
open Go Go.Sv Go.Pu
theorem v7 : VC7 (fun r => r = law06_awake) := by
  have e1 : dimacs_Parse [99, 32, 111, 110, 101, 10, 112, 32, 99, 110, 102, 32, 50, 32, 50, 10, 49, 32, 45, 50, 32, 48, 32, 50, 10, 48, 10] = (⟨2, [[1, -2], [2]]⟩, 27, 0) := by decide +kernel
  have e2 : dimacs_Parse [112, 32, 99, 110, 102, 32, 50, 32, 49, 10, 49, 32, 51, 32, 48] = (⟨0, []⟩, 12, 7) := by decide +kernel
  have e3 : dimacs_Parse [112, 32, 99, 110, 102, 32, 50, 32, 49, 10, 49, 32, 45, 49, 32, 48] = (⟨0, []⟩, 12, 11) := by decide +kernel
  have i0 : Lib.itoa 0 = [48] := zero_itoa
  have i1 : Lib.itoa 1 = [49] := itoa_d 1 (by decide)
  have i2 : Lib.itoa 2 = [50] := itoa_d 2 (by decide)
  have i2' : Lib.itoa (([[1, -2], [2]] : List (List Int)).length : Int) = [50] := itoa_d 2 (by decide)
  have i3 : Lib.itoa (-2) = [45, 50] := by
    have := Lib.itoa_neg 2 (by decide)
    have h2 : Lib.decDigits 2 = [50] := by have := Lib.decDigits_one (show (2 : Nat) < 10 by decide); exact this
    rw [h2] at this; exact this
  have hc : (cnfE ⟨2, [[1, -2], [2]]⟩).2 = 0 := by decide +kernel
  have e4 : dimacs_Print ⟨2, [[1, -2], [2]]⟩ = ([112, 32, 99, 110, 102, 32, 50, 32, 50, 10, 49, 32, 45, 50, 32, 48, 10, 50, 32, 48, 10], 0) := by
    rw [print_body hc]
    unfold headB clsB litsB
    simp only [List.flatMap_cons, List.flatMap_nil, i1, i2, i3, i2']
    decide
  have e5 : dimacs_Head 1 0 = [112, 32, 99, 110, 102, 32, 49, 32, 48, 10] := by
    unfold dimacs_Head headB; rw [i0, i1]; rfl
  unfold VC7
  simp only [forall_eq', e1, e2, e3, e4]
  intro _ _ _
  refine ⟨fun _ => ⟨fun _ => ⟨⟨⟨by decide, by decide⟩, ⟨by decide, by decide⟩⟩, by rw [e5]; rfl⟩, fun h => absurd h (by decide)⟩, fun h => absurd h (by decide)⟩
theorem v3 {P : Prop} (s : Bs) (_ : P) : VC3 s (fun r => r = true) := by
  unfold VC3
  refine ⟨fun _ => ?_, fun _ => ?_⟩
  · rintro _ rfl; rfl
  rintro _ rfl
  intro _
  rintro _ rfl
  intro _
  rintro _ rfl
  have e : ref06_Parse s = dimacs_Parse s := rfl
  rw [e]
  have : ref04_Same (dimacs_Parse s).1 (dimacs_Parse s).1 = true := by simp [ref04_Same]
  rw [this]
  refine ⟨fun _ => ?_, fun h => by simp at h⟩
  rintro _ rfl; rfl
theorem v4 {P : Prop} (f : Api_Formula) (vars clauses : Int) (_ : P) (h1 : inR .i64 vars) (h2 : inR .i64 clauses) : VC4 f vars clauses (fun r => r = true) := by
  unfold VC4
  intro _
  rintro _ rfl
  refine ⟨fun _ => ?_, fun hf => ?_⟩
  · rintro _ rfl; rfl
  rintro _ rfl
  rintro _ rfl
  rw [print_same f]
  refine ⟨fun _ => ⟨⟨h1, h2⟩, ?_⟩, fun h => by simp at h⟩
  rintro _ rfl
  refine ⟨⟨h1, h2⟩, ?_⟩
  rintro _ rfl
  have : dimacs_Head vars clauses = ref06_Head vars clauses := rfl
  rw [this]
  refine ⟨fun _ => ?_, fun h => by simp at h⟩
  rintro _ rfl; rfl
theorem mem_flat {L : List (List Token_Token)} {i k : Int} (i0 : 0 ≤ i) (hi : i < L.length) (k0 : 0 ≤ k) (hk : k < (gi L i).length) : gi (gi L i) k ∈ L.flatten := List.mem_flatten.2 ⟨_, mem_gi i0 hi, mem_gi k0 hk⟩
theorem v5 {P R : Prop} (s behind : Bs) (_ : P) (_ : R) : VC5 s behind (fun r => r = true) := by
  unfold VC5
  refine ⟨fun _ => ?_, fun h => ?_⟩
  · rintro _ rfl; rfl
  have h : s.length ≤ 3000 ∧ behind.length ≤ 300 := by
    rw [Bool.or_eq_false_iff] at h
    have a := of_decide_eq_false h.1
    have b := of_decide_eq_false h.2
    omega
  obtain ⟨hs, hb⟩ := h
  rintro _ rfl
  intro _
  have hin := place_in hs
  refine ⟨fun h => ?_, fun _ => ⟨fun h => ⟨fun _ => ?_, fun h2 => ?_⟩, fun h => ?_⟩⟩
  · rw [Bool.or_eq_true] at h
    rcases h with h | h
    · have := of_decide_eq_true h; omega
    · have := of_decide_eq_true h; omega
  · rintro _ rfl; rfl
  · have h : (dimacs_Parse s).2.2 = 0 ∨ (dimacs_Parse s).2.2 = 4 := by simpa using h
    rw [parse_eq s (by omega)] at h h2
    rw [parse_end _ _ h] at h2
    simp at h2
  · rw [Bool.or_eq_false_iff] at h
    have h0 : (dimacs_Parse s).2.2 ≠ 0 := by simpa using h.1
    have h4 : (dimacs_Parse s).2.2 ≠ 4 := by simpa using h.2
    obtain ⟨t, ht, hat, ht0, hte, hlt, hsame⟩ := places hs behind hb h0 h4
    refine ⟨by show s.length ≤ 1000000; omega, ?_⟩
    rintro _ rfl
    intro _
    have hL : (token_Lines s).length ≤ s.length := (lines_len s.length s 1 0).1
    have hFl : (token_Lines s).flatten.length ≤ s.length := flat_len _ s rfl 1 0
    have hone : ∀ u ∈ (token_Lines s).flatten, u.At = (dimacs_Parse s).2.1 → (dimacs_Parse s).2.1 + (u.Text.length : Int) = tend t := fun u hu hx => by
      have := flat_one ht hu (by omega)
      unfold tend at this ⊢
      omega
    have htm : t ∈ (token_Lines s).flatten := ht
    unfold VC5_J2 VC5_J3
    generalize token_Lines s = L at *
    generalize hat' : (dimacs_Parse s).2.1 = at_ at *
    refine ⟨fun e i => 0 ≤ i ∧ i ≤ L.length ∧ ((e = -1 ∧ ∀ u ∈ (L.take i.toNat).flatten, u.At ≠ at_) ∨ e = tend t), fun _ i => (L.length - i).toNat, ⟨by omega, by omega, .inl ⟨rfl, by simp⟩⟩, ?_⟩
    rintro e i ⟨i0, i1, hI⟩
    refine ⟨fun hi => ?_, fun hi => ?_⟩
    · have hi := of_decide_eq_true hi
      have hfs := flatten_step i0 hi
      have hrl : (gi L i).length ≤ L.flatten.length := by
        have a := congrArg List.length hfs
        have b := flatten_le L (i + 1).toNat
        rw [List.length_append] at a; omega
      refine ⟨fun e2 k => 0 ≤ k ∧ k ≤ (gi L i).length ∧ ((e2 = -1 ∧ (∀ u ∈ (L.take i.toNat).flatten, u.At ≠ at_) ∧ ∀ u ∈ (gi L i).take k.toNat, u.At ≠ at_) ∨ e2 = tend t), fun _ k => ((gi L i).length - k).toNat, ⟨by omega, by omega, ?_⟩, ?_⟩
      · rcases hI with ⟨a, b⟩ | a
        · exact .inl ⟨a, b, by simp⟩
        · exact .inr a
      rintro e2 k ⟨k0, k1, hK⟩
      refine ⟨⟨i0, hi⟩, fun _ => ⟨fun hk => ?_, fun hk => ?_⟩⟩
      · have hk := of_decide_eq_true hk
        rw [wrp (n := k + 1) (by omega) (by omega)]
        refine ⟨⟨i0, hi⟩, fun _ => ⟨⟨k0, hk⟩, fun hx => ⟨⟨i0, hi⟩, fun _ => ⟨⟨k0, hk⟩, ⟨by omega, by omega, .inr ?_⟩, by first | omega | (dsimp only; omega)⟩⟩, fun hx => ⟨⟨by omega, by omega, ?_⟩, by first | omega | (dsimp only; omega)⟩⟩⟩
        · have hx : (gi (gi L i) k).At = at_ := by simpa using hx
          have := hone _ (mem_flat i0 hi k0 hk) hx
          rw [wrp (by omega) (by omega)]
          exact this
        · have hx : (gi (gi L i) k).At ≠ at_ := by simpa using hx
          rcases hK with ⟨a, b, c⟩ | a
          · refine .inl ⟨a, b, fun u hu => ?_⟩
            rw [take_gi k0 hk] at hu
            rcases List.mem_append.1 hu with hu | hu
            · exact c u hu
            · simp at hu; subst hu; exact hx
          · exact .inr a
      · have hk := of_decide_eq_false hk
        rw [wrp (n := i + 1) (by omega) (by omega)]
        refine ⟨⟨by omega, by omega, ?_⟩, by first | omega | (dsimp only; omega)⟩
        rcases hK with ⟨a, b, c⟩ | a
        · refine .inl ⟨a, fun u hu => ?_⟩
          rw [hfs] at hu
          rcases List.mem_append.1 hu with hu | hu
          · exact b u hu
          · rw [show k.toNat = (gi L i).length by omega, List.take_length] at c
            exact c u hu
        · exact .inr a
    · have hi := of_decide_eq_false hi
      rw [show i.toNat = L.length by omega, List.take_length] at hI
      have he : e = tend t := by
        rcases hI with ⟨_, b⟩ | a
        · exact absurd hat (b t htm)
        · exact a
      subst he
      unfold VC5_J1
      refine ⟨fun hx => ?_, fun _ => ⟨⟨by omega, hte⟩, by simp; omega, by simp; omega, ?_⟩⟩
      · have := of_decide_eq_true hx; omega
      rintro _ rfl
      intro _
      have e1 : s.take (tend t).toNat ++ [9] ++ behind = s.take (tend t).toNat ++ 9 :: behind := by simp
      rw [e1, hsame, hat']
      refine ⟨fun _ => ?_, fun hx => by simp at hx⟩
      rintro _ rfl; rfl
theorem v6 {P R : Prop} (f : Api_Formula) (s : Bs) (_ : P) (_ : R) : VC6 f s (fun r => r = true) := by
  unfold VC6
  intro _
  rintro _ rfl
  refine ⟨fun _ => ?_, fun h => ?_⟩
  · rintro _ rfl; rfl
  rw [Bool.or_eq_false_iff] at h
  have hf : law04_Few f = true := by simpa using h.1
  have hs : s.length ≤ 3000 := by have := of_decide_eq_false h.2; omega
  have hz := few_sz hf
  rintro _ rfl
  rintro _ rfl
  have hsame : (cnf_Check f).2 = (dimacs_Print f).2 := by
    unfold cnf_Check
    by_cases hc : (cnfE f).2 = 0
    · rw [hc, print_ok hc (by omega)]
    · unfold dimacs_Print; rw [if_pos hc]
  have back : VC6_J1 s (fun r => r = true) := by
    unfold VC6_J1
    rintro _ rfl
    intro _
    refine ⟨fun he => ⟨fun _ => ?_, fun hx => ?_⟩, fun he => ?_⟩
    · rintro _ rfl; rfl
    · have he : (dimacs_Parse s).2.2 ≠ 0 := by simpa using he
      rw [read_bad he] at hx
      simp [f0] at hx
    · have he : (dimacs_Parse s).2.2 = 0 := by simpa using he
      obtain ⟨r1, r2, r3⟩ := read_ok hs he
      have hp := print_ok r1 (by omega)
      have hb := parse_print (dimacs_Parse s).1 hp
      rintro _ rfl
      rintro _ rfl
      intro _
      rw [hb, hp]
      refine ⟨fun _ => ?_, fun hx => by simp at hx⟩
      rintro _ rfl
      refine ⟨fun _ => ?_, fun hx => by simp [cnf_Same] at hx⟩
      rintro _ rfl; rfl
  refine ⟨fun hx => ?_, fun _ => ⟨fun hp => ?_, fun _ => back⟩⟩
  · rw [hsame] at hx; simp at hx
  · have hp : (dimacs_Print f).2 = 0 := by simpa using hp
    have hb := parse_print f hp
    rintro _ rfl
    intro _
    rintro _ rfl
    rw [hb]
    refine ⟨fun hx => by simp [cnf_Same] at hx, fun _ => back⟩
end Go.Proofs.YtancoeikfkebfaaDoor
