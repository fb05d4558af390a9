/- What the small functions of the token layer answer; pieces of texts. -/
import Derived.Test.YtkgcdoeldilhaaaGreatDoorNVC
import Derived.Test.YtkgcdoeldilhaaaGreatDoorPu
set_option linter.all false
namespace Go.Proofs.YtkgcdoeldilhaaaGreatDoor
open Go Go.Sv Go.Pu
theorem drop_gi {α : Type} [Inhabited α] {l : List α} {i : Int} (h0 : 0 ≤ i) (h : i < l.length) : l.drop i.toNat = gi l i :: l.drop (i + 1).toNat := by
  have h1 : i.toNat < l.length := by omega
  rw [gi_cast h0 h, List.drop_eq_getElem_cons h1]
  congr 2
  omega
theorem take_gi {α : Type} [Inhabited α] {l : List α} {i : Int} (h0 : 0 ≤ i) (h : i < l.length) : l.take (i + 1).toNat = l.take i.toNat ++ [gi l i] := by
  have h1 : i.toNat < l.length := by omega
  rw [gi_cast h0 h, show (i + 1).toNat = i.toNat + 1 by omega, List.take_succ_eq_append_getElem h1]
theorem gi_take {α : Type} [Inhabited α] {l : List α} {i e : Int} (h0 : 0 ≤ i) (h : i < e) (h2 : e ≤ l.length) : gi (l.take e.toNat) i = gi l i := by
  rw [gi_cast h0 (by rw [List.length_take]; omega), gi_cast h0 (by omega)]; simp
theorem seg_cons {s : Bs} {i e : Int} (h0 : 0 ≤ i) (h1 : i < e) (h2 : e ≤ s.length) : (s.take e.toNat).drop i.toNat = gi s i :: (s.take e.toNat).drop (i + 1).toNat := by
  rw [drop_gi h0 (by rw [List.length_take]; omega), gi_take h0 h1 h2]
theorem seg_snoc {s : Bs} {i k : Int} (h0 : 0 ≤ i) (h1 : i ≤ k) (h2 : k < s.length) : (s.take (k + 1).toNat).drop i.toNat = (s.take k.toNat).drop i.toNat ++ [gi s k] := by
  rw [take_gi (by omega) h2, List.drop_append_of_le_length (by rw [List.length_take]; omega)]
theorem seg_nil {s : Bs} {i e : Int} (h : e ≤ i) : (s.take e.toNat).drop i.toNat = [] := by
  apply List.drop_eq_nil_of_le; rw [List.length_take]; omega
theorem seg_len {s : Bs} {i e : Int} (h0 : 0 ≤ i) (h1 : i ≤ e) (h2 : e ≤ s.length) : ((((s.take e.toNat).drop i.toNat).length : Nat) : Int) = e - i := by
  rw [List.length_drop, List.length_take]; omega
theorem mem_gi {α : Type} [Inhabited α] {l : List α} {i : Int} (h0 : 0 ≤ i) (h : i < l.length) : gi l i ∈ l := by
  rw [gi_cast h0 h]; exact List.getElem_mem _
theorem u8eq (b : UInt8) (n : Nat) (hn : n < 256) : (b == UInt8.ofNat n) = ((b.toNat : Int) == (n : Int)) := by
  rw [Bool.eq_iff_iff, beq_iff_eq, beq_iff_eq]
  constructor
  · rintro rfl
    simp [Nat.mod_eq_of_lt hn]
  · intro h
    apply UInt8.toNat_inj.1
    simp [Nat.mod_eq_of_lt hn]
    omega
theorem ofnat_cast (b : UInt8) : UInt8.ofNat ((b.toNat : Int)).toNat = b := by simp
theorem idx_gap (b : UInt8) : decide (strings_IndexByte [32, 9, 13] (b.toNat : Int) ≥ 0) = gapB b := by
  unfold strings_IndexByte gapB ref05_gap
  rw [ofnat_cast]
  have e1 : ((32 : UInt8) == b) = ((b.toNat : Int) == 32) := by rw [BEq.comm]; exact u8eq b 32 (by decide)
  have e2 : ((9 : UInt8) == b) = ((b.toNat : Int) == 9) := by rw [BEq.comm]; exact u8eq b 9 (by decide)
  have e3 : ((13 : UInt8) == b) = ((b.toNat : Int) == 13) := by rw [BEq.comm]; exact u8eq b 13 (by decide)
  simp only [Lib.indexByte, e1, e2, e3]
  cases ((b.toNat : Int) == 32) <;> cases ((b.toNat : Int) == 9) <;> cases ((b.toNat : Int) == 13) <;> simp
theorem idx_gapn (b : UInt8) : decide (strings_IndexByte [32, 9, 13] (b.toNat : Int) < 0) = !gapB b := by
  rw [← idx_gap]
  by_cases h : strings_IndexByte [32, 9, 13] (b.toNat : Int) < 0
  · simp [h, Int.not_le.2 h]
  · simp [h, Int.not_lt.1 h]
theorem v51 (b : Int) : VC51 b (fun r => r = ref05_gap b) := by
  unfold VC51 ref05_gap
  rw [Bool.or_assoc]
theorem hp_take (s p : Bs) : Lib.hasPrefix s p = (decide (p.length ≤ s.length) && (s.take p.length == p)) := by
  unfold Lib.hasPrefix
  rw [Bool.eq_iff_iff, List.isPrefixOf_iff_prefix, Bool.and_eq_true, decide_eq_true_eq, beq_iff_eq]
  constructor
  · rintro ⟨t, rfl⟩
    simp
  · rintro ⟨h1, h2⟩
    exact ⟨s.drop p.length, by have := List.take_append_drop p.length s; rw [h2] at this; exact this⟩
theorem v85 (s p : Bs) (h : preTwo s p) : VC85 s p (fun r => r = internal_stringslite_HasPrefix s p) := by
  unfold VC85 internal_stringslite_HasPrefix
  rw [hp_take]
  refine ⟨fun h => ?_, fun h => ?_⟩
  · have h := of_decide_eq_true h
    refine ⟨by omega, ?_⟩
    rw [show ((p.length : Nat) : Int).toNat = p.length by omega]
    have : p.length ≤ s.length := by omega
    simp [this]
  · have h := of_decide_eq_false h
    have : ¬ p.length ≤ s.length := by omega
    simp [this]
theorem v69 (s p : Bs) (h : preTwo s p) : VC69 s p (fun r => r = strings_HasPrefix s p) := by
  refine ⟨h, ?_⟩
  simp only [forall_eq']; rfl
theorem v113 (s p : Bs) (h : preTwo s p) : VC113 s p (fun r => r = internal_stringslite_CutPrefix s p) := by
  refine ⟨h, ?_⟩
  simp only [forall_eq']
  unfold internal_stringslite_CutPrefix internal_stringslite_HasPrefix
  refine ⟨fun h => ?_, fun h => ?_⟩
  · have h2 : Lib.hasPrefix s p = false := by simpa using h
    rw [h2]; rfl
  · have h2 : Lib.hasPrefix s p = true := by simpa using h
    rw [h2]
    rw [hp_take, Bool.and_eq_true, decide_eq_true_eq] at h2
    exact ⟨by omega, rfl⟩
theorem v107 (s p : Bs) (h : preTwo s p) : VC107 s p (fun r => r = strings_CutPrefix s p) := by
  refine ⟨h, ?_⟩
  simp only [forall_eq']; rfl
theorem idx_lt (l : Bs) (c : UInt8) : Lib.indexByte l c < l.length := by
  induction l with
  | nil => simp [Lib.indexByte]
  | cons b l ih =>
    unfold Lib.indexByte
    rw [List.length_cons]
    split
    · omega
    · split
      · omega
      · omega
theorem v68 (s p : Bs) (h : preOne s p) : VC68 s p (fun r => r = internal_stringslite_Cut s p) := by
  refine ⟨h, ?_⟩
  simp only [forall_eq']
  have hlt : internal_stringslite_Index s p < s.length := idx_lt _ _
  obtain ⟨h1, h2⟩ := h
  unfold internal_stringslite_Cut
  refine ⟨fun h => ?_, fun h => ?_⟩
  · have h := of_decide_eq_true h
    rw [if_pos h, wrp (by omega) (by omega), h1]
    refine ⟨by omega, by omega, ?_⟩
    rw [show (internal_stringslite_Index s p + ((1 : Nat) : Int)).toNat = (internal_stringslite_Index s p).toNat + 1 by omega]
  · have h := of_decide_eq_false h
    rw [if_neg h]
theorem v44 (s p : Bs) (h : preOne s p) : VC44 s p (fun r => r = strings_Cut s p) := by
  refine ⟨h, ?_⟩
  simp only [forall_eq']; rfl
theorem cut_line : ∀ l : Bs, (strings_Cut l [10]).1 = l.takeWhile (fun b => b != 10) := by
  intro l
  have key : ∀ l : Bs, (if 0 ≤ Lib.indexByte l 10 then l.take (Lib.indexByte l 10).toNat else l) = l.takeWhile (fun b => b != 10) := by
    intro l
    induction l with
    | nil => simp [Lib.indexByte]
    | cons b l ih =>
      by_cases hb : b = 10
      · subst hb; simp [Lib.indexByte]
      · have e2 : (b != 10) = true := by simpa using hb
        have hx : Lib.indexByte (b :: l) 10 = if Lib.indexByte l 10 = -1 then -1 else Lib.indexByte l 10 + 1 := by simp [Lib.indexByte, hb]
        have hge := Lib.indexByte_ge l 10
        rw [List.takeWhile_cons, if_pos e2, hx, ← ih]
        by_cases h1 : Lib.indexByte l 10 = -1
        · rw [if_pos h1, h1]; simp
        · have h2 : 0 ≤ Lib.indexByte l 10 := by omega
          rw [if_neg h1, if_pos (by omega), if_pos h2, show (Lib.indexByte l 10 + 1).toNat = (Lib.indexByte l 10).toNat + 1 by omega, List.take_succ_cons]
  rw [← key l]
  have e : internal_stringslite_Index l [10] = Lib.indexByte l 10 := rfl
  unfold strings_Cut internal_stringslite_Cut
  rw [e]
  by_cases h : 0 ≤ Lib.indexByte l 10
  · rw [if_pos h, if_pos h]
  · rw [if_neg h, if_neg h]
end Go.Proofs.YtkgcdoeldilhaaaGreatDoor
