/- Plain lemmas about the specification functions. Conditions: in each lemma. -/
import Derived.Test.YtlpcjbjlgeaapaaPV1
set_option linter.all false
namespace Go.Proofs.Ytlpcjbjlgeaapaa
open Go Go.Sv Go.Pu

theorem wrpU {n : Int} (h0 : 0 ≤ n) (h1 : n < 18446744073709551616) : IntKind.u64.wrap n = n := by
  simp [IntKind.wrap, IntKind.signed, IntKind.bits]; omega
theorem andm {z : Int} (h0 : 0 ≤ z) (h1 : z < 4294967296) : ((BitVec.ofInt IntKind.u64.bits z &&& BitVec.ofInt IntKind.u64.bits 4294967295).toNat : Int) = z := by
  show (((BitVec.ofInt 64 z &&& BitVec.ofInt 64 4294967295).toNat : Nat) : Int) = z
  have e : (BitVec.ofInt 64 4294967295).toNat = 2 ^ 32 - 1 := by decide
  rw [BitVec.toNat_and, e, Nat.and_two_pow_sub_one_eq_mod, BitVec.toNat_ofInt]
  have e2 : ((2 ^ 64 : Nat) : Int) = 18446744073709551616 := by decide
  have e3 : (2 ^ 32 : Nat) = 4294967296 := by decide
  rw [e2, e3]
  omega
theorem fdiv0 {z : Int} (h0 : 0 ≤ z) (h1 : z < 4294967296) : z.fdiv (2 ^ 32) = 0 := by
  have e : (2 ^ 32 : Int) = 4294967296 := by decide
  rw [e, Int.fdiv_eq_ediv_of_nonneg _ (by decide)]
  omega

theorem v84 (x y : Int) (h : preMul x y) : VC84 x y (fun r => r = math_bits_Mul64 x y) := by
  obtain ⟨x0, x1, y0, y1⟩ := h
  have hm := mulb x0 x1 y0 y1
  unfold VC84 math_bits_Mul64
  show _ = _
  have ax := andm (z := x) x0 (by omega)
  have ay := andm (z := y) y0 (by omega)
  have a0 := andm (z := 0) (by omega) (by omega)
  have fx := fdiv0 (z := x) x0 (by omega)
  have fy := fdiv0 (z := y) y0 (by omega)
  have f0 := fdiv0 (z := 0) (by omega) (by omega)
  have fxy := fdiv0 (z := x * y) hm.1 (by omega)
  have wx := wrpU (n := x) x0 (by omega)
  have wy := wrpU (n := y) y0 (by omega)
  have w0 := wrpU (n := 0) (by omega) (by omega)
  have wxy := wrpU (n := x * y) hm.1 (by omega)
  simp only [ax, ay, fx, fy, wx, wy, wxy, fxy, Int.zero_mul, Int.mul_zero, w0, Int.add_zero, f0, a0]
theorem v81 (x y : Int) (h : preMul x y) : VC81 x y (fun r => r = math_bits_Mul x y) := by
  unfold VC81
  refine ⟨h, ?_⟩
  rintro _ rfl
  rfl

theorem v76 (l : List Int) (n : Int) (h : preRep l n) : VC76 l n (fun r => r = slices_Repeat_int_int l n) := by
  obtain ⟨hl, h0, h1⟩ := h
  obtain ⟨N, rfl⟩ := Int.eq_ofNat_of_zero_le h0
  match l, hl with
  | [v], _ =>
  unfold VC76
  intro _
  have e1 : IntKind.u64.wrap (([v].length : Nat) : Int) = 1 := wrpU (n := 1) (by omega) (by omega)
  have e2 : IntKind.u64.wrap (N : Int) = N := wrpU (by omega) (by omega)
  rw [e1, e2]
  refine ⟨fun h => ?_, fun _ => ⟨⟨by omega, by omega, by omega, by omega⟩, ?_⟩⟩
  · rw [decide_eq_true_eq] at h; omega
  rintro _ rfl
  unfold math_bits_Mul
  dsimp only
  rw [Int.one_mul]
  refine ⟨fun h => ?_, fun _ => ?_⟩
  · simp only [Bool.or_eq_true, decide_eq_true_eq] at h; omega
  rw [wrp (by omega) (by omega)]
  have e3 : ((N : Int)).toNat = N := rfl
  rw [e3]
  have key : ∀ t : Nat, t ≤ N → ∀ m, m = min t (N - t) → (List.replicate t v ++ List.replicate (N - t) (0 : Int)).take t ++ ((List.replicate t v ++ List.replicate (N - t) (0 : Int)).take t).take ((List.replicate t v ++ List.replicate (N - t) (0 : Int)).length - t) ++ (List.replicate t v ++ List.replicate (N - t) (0 : Int)).drop (t + m) = List.replicate (t + m) v ++ List.replicate (N - (t + m)) 0 := by
    intro t ht m hm
    have a1 : (List.replicate t v ++ List.replicate (N - t) (0 : Int)).length = N := by simp; omega
    have a2 : (List.replicate t v ++ List.replicate (N - t) (0 : Int)).take t = List.replicate t v := by
      rw [List.take_append_of_le_length (by simp)]; simp
    have a3 : (List.replicate t v ++ List.replicate (N - t) (0 : Int)).drop (t + m) = List.replicate (N - (t + m)) 0 := by
      rw [List.drop_append, List.drop_eq_nil_of_le (by simp), List.nil_append, List.length_replicate, List.drop_replicate]
      congr 1; omega
    rw [a2, a1, a3, List.take_replicate, List.replicate_append_replicate]
    congr 2; omega
  refine ⟨by omega, fun l k => ∃ t : Nat, k = t ∧ t ≤ N ∧ (N = 0 ∨ 0 < t) ∧ l = List.replicate t v ++ List.replicate (N - t) 0, fun _ k => (N - k).toNat, ?_, ?_⟩
  · refine ⟨min 1 N, by simp, by omega, by omega, ?_⟩
    rcases Nat.eq_zero_or_pos N with rfl | hN
    · simp
    · rw [Nat.min_eq_left hN]
      simp only [List.length_replicate, List.length_cons, List.length_nil, Nat.zero_add, Nat.sub_zero, List.take_zero, List.nil_append, Nat.min_eq_left hN, List.drop_replicate]
      rw [List.take_of_length_le (by simp; omega)]
      rfl
  rintro _ _ ⟨t, rfl, ht, hpos, rfl⟩
  have a1 : (List.replicate t v ++ List.replicate (N - t) (0 : Int)).length = N := by simp; omega
  have a2 : ((List.replicate t v ++ List.replicate (N - t) (0 : Int)).take t).length = t := by
    rw [List.take_append_of_le_length (by simp)]; simp
  have e4 : ((t : Int)).toNat = t := rfl
  refine ⟨fun hlt => ?_, fun hge => ?_⟩
  · rw [decide_eq_true_eq, a1] at hlt
    rw [e4, a1, a2]
    refine ⟨by omega, by omega, ?_⟩
    rw [wrp (by omega) (by omega)]
    refine ⟨⟨t + min t (N - t), by omega, by omega, by omega, ?_⟩, by dsimp only; omega⟩
    have := key t ht _ rfl
    rw [a1] at this
    exact this
  · rw [decide_eq_false_iff_not, a1] at hge
    have : t = N := by omega
    subst this
    unfold VC76_J1 slices_Repeat_int_int
    simp [gi]

theorem prow_succ (s : Numbering_Size) (a : Int) (t : Nat) : prow s a (t + 1) = prow s a t ++ [place_at s a (t : Int)] := by
  unfold prow; rw [List.range_succ, List.map_append]; rfl
theorem pcol_succ (s : Numbering_Size) (k : Int) (t : Nat) : pcol s k (t + 1) = pcol s k t ++ [place_at s (t : Int) k] := by
  unfold pcol; rw [List.range_succ, List.map_append]; rfl
theorem prow_len (s : Numbering_Size) (a : Int) (t : Nat) : (prow s a t).length = t := by simp [prow]
theorem pcol_len (s : Numbering_Size) (a : Int) (t : Nat) : (pcol s a t).length = t := by simp [pcol]

theorem v74 (k a : Int) : VC74 k a (fun r => r = places_Clauses_1 k a) := rfl
theorem v75 (k a : Int) : VC75 k a (fun r => r = places_Clauses_2 k a) := rfl
theorem v73_74 (s : Numbering_Size) (a : Int) (h : preRowP s a) : VC73_74 s a (fun r => r = places_row_places_Clauses_1 s a) := by
  obtain ⟨h0, h1⟩ := h
  unfold VC73_74
  obtain ⟨n, hn⟩ := Int.eq_ofNat_of_zero_le h0
  have hk : s.Ops.toNat = n := by omega
  simp only [hk, List.length_replicate, decide_eq_true_eq, decide_eq_false_iff_not]
  refine ⟨by omega, fun out x => ∃ t : Nat, x = t ∧ t ≤ n ∧ out = prow s a t ++ List.replicate (n - t) 0, fun _ x => (n - x).toNat, ⟨0, rfl, by omega, by simp [prow]⟩, ?_⟩
  rintro _ _ ⟨t, rfl, ht, rfl⟩
  refine ⟨fun hx => ?_, fun hx => ?_⟩
  · rintro _ rfl _ rfl
    have hx : t < n := by omega
    rw [wrp (by omega) (by omega)]
    have hl := prow_len s a t
    refine ⟨⟨by omega, by simp [hl]; omega⟩, ⟨t + 1, by simp, by omega, ?_⟩, by dsimp only; omega⟩
    rw [show n - t = (n - (t + 1)) + 1 by omega, List.replicate_succ, set_mid _ _ _ _ (by simp [hl]), prow_succ]
    simp [places_Clauses_1, place_at]
  · have : t = n := by omega
    subst this
    unfold VC73_74_J1 places_row_places_Clauses_1
    simp [hk]
theorem v73_75 (s : Numbering_Size) (a : Int) (h : preRowP s a) : VC73_75 s a (fun r => r = places_row_places_Clauses_2 s a) := by
  obtain ⟨h0, h1⟩ := h
  unfold VC73_75
  obtain ⟨n, hn⟩ := Int.eq_ofNat_of_zero_le h0
  have hk : s.Ops.toNat = n := by omega
  simp only [hk, List.length_replicate, decide_eq_true_eq, decide_eq_false_iff_not]
  refine ⟨by omega, fun out x => ∃ t : Nat, x = t ∧ t ≤ n ∧ out = pcol s a t ++ List.replicate (n - t) 0, fun _ x => (n - x).toNat, ⟨0, rfl, by omega, by simp [pcol]⟩, ?_⟩
  rintro _ _ ⟨t, rfl, ht, rfl⟩
  refine ⟨fun hx => ?_, fun hx => ?_⟩
  · rintro _ rfl _ rfl
    have hx : t < n := by omega
    rw [wrp (by omega) (by omega)]
    have hl := pcol_len s a t
    refine ⟨⟨by omega, by simp [hl]; omega⟩, ⟨t + 1, by simp, by omega, ?_⟩, by dsimp only; omega⟩
    rw [show n - t = (n - (t + 1)) + 1 by omega, List.replicate_succ, set_mid _ _ _ _ (by simp [hl]), pcol_succ]
    simp [places_Clauses_2, place_at]
  · have : t = n := by omega
    subst this
    unfold VC73_75_J1 places_row_places_Clauses_2
    simp [hk]

theorem most64 {l : List Int} (h : l.length ≤ 64) : (most l).length ≤ 4096 := by
  have h1 := most_len l
  have h2 : l.length * l.length ≤ 64 * 64 := Nat.mul_le_mul h h
  omega
theorem blkP_len {s : Numbering_Size} (h : s.Ops ≤ 64) (a : Nat) : (blkP s a).length ≤ 4097 := by
  have := most64 (l := prow s (a : Int) s.Ops.toNat) (by rw [prow_len]; omega)
  unfold blkP; rw [List.length_cons]; omega
theorem blkC_len {s : Numbering_Size} (h : s.Ops ≤ 64) (a : Nat) : (blkC s a).length ≤ 4096 :=
  most64 (l := pcol s (a : Int) s.Ops.toNat) (by rw [pcol_len]; omega)
theorem flats_len {f : Nat → List (List Int)} {m : Nat} (h : ∀ a, (f a).length ≤ m) : ∀ t, ((List.range t).flatMap f).length ≤ m * t
  | 0 => by simp
  | t + 1 => by
    have h1 := flats_len h t
    have h2 := h t
    rw [List.range_succ, List.flatMap_append, List.length_append, Nat.mul_add]
    simp only [List.flatMap_cons, List.flatMap_nil, List.append_nil]
    omega
theorem flats_succ (f : Nat → List (List Int)) (t : Nat) : (List.range (t + 1)).flatMap f = (List.range t).flatMap f ++ f t := by
  rw [List.range_succ, List.flatMap_append]; simp

theorem v47 (s : Numbering_Size) : VC47 s (fun r => r = places_Clauses s) := by
  unfold VC47
  rintro _ rfl
  simp only [bne_iff_ne, bne_eq_false_iff_eq]
  refine ⟨fun h => ?_, fun hc => ?_⟩
  · unfold places_Clauses; rw [if_neg h]
  · obtain ⟨c0, c1, c2, c3⟩ := check0 hc
    simp only [decide_eq_true_eq, decide_eq_false_iff_not]
    refine ⟨fun out x => ∃ t : Nat, x = t ∧ (t : Int) ≤ s.Ops ∧ out = (List.range t).flatMap (blkP s), fun _ x => (s.Ops - x).toNat, ⟨0, rfl, by omega, by simp⟩, ?_⟩
    rintro _ _ ⟨t, rfl, ht, rfl⟩
    have hl := flats_len (blkP_len (s := s) c1) t
    refine ⟨fun hx => ⟨⟨c0, c1⟩, ?_⟩, fun hx => ?_⟩
    · rintro _ rfl _
      unfold places_row_places_Clauses_1
      have hpl := prow_len s (t : Int) s.Ops.toNat
      have hm := most64 (l := prow s (t : Int) s.Ops.toNat) (by omega)
      refine ⟨by simp only [List.length_append, List.length_cons, List.length_nil]; omega, by unfold preMost; omega, ?_⟩
      rintro _ rfl _
      unfold places_Most
      rw [wrp (by omega) (by omega)]
      refine ⟨by simp only [List.length_append, List.length_cons, List.length_nil]; omega, ⟨t + 1, by simp, by omega, ?_⟩, by dsimp only; omega⟩
      rw [flats_succ]; simp [blkP]
    · have : t = s.Ops.toNat := by omega
      subst this
      unfold VC47_J1
      simp only [decide_eq_true_eq, decide_eq_false_iff_not]
      refine ⟨fun out x => ∃ t : Nat, x = t ∧ (t : Int) ≤ s.Ops ∧ out = (List.range s.Ops.toNat).flatMap (blkP s) ++ (List.range t).flatMap (blkC s), fun _ x => (s.Ops - x).toNat, ⟨0, rfl, by omega, by simp⟩, ?_⟩
      rintro _ _ ⟨t, rfl, ht, rfl⟩
      have hl2 := flats_len (blkC_len (s := s) c1) t
      refine ⟨fun hx => ⟨⟨c0, c1⟩, ?_⟩, fun hx => ?_⟩
      · rintro _ rfl _
        unfold places_row_places_Clauses_2
        have hpl := pcol_len s (t : Int) s.Ops.toNat
        have hm := most64 (l := pcol s (t : Int) s.Ops.toNat) (by omega)
        refine ⟨by unfold preMost; omega, ?_⟩
        rintro _ rfl _
        unfold places_Most
        rw [wrp (by omega) (by omega)]
        refine ⟨by simp only [List.length_append, List.length_cons, List.length_nil]; omega, ⟨t + 1, by simp, by omega, ?_⟩, by dsimp only; omega⟩
        rw [flats_succ]; simp [blkC]
      · have : t = s.Ops.toNat := by omega
        subst this
        unfold VC47_J2 places_Clauses
        rw [if_pos hc]

theorem v48 (o st : Int) : VC48 o st (fun r => r = ref32_Clauses o st) := by
  unfold VC48
  rintro _ rfl
  unfold ref32_Clauses
  simp only [bne_iff_ne, bne_eq_false_iff_eq]
  refine ⟨fun h => ?_, fun hc => ?_⟩
  · unfold places_Clauses; rw [if_neg (show ¬ numbering_Check ⟨o, st⟩ = 0 from h)]
  · obtain ⟨c0, c1, c2, c3⟩ := check0 hc
    have hc' : numbering_Check ⟨o, st⟩ = 0 := hc
    simp only [decide_eq_true_eq, decide_eq_false_iff_not]
    refine ⟨fun out x => ∃ t : Nat, x = t ∧ (t : Int) ≤ o ∧ out = (List.range t).flatMap (blkP ⟨o, st⟩), fun _ x => (o - x).toNat, ⟨0, rfl, by omega, by simp⟩, ?_⟩
    rintro _ _ ⟨t, rfl, ht, rfl⟩
    have hl := flats_len (blkP_len (s := ⟨o, st⟩) c1) t
    refine ⟨fun hx => ?_, fun hx => ?_⟩
    · refine ⟨fun out l b => ∃ u : Nat, b = u ∧ (u : Int) ≤ o ∧ l = prow ⟨o, st⟩ t u ∧ out = (List.range t).flatMap (blkP ⟨o, st⟩), fun _ _ b => (o - b).toNat, ⟨0, rfl, by omega, by simp [prow], rfl⟩, ?_⟩
      rintro _ _ _ ⟨u, rfl, hu, rfl, rfl⟩
      have hpl := prow_len ⟨o, st⟩ (t : Int) u
      refine ⟨fun hb => ?_, fun hb => ?_⟩
      · rintro _ rfl
        rw [at_place hc (by omega) (by omega) (by omega) (by omega), wrp (by omega) (by omega)]
        refine ⟨by simp only [List.length_append, List.length_cons, List.length_nil]; omega, ⟨u + 1, by simp, by omega, ?_, rfl⟩, by dsimp only; omega⟩
        rw [prow_succ]
      · have : u = o.toNat := by omega
        subst this
        have hm := most64 (l := prow ⟨o, st⟩ (t : Int) o.toNat) (by omega)
        unfold VC48_J4
        refine ⟨by simp only [List.length_append, List.length_cons, List.length_nil]; omega, by unfold preMost; omega, ?_⟩
        rintro _ rfl _
        unfold ref32_Most
        rw [wrp (by omega) (by omega)]
        refine ⟨by simp only [List.length_append, List.length_cons, List.length_nil]; omega, ⟨t + 1, by simp, by omega, ?_⟩, by dsimp only; omega⟩
        rw [flats_succ]; simp [blkP]
    · have : t = o.toNat := by omega
      subst this
      unfold VC48_J1
      simp only [decide_eq_true_eq, decide_eq_false_iff_not]
      refine ⟨fun out x => ∃ t : Nat, x = t ∧ (t : Int) ≤ o ∧ out = (List.range o.toNat).flatMap (blkP ⟨o, st⟩) ++ (List.range t).flatMap (blkC ⟨o, st⟩), fun _ x => (o - x).toNat, ⟨0, rfl, by omega, by simp⟩, ?_⟩
      rintro _ _ ⟨t, rfl, ht, rfl⟩
      have hl2 := flats_len (blkC_len (s := ⟨o, st⟩) c1) t
      refine ⟨fun hx => ?_, fun hx => ?_⟩
      · refine ⟨fun out l b => ∃ u : Nat, b = u ∧ (u : Int) ≤ o ∧ l = pcol ⟨o, st⟩ t u ∧ out = (List.range o.toNat).flatMap (blkP ⟨o, st⟩) ++ (List.range t).flatMap (blkC ⟨o, st⟩), fun _ _ b => (o - b).toNat, ⟨0, rfl, by omega, by simp [pcol], rfl⟩, ?_⟩
        rintro _ _ _ ⟨u, rfl, hu, rfl, rfl⟩
        have hpl := pcol_len ⟨o, st⟩ (t : Int) u
        refine ⟨fun hb => ?_, fun hb => ?_⟩
        · rintro _ rfl
          rw [at_place hc (by omega) (by omega) (by omega) (by omega), wrp (by omega) (by omega)]
          refine ⟨by simp only [List.length_append, List.length_cons, List.length_nil]; omega, ⟨u + 1, by simp, by omega, ?_, rfl⟩, by dsimp only; omega⟩
          rw [pcol_succ]
        · have : u = o.toNat := by omega
          subst this
          have hm := most64 (l := pcol ⟨o, st⟩ (t : Int) o.toNat) (by omega)
          unfold VC48_J3
          refine ⟨by unfold preMost; omega, ?_⟩
          rintro _ rfl _
          unfold ref32_Most
          rw [wrp (by omega) (by omega)]
          refine ⟨by simp only [List.length_append, List.length_cons, List.length_nil]; omega, ⟨t + 1, by simp, by omega, ?_⟩, by dsimp only; omega⟩
          rw [flats_succ]; simp [blkC]
      · have : t = o.toNat := by omega
        subst this
        unfold VC48_J2 places_Clauses
        rw [if_pos hc']
end Go.Proofs.Ytlpcjbjlgeaapaa
