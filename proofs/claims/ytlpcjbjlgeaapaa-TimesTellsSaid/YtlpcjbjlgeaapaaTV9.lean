/- Plain lemmas about the specification functions. Conditions: in each lemma. -/
import Derived.Test.YtlpcjbjlgeaapaaTV4
set_option linter.all false
namespace Go.Proofs.Ytlpcjbjlgeaapaa
open Go Go.Sv Go.Pu

theorem bits_len {s : Numbering_Size} (h : 0 ≤ numbering_Vars s) (order : List Int) (t : Nat) : ((placeBits s order t).length : Int) = numbering_Vars s := by
  unfold placeBits; simp; omega
theorem bits_gi {s : Numbering_Size} {order : List Int} (hc : numbering_Check s = 0) (hl : (order.length : Int) = s.Ops) {x k : Int} (hx0 : 0 ≤ x) (hx1 : x < s.Ops) (hk0 : 0 ≤ k) (hk1 : k < s.Ops) :
    gi (placeBits s order order.length) (place_at s x k - 1) = (gi order k == x) := by
  obtain ⟨e, e1, e2, e3, e4⟩ := place_eq hc hx0 hx1 hk0 hk1
  obtain ⟨c0, c1, c2, c3⟩ := check0 hc
  obtain ⟨n, hn⟩ := Int.eq_ofNat_of_zero_le c0
  obtain ⟨a, ha⟩ := Int.eq_ofNat_of_zero_le hx0
  obtain ⟨t, ht⟩ := Int.eq_ofNat_of_zero_le hk0
  have hnn : s.Ops.toNat = n := by omega
  have epos : place_at s x k - 1 = ((a * n + t : Nat) : Int) := by
    rw [e, hn, ha, ht]
    have : ((a * n : Nat) : Int) = (a : Int) * n := Int.natCast_mul a n
    omega
  have hm : a * n + t < n * n := by
    have : (a + 1) * n ≤ n * n := Nat.mul_le_mul_right n (by omega)
    rw [Nat.add_mul, Nat.one_mul] at this
    omega
  have hlen := bits_len (s := s) (by omega) order order.length
  have hnn2 : ((n * n : Nat) : Int) = s.Ops * s.Ops := by rw [Int.natCast_mul, hn]
  rw [epos, gi_nat _ _ (by omega)]
  obtain ⟨d1, d2⟩ := divmod (a := a) (k := t) (n := n) (by omega)
  simp only [placeBits, List.getElem_map, List.getElem_range]
  unfold bitOf
  rw [hnn, d1, d2, ht, ha]
  have : decide (a * n + t < n * n ∧ t < order.length) = true := by rw [decide_eq_true_eq]; omega
  rw [this, Bool.true_and]
theorem idx_nodup {l : List Int} (hd : l.Nodup) {i v : Int} (h0 : 0 ≤ i) (h1 : i < l.length) (h : gi l i = v) : idx l v = i := by
  refine idx_at h0 h1 h (fun j j0 j1 he => ?_)
  rw [← h, gi_cast j0 (by omega), gi_cast h0 h1] at he
  have := (List.getElem_inj hd).mp he
  omega

theorem pairRow_holds {s : Numbering_Size} {order : List Int} (hg : goodOrder s order) {p : Int × Int} (hp : times_proper p s.Ops = true) {a b : Nat} (ha : (a : Int) < s.Ops) (hb : (b : Int) < s.Ops) :
    ref02_Holds (pairRow s p a b) (placeBits s order order.length) = !((gi order a == p.1) && (gi order b == p.2)) := by
  obtain ⟨hc, hl, hin, hd⟩ := hg
  unfold times_proper at hp
  rw [decide_eq_true_eq] at hp
  obtain ⟨e, e1, e2, e3, e4⟩ := place_eq hc hp.1 hp.2.2.1 (k := (a : Int)) (by omega) ha
  obtain ⟨f, f1, f2, f3, f4⟩ := place_eq hc hp.2.1 hp.2.2.2.1 (k := (b : Int)) (by omega) hb
  have hlen := bits_len (s := s) (by omega) order order.length
  unfold ref02_Holds pairRow
  rw [List.any_cons, List.any_cons, List.any_nil, lit_neg e1 (by omega) (by omega), lit_neg f1 (by omega) (by omega), bits_gi hc hl hp.1 hp.2.2.1 (by omega) ha, bits_gi hc hl hp.2.1 hp.2.2.2.1 (by omega) hb, Bool.or_false, Bool.not_and]

theorem pair_holds {s : Numbering_Size} {order : List Int} (hg : goodOrder s order) (p : Int × Int) : (pairAll s p).all (fun c => ref02_Holds c (placeBits s order order.length)) = !badPair order p := by
  have hg' := hg
  obtain ⟨hc, hl, hin, hd⟩ := hg
  by_cases hp : times_proper p s.Ops = true
  · unfold pairAll
    rw [if_pos hp, Bool.eq_iff_iff, List.all_eq_true, Bool.not_eq_true']
    constructor
    · intro h
      unfold badPair
      rw [decide_eq_false_iff_not]
      rintro ⟨h1, h2, h3⟩
      obtain ⟨i1, i2⟩ := idx_spec h1
      obtain ⟨j1, j2⟩ := idx_spec h2
      have hm : pairRow s p (idx order p.1).toNat (idx order p.2).toNat ∈ pairCl s p s.Ops.toNat := by
        unfold pairCl
        rw [List.mem_flatMap]
        refine ⟨(idx order p.1).toNat, by rw [List.mem_range]; omega, ?_⟩
        rw [List.mem_map]
        exact ⟨(idx order p.2).toNat, by rw [List.mem_range]; omega, rfl⟩
      have := h _ hm
      rw [pairRow_holds hg' hp (by omega) (by omega), show (((idx order p.1).toNat : Nat) : Int) = idx order p.1 by omega, show (((idx order p.2).toNat : Nat) : Int) = idx order p.2 by omega, i2, j2] at this
      simp at this
    · intro h c hc2
      unfold pairCl at hc2
      rw [List.mem_flatMap] at hc2
      obtain ⟨a, ha, hc2⟩ := hc2
      rw [List.mem_range] at ha
      rw [List.mem_map] at hc2
      obtain ⟨b, hb, rfl⟩ := hc2
      rw [List.mem_range] at hb
      rw [pairRow_holds hg' hp (by omega) (by omega), Bool.not_eq_true', Bool.and_eq_false_iff]
      apply Classical.byContradiction
      intro hn
      rw [not_or] at hn
      obtain ⟨n1, n2⟩ := hn
      have n1 : gi order a = p.1 := by simpa using n1
      have n2 : gi order b = p.2 := by simpa using n2
      have q1 := idx_nodup hd (by omega) (by omega) n1
      have q2 := idx_nodup hd (by omega) (by omega) n2
      unfold badPair at h
      rw [decide_eq_false_iff_not, q1, q2] at h
      omega
  · rw [not_bad hin hp]
    unfold pairAll
    rw [if_neg hp]; rfl

theorem v11 (s : Numbering_Size) (pairs : List (Int × Int)) (order : List Int) : VC11 s pairs order (fun r => r = true) := by
  unfold VC11
  have key : ∀ b, (b = false → numbering_Check s = 0 ∧ pairs.length ≤ 40) → VC11_J1 s pairs order (fun r => r = true) b := by
    intro b hb
    unfold VC11_J1
    refine ⟨fun _ r hr => by subst hr; rfl, fun hbf => ?_⟩
    obtain ⟨hc, hl⟩ := hb hbf
    rintro _ rfl _
    refine ⟨fun _ r hr => by subst hr; rfl, fun ht => ?_⟩
    have hg : goodOrder s order := by
      apply Classical.byContradiction
      intro hn
      unfold places_Truths at ht
      rw [if_neg hn] at ht
      cases ht
    have e : places_Truths s order = (placeBits s order order.length, true) := by unfold places_Truths; rw [if_pos hg]
    rw [e]
    rintro _ rfl
    have hp : pairs.length ≤ 1000 := by omega
    refine ⟨hp, ?_⟩
    rintro _ rfl _ _ rfl
    have hcl : times_Clauses s pairs = pairs.flatMap (pairAll s) := by unfold times_Clauses; rw [if_pos hc]
    have hall : ref04_First ⟨0, times_Clauses s pairs⟩ (placeBits s order order.length) < 0 ↔ ∀ p ∈ pairs, badPair order p = false := by
      rw [first_iff, hcl, List.all_flatMap, List.all_eq_true]
      refine forall_congr' fun p => imp_congr_right fun _ => ?_
      rw [pair_holds hg, Bool.not_eq_true']
    have hag : (times_Against order pairs).2 = true ↔ ∀ p ∈ pairs, badPair order p = false := by
      unfold times_Against
      rw [← List.findIdx?_eq_none_iff]
      cases pairs.findIdx? (badPair order) <;> simp
    have : ((times_Against order pairs).2 == decide (ref04_First ⟨0, times_Clauses s pairs⟩ (placeBits s order order.length) < 0)) = true := by
      rw [beq_iff_eq, Bool.eq_iff_iff, hag, decide_eq_true_eq, hall]
    dsimp only
    rw [this]
    exact ⟨fun _ r hr => by subst hr; rfl, (fun h => by cases h)⟩
  intro _ _
  refine ⟨fun _ => key _ (fun h => by cases h), fun h r hr => ?_⟩
  subst hr
  refine key _ fun hb => ?_
  simp only [Bool.or_eq_false_iff, decide_eq_false_iff_not, bne_eq_false_iff_eq] at hb
  omega
end Go.Proofs.Ytlpcjbjlgeaapaa
