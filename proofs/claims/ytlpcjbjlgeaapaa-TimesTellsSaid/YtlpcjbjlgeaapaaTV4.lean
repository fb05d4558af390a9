/- Plain lemmas about the specification functions. Conditions: in each lemma. -/
import Derived.Test.YtlpcjbjlgeaapaaTV3
set_option linter.all false
namespace Go.Proofs.Ytlpcjbjlgeaapaa
open Go Go.Sv Go.Pu

theorem pigeon : ∀ (n : Nat) (l : List Int), l.length < n → ∃ x : Int, 0 ≤ x ∧ x < n ∧ x ∉ l
  | 0, l, h => by omega
  | n + 1, l, h => by
    by_cases hm : (n : Int) ∈ l
    · have hl := List.length_erase_of_mem hm
      have hpos := List.length_pos_of_mem hm
      obtain ⟨x, x0, x1, hx⟩ := pigeon n (l.erase (n : Int)) (by omega)
      refine ⟨x, x0, by omega, fun hxm => hx ?_⟩
      exact (List.mem_erase_of_ne (by omega)).mpr hxm
    · exact ⟨n, by omega, by omega, hm⟩
theorem nodup_le : ∀ (n : Nat) (l : List Int), l.Nodup → (∀ x ∈ l, 0 ≤ x ∧ x < n) → l.length ≤ n
  | 0, [], _, _ => by simp
  | 0, x :: l, _, h => by have := h x (by simp); omega
  | n + 1, l, hd, h => by
    have h1 := nodup_le n (l.erase (n : Int)) (hd.erase _) (fun x hx => by
      rw [hd.mem_erase_iff] at hx
      have := h x hx.2
      have hne := hx.1
      omega)
    by_cases hm : (n : Int) ∈ l
    · have hl := List.length_erase_of_mem hm
      omega
    · rw [List.erase_of_not_mem hm] at h1
      omega
theorem nodup_full {n : Nat} {l : List Int} (hd : l.Nodup) (h : ∀ x ∈ l, 0 ≤ x ∧ x < n) (hl : l.length = n) {i : Int} (h0 : 0 ≤ i) (h1 : i < n) : i ∈ l := by
  apply Classical.byContradiction
  intro hi
  have := nodup_le n (i :: l) (List.nodup_cons.mpr ⟨hi, hd⟩) (fun x hx => by
    rcases List.mem_cons.mp hx with rfl | hx
    · exact ⟨h0, h1⟩
    · exact h x hx)
  rw [List.length_cons] at this
  omega
theorem two_le {α : Type} {l : List α} {p q : α} (hp : p ∈ l) (hq : q ∈ l) (hne : p ≠ q) : 2 ≤ l.length := by
  match l, hp, hq with
  | [x], hp, hq =>
    rw [List.mem_singleton] at hp hq
    exact absurd (hp.trans hq.symm) hne
  | x :: y :: r, _, _ => simp

theorem idx_neg {l : List Int} {v : Int} (h : v ∉ l) : idx l v = -1 := by
  unfold idx
  cases hf : l.findIdx? (fun x => x == v) with
  | none => rfl
  | some i =>
    exfalso
    rw [List.findIdx?_eq_some_iff_getElem] at hf
    obtain ⟨hi, he, _⟩ := hf
    have he : l[i] = v := by simpa using he
    exact h (he ▸ List.getElem_mem _)
theorem gi_app_l {α : Type} [Inhabited α] {l r : List α} {j : Int} (h0 : 0 ≤ j) (h : j < l.length) : gi (l ++ r) j = gi l j := by
  rw [gi_cast h0 h, gi_cast h0 (by rw [List.length_append]; omega), List.getElem_append_left]
theorem gi_app_len {α : Type} [Inhabited α] {l : List α} {x : α} : gi (l ++ [x]) (l.length : Int) = x := by
  rw [gi_nat _ _ (by simp)]; simp
theorem idx_app_l {l : List Int} {v x : Int} (h : v ∈ l) : idx (l ++ [x]) v = idx l v := by
  have h0 := idx_mem.mpr h
  obtain ⟨h1, h2⟩ := idx_spec h0
  refine idx_at h0 (by rw [List.length_append]; omega) (by rw [gi_app_l h0 h1, h2]) (fun j j0 j1 => ?_)
  rw [gi_app_l j0 (by omega)]
  intro he
  unfold idx at j1
  cases hf : l.findIdx? (fun x => x == v) with
  | none => rw [hf] at j1; simp at j1; omega
  | some i =>
    rw [hf] at j1
    rw [List.findIdx?_eq_some_iff_getElem] at hf
    obtain ⟨hi, _, hlt⟩ := hf
    dsimp only at j1
    have := hlt j.toNat (by omega)
    rw [gi_cast j0 (by omega)] at he
    simp [he] at this
theorem idx_app_x {l : List Int} {x : Int} (h : x ∉ l) : idx (l ++ [x]) x = l.length := by
  refine idx_at (by omega) (by simp; omega) gi_app_len (fun j j0 j1 => ?_)
  rw [gi_app_l j0 (by omega)]
  intro he
  apply h
  rw [← he, gi_cast j0 (by omega)]
  exact List.getElem_mem _

/-- What a sorted beginning keeps to. -/
def Sorted (n : Int) (pairs : List (Int × Int)) (out : List Int) : Prop :=
  out.Nodup ∧ (∀ x ∈ out, 0 ≤ x ∧ x < n) ∧ ∀ p ∈ pairs, times_proper p n = true → badPair out p = false ∧ (p.2 ∈ out → p.1 ∈ out)

theorem next_some {n : Int} {pairs : List (Int × Int)} {out : List Int} {t : Nat} (h : nextOf n pairs out = some t) : (t : Int) < n ∧ times_Sort_1 t n out pairs = false := by
  unfold nextOf at h
  rw [List.find?_range_eq_some] at h
  obtain ⟨h1, h2, _⟩ := h
  rw [List.mem_range] at h2
  exact ⟨by omega, by simpa using h1⟩
theorem sorted_step {n : Int} {pairs : List (Int × Int)} {out : List Int} {t : Nat} (h : Sorted n pairs out) (hn : nextOf n pairs out = some t) : Sorted n pairs (out ++ [(t : Int)]) := by
  obtain ⟨hd, hin, hp⟩ := h
  obtain ⟨ht, hw⟩ := next_some hn
  unfold times_Sort_1 at hw
  rw [Bool.or_eq_false_iff, decide_eq_false_iff_not, List.any_eq_false] at hw
  obtain ⟨hnot, hblk⟩ := hw
  refine ⟨?_, ?_, ?_⟩
  · rw [List.nodup_append]
    refine ⟨hd, by simp, fun a ha b hb he => ?_⟩
    rw [List.mem_singleton] at hb
    rw [he, hb] at ha
    exact hnot ha
  · intro x hx
    rw [List.mem_append, List.mem_singleton] at hx
    rcases hx with hx | hx
    · exact hin x hx
    · omega
  · intro p hpm hpr
    obtain ⟨hb, hi⟩ := hp p hpm hpr
    have hblk := hblk p hpm
    by_cases h2 : p.2 ∈ out
    · have h1 := hi h2
      refine ⟨?_, fun _ => List.mem_append_left _ h1⟩
      unfold badPair at hb ⊢
      rw [idx_app_l h1, idx_app_l h2]
      exact hb
    · by_cases h3 : p.2 = (t : Int)
      · have h1 : p.1 ∈ out := by
          apply Classical.byContradiction
          intro h1
          apply hblk
          unfold times_Sort_1_1
          rw [hpr, h3]
          simp [h1]
        refine ⟨?_, fun _ => List.mem_append_left _ h1⟩
        unfold badPair
        rw [idx_app_l h1, h3, idx_app_x hnot, decide_eq_false_iff_not]
        have := (idx_spec (idx_mem.mpr h1)).1
        omega
      · have h4 : p.2 ∉ out ++ [(t : Int)] := by
          rw [List.mem_append, List.mem_singleton]; exact fun h => h.elim h2 h3
        refine ⟨?_, fun h => absurd h h4⟩
        unfold badPair
        rw [idx_neg h4, decide_eq_false_iff_not]
        omega
theorem sortGo_ok {n : Int} {pairs : List (Int × Int)} : ∀ (k : Nat) (out : List Int), Sorted n pairs out → (sortGo n pairs k out).2 = true → Sorted n pairs (sortGo n pairs k out).1 ∧ (sortGo n pairs k out).1.length = out.length + k
  | 0, out, h, _ => ⟨h, rfl⟩
  | k + 1, out, h, hk => by
    rw [sortGo] at hk ⊢
    cases hn : nextOf n pairs out with
    | none => rw [hn] at hk; cases hk
    | some t =>
      rw [hn] at hk
      obtain ⟨h1, h2⟩ := sortGo_ok k (out ++ [(t : Int)]) (sorted_step h hn) hk
      refine ⟨h1, ?_⟩
      dsimp only
      rw [h2, List.length_append]
      simp only [List.length_cons, List.length_nil]
      omega
theorem sortGo_no {n : Int} {pairs : List (Int × Int)} : ∀ (k : Nat) (out : List Int), ((out.length + k : Nat) : Int) ≤ n → (sortGo n pairs k out).2 = false → ∃ o : List Int, (o.length : Int) < n ∧ nextOf n pairs o = none
  | 0, out, _, h => by cases h
  | k + 1, out, hl, hk => by
    rw [sortGo] at hk
    cases hn : nextOf n pairs out with
    | none => exact ⟨out, by omega, hn⟩
    | some t =>
      rw [hn] at hk
      exact sortGo_no k _ (by rw [List.length_append]; simp only [List.length_cons, List.length_nil]; omega) hk
theorem stuck_two {n : Int} {pairs : List (Int × Int)} {o : List Int} (hl : (o.length : Int) < n) (h : nextOf n pairs o = none) : 2 ≤ (pairs.filter (fun p => times_proper p n)).length := by
  unfold nextOf at h
  rw [List.find?_range_eq_none] at h
  have wait : ∀ x : Int, 0 ≤ x → x < n → x ∉ o → ∃ p ∈ pairs, times_proper p n = true ∧ p.2 = x ∧ p.1 ∉ o := by
    intro x x0 x1 hx
    have := h x.toNat (by omega)
    rw [show ((x.toNat : Nat) : Int) = x by omega] at this
    unfold times_Sort_1 at this
    simp only [hx, decide_false, Bool.false_or, Bool.not_not, List.any_eq_true] at this
    obtain ⟨p, hp, hb⟩ := this
    unfold times_Sort_1_1 at hb
    rw [Bool.and_eq_true, Bool.and_eq_true, beq_iff_eq] at hb
    exact ⟨p, hp, hb.1.1, hb.1.2, by simpa using hb.2⟩
  obtain ⟨x, x0, x1, hx⟩ := pigeon n.toNat o (by omega)
  obtain ⟨p, hp, hpr, rfl, h1⟩ := wait x x0 (by omega) hx
  have hpr' := hpr
  unfold times_proper at hpr'
  rw [decide_eq_true_eq] at hpr'
  obtain ⟨q, hq, hqr, he, h2⟩ := wait p.1 hpr'.1 hpr'.2.2.1 h1
  refine two_le (p := p) (q := q) (List.mem_filter.mpr ⟨hp, hpr⟩) (List.mem_filter.mpr ⟨hq, hqr⟩) ?_
  intro e
  rw [← e] at he
  exact hpr'.2.2.2.2 he.symm
theorem not_bad {n : Int} {l : List Int} {p : Int × Int} (hin : ∀ x ∈ l, 0 ≤ x ∧ x < n) (h : ¬ times_proper p n = true) : badPair l p = false := by
  unfold badPair
  rw [decide_eq_false_iff_not]
  rintro ⟨h1, h2, h3⟩
  apply h
  unfold times_proper
  rw [decide_eq_true_eq]
  have a := hin _ (idx_mem.mp h1)
  have b := hin _ (idx_mem.mp h2)
  refine ⟨a.1, b.1, a.2, b.2, fun e => ?_⟩
  rw [e] at h3
  omega
theorem pairCl_two (s : Numbering_Size) (p : Int × Int) : ∀ n : Nat, 2 * ((pairCl s p n).length : Int) = n * (n - 1)
  | 0 => by simp [pairCl]
  | n + 1 => by
    have := pairCl_two s p n
    rw [pairCl_succ, List.length_append, List.length_map, List.length_range]
    have e : ((n + 1 : Nat) : Int) * (((n + 1 : Nat) : Int) - 1) = n * (n - 1) + 2 * n := by
      simp only [Int.natCast_add, Int.natCast_one]
      rw [show (n : Int) + 1 - 1 = n by omega, Int.add_mul, Int.mul_sub]
      omega
    rw [e, ← this]
    omega
theorem alls_two {s : Numbering_Size} (h : 0 ≤ s.Ops) : ∀ l : List (Int × Int), 2 * ((l.flatMap (pairAll s)).length : Int) = (l.filter (fun p => times_proper p s.Ops)).length * (s.Ops * (s.Ops - 1))
  | [] => by simp
  | p :: l => by
    have h1 := alls_two h l
    have h2 := pairCl_two s p s.Ops.toNat
    rw [show ((s.Ops.toNat : Nat) : Int) = s.Ops by omega] at h2
    rw [List.flatMap_cons, List.length_append, List.filter_cons]
    unfold pairAll
    by_cases hp : times_proper p s.Ops = true
    · rw [if_pos hp, if_pos hp, List.length_cons, Int.natCast_add, Int.natCast_add, Int.mul_add, h2, Int.add_mul]
      unfold pairAll at h1
      rw [h1]
      simp only [Int.natCast_one, Int.one_mul]
      omega
    · rw [if_neg hp, if_neg hp]
      unfold pairAll at h1
      rw [← h1]
      simp

theorem v10 (P : Numbering_Size) (O : List (Int × Int)) : VC10 P O (fun r => r = true) := by
  unfold VC10
  have key : ∀ b, (b = false → numbering_Check P = 0 ∧ O.length ≤ 40 ∧ P.Ops ≤ 10) → VC10_J1 P O (fun r => r = true) b := by
    intro b hb
    unfold VC10_J1
    refine ⟨fun _ r hr => by subst hr; rfl, fun hbf => ?_⟩
    obtain ⟨hc, hl, hops⟩ := hb hbf
    obtain ⟨k0, k1, k2, k3⟩ := check0 hc
    refine ⟨fun t o => ∃ u : Nat, o = u ∧ u ≤ O.length ∧ t = ((O.take u).filter (fun p => times_proper p P.Ops)).length, fun _ o => (O.length - o).toNat, ⟨0, rfl, by omega, by simp⟩, ?_⟩
    rintro _ _ ⟨u, rfl, hu, rfl⟩
    refine ⟨fun hx => ?_, fun hx => ?_⟩
    · rw [decide_eq_true_eq] at hx
      have hx' : u < O.length := by omega
      have e : ((((((gi O u).1 != (gi O u).2) && decide ((gi O u).1 ≥ 0)) && decide ((gi O u).2 ≥ 0)) && decide ((gi O u).1 < P.Ops)) && decide ((gi O u).2 < P.Ops)) = times_proper (gi O u) P.Ops := by
        unfold times_proper
        rw [Bool.eq_iff_iff]
        simp only [Bool.and_eq_true, decide_eq_true_eq, bne_iff_ne]
        constructor
        · rintro ⟨⟨⟨⟨a, b⟩, c⟩, d⟩, f⟩; exact ⟨by omega, by omega, d, f, a⟩
        · rintro ⟨a, b, c, d, f⟩; exact ⟨⟨⟨⟨f, by omega⟩, by omega⟩, c⟩, d⟩
      have hlen : ((O.take u).filter (fun p => times_proper p P.Ops)).length ≤ u := by
        refine Nat.le_trans (List.length_filter_le _ _) ?_
        rw [List.length_take]; omega
      have es : (O.take (u + 1)).filter (fun p => times_proper p P.Ops) = (O.take u).filter (fun p => times_proper p P.Ops) ++ (if times_proper (gi O u) P.Ops = true then [gi O u] else []) := by
        rw [List.take_succ_eq_append_getElem hx', List.filter_append, gi_nat _ _ hx', List.filter_cons]
        rfl
      refine ⟨⟨by omega, hx⟩, fun h => ?_, fun h => ?_⟩
      · rw [e] at h
        unfold VC10_J4
        rw [wrp (n := (u : Int) + 1) (by omega) (by omega), wrp (by omega) (by omega)]
        refine ⟨⟨u + 1, by simp, by omega, ?_⟩, by dsimp only; omega⟩
        rw [es, if_pos h, List.length_append]; simp
      · rw [e] at h
        unfold VC10_J4
        rw [wrp (n := (u : Int) + 1) (by omega) (by omega)]
        refine ⟨⟨u + 1, by simp, by omega, ?_⟩, by dsimp only; omega⟩
        rw [es, if_neg (by rw [h]; decide), List.append_nil]
    · rw [decide_eq_false_iff_not] at hx
      have : u = O.length := by omega
      subst this
      rw [List.take_length]
      unfold VC10_J2
      have hp : O.length ≤ 1000 := by omega
      refine ⟨hp, ?_⟩
      rintro _ rfl _
      have hlen : (O.filter (fun p => times_proper p P.Ops)).length ≤ O.length := List.length_filter_le _ _
      have htwo := alls_two k0 O
      have hle := alls_le (s := P) k1 O
      have hcl : times_Clauses P O = O.flatMap (pairAll P) := by unfold times_Clauses; rw [if_pos hc]
      have hmb := mulb (a := ((O.filter (fun p => times_proper p P.Ops)).length : Int)) (b := P.Ops) (A := 40) (B := 64) (by omega) (by omega) (by omega) (by omega)
      have e : (((times_Clauses P O).length : Int) != IntKind.i64.wrap ((IntKind.i64.wrap (IntKind.i64.wrap (((O.filter (fun p => times_proper p P.Ops)).length : Int) * P.Ops) * IntKind.i64.wrap (P.Ops - 1))).tdiv 2)) = false := by
        rw [wrp (n := _ * P.Ops) (by omega) (by omega), wrp (n := P.Ops - 1) (by omega) (by omega), Int.mul_assoc, ← htwo, wrp (n := 2 * _) (by omega) (by omega), Int.mul_tdiv_cancel_left _ (by decide), wrp (by omega) (by omega), hcl]
        simp
      rw [e]
      refine ⟨(fun h => by cases h), fun _ => ?_⟩
      rintro _ rfl _
      have et : times_Sort P.Ops O = sortGo P.Ops O P.Ops.toNat [] := by unfold times_Sort; rw [if_neg (by omega)]
      rw [et]
      refine ⟨fun hf => ?_, fun ht => ?_⟩
      · have hf : (sortGo P.Ops O P.Ops.toNat []).2 = false := by simpa using hf
        obtain ⟨o, ho, hn⟩ := sortGo_no _ _ (by simp; omega) hf
        have := stuck_two ho hn
        refine ⟨fun _ r hr => by subst hr; rfl, fun h => ?_⟩
        rw [decide_eq_false_iff_not] at h
        omega
      · have ht : (sortGo P.Ops O P.Ops.toNat []).2 = true := by simpa using ht
        obtain ⟨⟨hd, hin, hpp⟩, hlen2⟩ := sortGo_ok _ [] ⟨by simp, by simp, fun p hp hpr => ⟨by unfold badPair; simp [idx], fun h => by simp at h⟩⟩ ht
        rintro _ rfl
        have hag : times_Against (sortGo P.Ops O P.Ops.toNat []).1 O = ((O.length : Int), true) := by
          unfold times_Against
          have : O.findIdx? (badPair (sortGo P.Ops O P.Ops.toNat []).1) = none := by
            rw [List.findIdx?_eq_none_iff]
            intro p hp
            by_cases hpr : times_proper p P.Ops = true
            · exact (hpp p hp hpr).1
            · exact not_bad hin hpr
          rw [this]
        rw [hag]
        refine ⟨fun h => ?_, fun _ => ?_⟩
        · simp only [Bool.not_true, Bool.false_or, bne_iff_ne] at h
          rw [hlen2] at h
          exfalso; apply h; simp; omega
        · refine ⟨fun x => 0 ≤ x ∧ x ≤ P.Ops, fun x => (P.Ops - x).toNat, ⟨by omega, by omega⟩, ?_⟩
          rintro x ⟨x0, x1⟩
          refine ⟨fun hx => ?_, fun hx => ?_⟩
          · rw [decide_eq_true_eq] at hx
            rintro _ rfl
            have hmem := nodup_full (n := P.Ops.toNat) hd (fun y hy => by have := hin y hy; omega) (by rw [hlen2]; simp) (i := x) x0 (by omega)
            have := idx_mem.mpr hmem
            unfold ref33_Place
            refine ⟨fun h => ?_, fun _ => ?_⟩
            · rw [decide_eq_true_eq] at h; omega
            · rw [wrp (by omega) (by omega)]
              exact ⟨⟨by omega, by omega⟩, by dsimp only; omega⟩
          · unfold VC10_J3
            rintro _ rfl; rfl
  intro _
  refine ⟨fun _ => key _ (fun h => by cases h), fun h r hr => ?_⟩
  subst hr
  refine key _ fun hb => ?_
  simp only [Bool.or_eq_false_iff, decide_eq_false_iff_not, bne_eq_false_iff_eq] at hb h
  omega
end Go.Proofs.Ytlpcjbjlgeaapaa
