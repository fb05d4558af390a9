/- The laws ObjtextReads and ObjtextLines: plain. -/
import Derived.Test.YtmedefjboagkmaaDoorOV13
set_option linter.all false
namespace Go.Proofs.YtmedefjboagkmaaDoor
open Go Go.Sv Go.Pu
theorem itoa_d (k : Nat) (h : k < 10) : Lib.itoa (k : Int) = [UInt8.ofNat (48 + k)] := by rw [Lib.itoa_nonneg, Lib.decDigits_one h]
theorem v7 : VC7 (fun r => r = law24_awake) := by
  have e1 : objtext_Parse [111, 98, 106, 101, 99, 116, 32, 49, 32, 49, 32, 48, 32, 49, 10, 114, 111, 119, 32, 48, 32, 48, 32, 48, 32, 55, 10] = (⟨1, 1, 0, [⟨0, 0, 0, 7⟩]⟩, 27, 0) := by decide +kernel
  have e2 : objtext_Parse [111, 98, 106, 101, 99, 116, 32, 49, 32, 49, 32, 48, 32, 49, 10, 114, 111, 119, 32, 49, 32, 48, 32, 48, 32, 55] = (⟨0, 0, 0, []⟩, 15, 30) := by decide +kernel
  have e3 : objtext_Parse [111, 98, 106, 101, 99, 116, 32, 49, 32, 49, 32, 48, 32, 49, 10, 114, 111, 119, 32, 48, 32, 48, 32, 48] = (⟨0, 0, 0, []⟩, 24, 4) := by decide +kernel
  have e4 : objtext_Numbers [⟨0, 0, [120]⟩, ⟨0, 2, [53]⟩] [120] [0] [9] 3 = ([5], 3, 0) := by decide +kernel
  have hl : len1 [111, 98, 106, 101, 99, 116, 32, 49, 32, 49, 32, 48, 32, 48, 10, 114, 101, 115, 116] := by unfold len1; decide
  have e5 : (objtext_Take (token_Lines [111, 98, 106, 101, 99, 116, 32, 49, 32, 49, 32, 48, 32, 48, 10, 114, 101, 115, 116]) 19).2.1.length = 1 ∧ (objtext_Take (token_Lines [111, 98, 106, 101, 99, 116, 32, 49, 32, 49, 32, 48, 32, 48, 10, 114, 101, 115, 116]) 19).2.2.2 = 0 := by decide +kernel
  have hc : (object_Check ⟨1, 1, 0, [⟨0, 0, 0, 7⟩]⟩).2 = 0 := by decide +kernel
  have e6 : objtext_Print ⟨1, 1, 0, [⟨0, 0, 0, 7⟩]⟩ = ([111, 98, 106, 101, 99, 116, 32, 49, 32, 49, 32, 48, 32, 49, 10, 114, 111, 119, 32, 48, 32, 48, 32, 48, 32, 55, 10], 0) := by
    unfold objtext_Print printOf
    rw [if_neg (by simpa using hc)]
    unfold textB headNums rowNums wordsB
    have i0 : Lib.itoa 0 = [48] := itoa_d 0 (by decide)
    have i1 : Lib.itoa 1 = [49] := itoa_d 1 (by decide)
    have i7 : Lib.itoa 7 = [55] := itoa_d 7 (by decide)
    have i1' : Lib.itoa (([⟨0, 0, 0, 7⟩] : List Api_Row).length : Int) = [49] := itoa_d 1 (by decide)
    simp only [List.map_cons, List.map_nil, i0, i1, i7, i1']
    decide
  unfold VC7
  simp only [forall_eq', e1, e2, e3, e4, e6]
  have hs : ref23_Same ⟨1, 1, 0, [⟨0, 0, 0, 7⟩]⟩ ⟨1, 1, 0, [⟨0, 0, 0, 7⟩]⟩ = true := by simp [ref23_Same]
  have h5 : ref01_SameInts [5] [5] = true := by decide
  rw [hs, h5, e5.2]
  refine fun _ => ⟨⟨by decide, inR_of (by decide) (by decide), inR_of (by decide) (by decide)⟩, fun _ _ => ⟨⟨⟨by decide, by simp [pairsT]⟩, by decide, by decide, fun x hx => ?_, fun x hx => ?_⟩, fun _ => ⟨hl, fun _ => ⟨lines_preTk _ hl _, fun _ _ => ⟨fun _ => ⟨fun _ => ?_, fun h => absurd h (by decide)⟩, fun h => absurd h (by decide)⟩⟩⟩⟩⟩
  · simp at hx; subst hx; exact inR_of (by decide) (by decide)
  · simp at hx; subst hx; exact inR_of (by decide) (by decide)
  · have : ((((objtext_Take (token_Lines [111, 98, 106, 101, 99, 116, 32, 49, 32, 49, 32, 48, 32, 48, 10, 114, 101, 115, 116]) 19).2.1.length : Nat) : Int) == 1) = true := by rw [e5.1]; rfl
    rw [this]; rfl
/-! Reads -/
theorem parse_ref (s : Bs) : ref24_Parse s = objtext_Parse s := by
  unfold ref24_Parse objtext_Parse
  have := said_link (token_Lines s)
  have h2 : ref05_Lines s = (token_Lines s).map fun r => r.map toRef := rfl
  rw [h2, this]
def saidR (l : List (List Token_Token)) : List (List Ref05_Token) := ref24_Said (l.map fun r => r.map toRef)
theorem saidR_cons (r : List Token_Token) (l : List (List Token_Token)) : saidR (r :: l) = if r.isEmpty then saidR l else r.map toRef :: saidR l := by
  unfold saidR ref24_Said
  rw [List.map_cons, List.filter_cons]
  cases r with
  | nil => rfl
  | cons t q => rfl
theorem saidR_next : ∀ l : List (List Token_Token), (saidR l = [] ∧ nextL l = ([], [])) ∨ saidR l = (nextL l).1.map toRef :: saidR (nextL l).2
  | [] => .inl ⟨rfl, rfl⟩
  | r :: l => by
    rw [saidR_cons, nextL_cons]
    by_cases h : r.isEmpty = true
    · rw [if_pos h, if_pos h]; exact saidR_next l
    · rw [if_neg h, if_neg h]; exact .inr rfl
theorem saidR_drop : ∀ (n : Nat) (l : List (List Token_Token)), saidR (dropSaid n l) = (saidR l).drop n
  | 0, l => rfl
  | n + 1, l => by
    show saidR (dropSaid n (nextL l).2) = _
    rw [saidR_drop n]
    rcases saidR_next l with ⟨h1, h⟩ | h1
    · rw [h, h1]; simp [saidR, ref24_Said]
    · rw [h1]; rfl
theorem take_rest {l : List (List Token_Token)} (e : Int) (hp : preOf l) : preOf (objtext_Take l e).2.1 := by
  unfold objtext_Take
  split
  · exact ⟨by simp, by simp⟩
  · obtain ⟨h1, h2⟩ := drop_mem (takeAll (linesP l) e).2.1.toNat l
    exact ⟨Nat.le_trans h2 hp.1, fun r hr => hp.2 r (h1 r hr)⟩
theorem v3 (s : Bs) (e : Int) (hv : s.length ≤ 140737488355328) (hv2 : inR .i64 e) : VC3 s e (fun r => r = true) := by
  unfold VC3
  refine ⟨fun _ => by rintro _ rfl; rfl, fun h => ?_⟩
  have h := of_decide_eq_false h
  have hl : len1 s := by unfold len1; omega
  rintro _ rfl
  intro _
  rintro _ rfl
  intro _
  rintro _ rfl
  rw [parse_ref]
  have hs1 : ref23_Same (objtext_Parse s).1 (objtext_Parse s).1 = true := by simp [ref23_Same]
  rw [hs1]
  refine ⟨fun h => absurd h (by simp), fun _ => ⟨hl, ?_⟩⟩
  rintro _ rfl
  intro _
  have hk := lines_preTk s hl e
  obtain ⟨po, _, _, _⟩ := lines_pre s hl
  refine ⟨hk, ?_⟩
  rintro _ rfl
  intro _ _
  refine ⟨hl, ?_⟩
  rintro _ rfl
  intro _
  have hr : ref05_Lines s = (token_Lines s).map fun r => r.map toRef := rfl
  refine ⟨by unfold preS; rw [hr, List.length_map]; exact hk.1, ?_⟩
  rintro _ rfl
  intro _
  have hS := said_pre hk
  rw [← hr] at hS
  refine ⟨hS, ?_⟩
  rintro _ rfl
  intro _
  rintro _ rfl
  have hLk : (ref24_Said (ref05_Lines s)).map pairsR = linesP (token_Lines s) := by rw [hr]; exact said_link _
  have hsd : ref24_Said (ref05_Lines s) = saidR (token_Lines s) := rfl
  have hlen : (ref24_Said (ref05_Lines s)).length = (linesP (token_Lines s)).length := by rw [← hLk, List.length_map]
  have hrest := take_rest e po
  unfold ref24_Take
  rw [hLk, hlen, hsd]
  generalize token_Lines s = l at *
  by_cases hT : (takeAll (linesP l) e).2.2.2 = 0
  · obtain ⟨t1, t2, t3, _⟩ := takeAll_ok hT
    have hTk : objtext_Take l e = ((takeAll (linesP l) e).1, dropSaid (takeAll (linesP l) e).2.1.toNat l, e, 0) := by
      unfold objtext_Take; rw [if_neg (by simpa using hT)]
    rw [hTk] at hrest ⊢
    have hs2 : ref23_Same (takeAll (linesP l) e).1 (takeAll (linesP l) e).1 = true := by simp [ref23_Same]
    simp only
    rw [hs2, t1, hT]
    refine ⟨fun h => absurd h (by simp), fun _ => ⟨fun h => absurd h (by simp), fun _ => ⟨⟨t2, t3⟩, hrest, ?_⟩⟩⟩
    rintro _ rfl
    intro _
    refine ⟨by unfold preS law05_Of; rw [List.length_map]; exact hrest.1, ?_⟩
    rintro _ rfl
    intro _
    rintro _ rfl
    have hd : ref24_Said (law05_Of (dropSaid (takeAll (linesP l) e).2.1.toNat l)) = (saidR l).drop (takeAll (linesP l) e).2.1.toNat := saidR_drop _ l
    rw [hd]
    have : ref05_Same ((saidR l).drop (takeAll (linesP l) e).2.1.toNat) ((saidR l).drop (takeAll (linesP l) e).2.1.toNat) = true := by simp [ref05_Same]
    rw [this]
    exact ⟨fun _ => by rintro _ rfl; rfl, fun h => absurd h (by simp)⟩
  · have hTk : objtext_Take l e = (obj0, [], (takeAll (linesP l) e).2.2.1, (takeAll (linesP l) e).2.2.2) := by
      unfold objtext_Take; rw [if_pos hT]
    rw [hTk]
    have hs2 : ref23_Same obj0 (takeAll (linesP l) e).1 = true := by rw [takeAll_err hT]; simp [ref23_Same]
    simp only
    rw [hs2]
    have hne : ((takeAll (linesP l) e).2.2.2 != 0) = true := by simpa using hT
    refine ⟨fun h => absurd h (by simp), fun _ => ⟨fun _ => ⟨fun _ => by rintro _ rfl; rfl, fun h => absurd h (by simp)⟩, fun h => by rw [hne] at h; cases h⟩⟩
theorem v4 {R : Prop} (s : Bs) (b : List Int × List Int) (o : Api_Object) (hv : s.length ≤ 140737488355328) (hb : (∀ x ∈ b.1, inR .i64 x) ∧ (∀ x ∈ b.2, inR .i64 x)) (ho0 : inR .i64 o.States ∧ inR .i64 o.Kinds ∧ inR .i64 o.Init ∧ R) : VC4 s b o (fun r => r = true) := by
  have ho : preCk o := ⟨ho0.1, ho0.2.1⟩
  unfold VC4
  intro _ _ _
  have aw : ∀ x : Bool, (x = false → s.length ≤ 1000 ∧ b.1.length ≤ 20 ∧ b.2.length ≤ 20 ∧ o.Rows.length ≤ 300) → VC4_J1 s b o (fun r => r = true) x := by
    intro x hx
    unfold VC4_J1 VC4_J2
    refine ⟨fun _ => by rintro _ rfl; rfl, fun h => ?_⟩
    obtain ⟨x1, x2, x3, x4⟩ := hx h
    have hl : len1 s := by unfold len1; omega
    have pp : prePr o := ⟨by omega, ho⟩
    refine ⟨pp, ?_⟩
    rintro _ rfl
    refine ⟨pp, ?_⟩
    rintro _ rfl
    have he : ref24_Print o = objtext_Print o := rfl
    rw [he]
    refine ⟨fun h => absurd h (by simp), fun _ => ⟨hl, ?_⟩⟩
    rintro _ rfl
    intro _
    refine ⟨hl, ?_⟩
    rintro _ rfl
    intro _
    have hk := lines_preTk s hl 0
    have hr : ref05_Lines s = (token_Lines s).map fun r => r.map toRef := rfl
    rw [hr, List.length_map]
    generalize token_Lines s = l at *
    refine ⟨fun h => absurd h (by simp), fun _ => ⟨fun i => 0 ≤ i ∧ i ≤ l.length, fun i => (l.length - i).toNat, ⟨by omega, by omega⟩, ?_⟩⟩
    rintro i ⟨h0, h1⟩
    have hkl := hk.1
    refine ⟨fun hi => ?_, fun hi => by rintro _ rfl; rfl⟩
    have hi := of_decide_eq_true hi
    have hg := hk.2 _ (mem_gi h0 hi)
    have pn : preN (pairsT (gi l i)) b.1 b.2 := ⟨hg, by omega, by omega, hb.1, hb.2⟩
    refine ⟨⟨h0, hi⟩, fun _ => ⟨pn, ?_⟩⟩
    rintro _ rfl
    have hgm : gi (l.map fun r => r.map toRef) i = (gi l i).map toRef := gi_map _ h0 hi
    have hp2 : pairsR ((gi l i).map toRef) = pairsT (gi l i) := pairs_ref _
    intro _
    refine ⟨⟨h0, hi⟩, ?_⟩
    rw [hgm]
    refine fun _ => ⟨by unfold preNR; rw [hp2]; exact pn, ?_⟩
    have hn : ref24_Numbers ((gi l i).map toRef) ([120] : Bs) b.1 b.2 s.length = objtext_Numbers (gi l i) ([120] : Bs) b.1 b.2 s.length := by
      unfold ref24_Numbers objtext_Numbers; rw [hp2]
    rintro _ rfl
    rw [hn]
    intro _
    rintro _ rfl
    have hsi : ref01_SameInts (objtext_Numbers (gi l i) ([120] : Bs) b.1 b.2 s.length).1 (objtext_Numbers (gi l i) ([120] : Bs) b.1 b.2 s.length).1 = true := by simp [ref01_SameInts]
    rw [hsi, wrp (n := i + 1) (by omega) (by omega)]
    exact ⟨fun h => absurd h (by simp), fun _ => ⟨⟨by omega, by omega⟩, by first | omega | (dsimp only; omega)⟩⟩
  refine ⟨fun _ => aw true (fun h => by cases h), fun h => ?_⟩
  rintro _ rfl
  refine aw _ (fun h2 => ?_)
  rw [Bool.or_eq_false_iff, Bool.or_eq_false_iff, decide_eq_false_iff_not, decide_eq_false_iff_not, decide_eq_false_iff_not] at h
  have h2 : law23_Few o = true := by simpa using h2
  unfold law23_Few at h2
  have h2 := of_decide_eq_true h2
  omega
end Go.Proofs.YtmedefjboagkmaaDoor
