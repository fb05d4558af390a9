/- A row of the statements opened. No condition. -/
import Derived.Test.YtlpcjbjlgeaapaaSv
import Derived.WalkKit
import Derived.ProofKit
import Derived.OpenShut
import Derived.ShutString
import Derived.ChangeOld
import Derived.Below
import Derived.SizedLaws
import Derived.DataShut
set_option linter.all false
namespace Go.Op
open Go Go.Sv Go.ChangeShapes Go.WideShapes Go.ChangeAt Go.RowKit

def z0 : Nat → Nat := fun _ => 0

/-- Whatever reads at type t is something of T; V is what its leaves keep to. -/
def Opens (P : Program) {α : Type} (T : TRep α) (V : α → Prop) (t : TypeId) : Prop :=
  ∀ {H : Type} (enc : TypeId × Value → H) (w : World) (base : Nat) (spare : Nat → Bool) (held : Bool) (fuel : Nat) (cs : List Value) (d : DataW H) (ps : List MemPlace),
    DataW.trod enc P w base spare held fuel t cs = some (d, ps) → (d.weights P t).all (· ≤ reachBytes) = true → ∃ y, T.R w z0 cs y ∧ V y

variable {P : Program} {t e : TypeId}

theorem o_int {k : IntKind} {bytes : Nat} (ht : P.underlying t = some (.int k)) : Opens P (tInt k bytes) (inR k) t := by
  intro H enc w base spare held fuel cs d ps h _
  obtain ⟨n, rfl, _, hw⟩ := DataW.trod_int ht h
  exact ⟨n, rfl, (_root_.Go.Lit.wf_int_iff k n).1 hw⟩

theorem o_bool (ht : P.underlying t = some .bool) : Opens P tBool (fun _ => True) t := by
  intro H enc w base spare held fuel cs d ps h _
  obtain ⟨b, rfl, _⟩ := DataW.trod_bool ht h
  exact ⟨b, rfl, trivial⟩

theorem o_str (ht : P.underlying t = some .string) : Opens P tStr (fun s => s.length ≤ 140737488355328) t := by
  intro H enc w base spare held fuel cs d ps h hw
  obtain ⟨s, rfl, hd, _⟩ := DataW.trod_string ht h
  simp only [Prod.mk.injEq] at hd
  obtain ⟨rfl, -⟩ := hd
  refine ⟨s.data.toList, ?_, ?_⟩
  · show [Value.string s] = [Value.string (bs s.data.toList)]
    simp [bs]
  · simp [DataW.weights] at hw
    simp only [reachBytes] at hw
    have h1 : s.data.toList.length = s.data.size := rfl
    have h2 : s.size = s.data.size := rfl
    omega

theorem weightsAll_mem {H : Type} {e : TypeId} : ∀ {l : List (DataW H)} {d : DataW H}, d ∈ l → ∀ n ∈ d.weights P e, n ∈ DataW.weightsAll P e l
  | x :: l, d, hd, n, hn => by
    simp only [DataW.weightsAll, List.mem_append]
    rcases List.mem_cons.1 hd with rfl | h
    · exact .inl hn
    · exact .inr (weightsAll_mem h n hn)

theorem o_slice {α : Type} {T : TRep α} {V : α → Prop} (ht : P.underlying t = some (.slice e)) (hc : P.cellsOf e = T.n) (hb : P.bytesOf e = T.bytes) (hT : Opens P T V e) :
    Opens P (tSlice T) (fun l => ∀ x ∈ l, V x) t := by
  intro H enc w base spare held fuel cs d ps h hw
  rcases DataW.trod_slice ht h with ⟨rfl, hx⟩ | ⟨a, len, cap, elems, rest, n, _, rfl, hx, hba, hl, hm, hlen, hel, _, _⟩
  · exact ⟨[], ⟨none, 0, rfl, RS.empty _ _ _⟩, by simp⟩
  · simp only [Prod.mk.injEq] at hx
    obtain ⟨rfl, -⟩ := hx
    simp only [DataW.weights, ht, List.all_cons, Bool.and_eq_true, List.all_append, decide_eq_true_eq, List.length_map] at hw
    obtain ⟨hw1, hw2, _⟩ := hw
    rw [hb] at hw1
    have hle : len * T.bytes ≤ 140737488355328 := by
      have : len * T.bytes ≤ (elems.length + rest.length) * T.bytes := Nat.mul_le_mul_right _ (by omega)
      have h2 : reachBytes ≤ 140737488355328 := by decide
      omega
    have spot0 : 0 < len → a.spot = none := by
      intro hi
      have h1 := hel 0 hi
      rw [hc, List.getElem?_eq_getElem (by omega), Option.bind_eq_some_iff] at h1
      obtain ⟨cs', h2, h3⟩ := h1
      obtain ⟨_, hcl, hat⟩ := World.cells?_some h2
      have hpos := T.pos
      have hc0 := hat 0 (by omega)
      rw [List.getElem?_eq_getElem (by omega)] at hc0
      simpa [Addr.add] using World.cell?_spot hc0
    have add_mk : ∀ (b o i : Nat), (⟨b, o, none⟩ : Addr).add i = ⟨b, o + i, none⟩ := by
      intro b o i
      unfold Addr.add
      split
      · rename_i h; subst h; rfl
      · rfl
    have each : ∀ i, i < len → ∃ b o cells e' fr y, a = ⟨b, o, none⟩ ∧ w.heap[b]? = some (.cells cells e' fr) ∧ T.R w z0 (chunk cells o T.n i) y ∧ V y := by
      intro i hi
      have h1 := hel i hi
      rw [hc] at h1
      have hs : i < elems.length := by omega
      rw [List.getElem?_eq_getElem hs, Option.bind_eq_some_iff] at h1
      obtain ⟨cs', h2, h3⟩ := h1
      obtain ⟨_, hcl, hat⟩ := World.cells?_some h2
      have hwe : ((elems[i]).1.weights P e).all (· ≤ reachBytes) = true := by
        rw [List.all_eq_true] at hw2 ⊢
        intro q hq
        exact hw2 q (weightsAll_mem (List.mem_map.2 ⟨_, List.getElem_mem hs, rfl⟩) q hq)
      obtain ⟨y, hy, hv⟩ := hT enc w base spare held n cs' _ _ h3 hwe
      have hpos := T.pos
      have hsp := spot0 (by omega)
      obtain ⟨b, o, spot⟩ := a
      simp only at hsp
      subst hsp
      have hcell : ∀ j, j < T.n → w.cell? ⟨b, o + i * T.n + j, none⟩ = cs'[j]? := by
        intro j hj
        have := hat j hj
        rwa [add_mk, add_mk] at this
      have hrow : ∃ cells e' fr, w.heap[b]? = some (.cells cells e' fr) := by
        have h5 := hcell 0 (by omega)
        rw [List.getElem?_eq_getElem (by omega)] at h5
        unfold World.cell? at h5
        split at h5
        · rename_i cells e' fr hh
          exact ⟨_, _, _, hh⟩
        · cases h5
      obtain ⟨cells, e', fr, hh⟩ := hrow
      refine ⟨b, o, cells, e', fr, y, rfl, hh, ?_, hv⟩
      have : chunk cells o T.n i = cs' := by
        apply List.ext_getElem?
        intro j
        by_cases hj : j < T.n
        · rw [← hcell j hj]
          unfold World.cell?
          rw [hh]
          simp [chunk, List.getElem?_take, List.getElem?_drop, hj, Nat.add_assoc]
        · rw [List.getElem?_eq_none (by omega : cs'.length ≤ j)]
          simp [chunk, List.getElem?_take, hj]
      rw [this]; exact hy
    have mk : ∃ ys : List α, ys.length = len ∧ ∀ i (hi : i < len), ∃ y, ys[i]? = some y ∧ ∃ b o cells e' fr, a = ⟨b, o, none⟩ ∧ w.heap[b]? = some (.cells cells e' fr) ∧ T.R w z0 (chunk cells o T.n i) y ∧ V y := by
      have hch : ∀ i : Fin len, ∃ y : α, ∃ b o cells e' fr, a = ⟨b, o, none⟩ ∧ w.heap[b]? = some (.cells cells e' fr) ∧ T.R w z0 (chunk cells o T.n i.1) y ∧ V y := fun i => by
        obtain ⟨b, o, cells, e', fr, y, q⟩ := each i.1 i.2
        exact ⟨y, b, o, cells, e', fr, q⟩
      refine ⟨List.ofFn fun i => (hch i).choose, by simp, fun i hi => ⟨(hch ⟨i, hi⟩).choose, by simp [hi], (hch ⟨i, hi⟩).choose_spec⟩⟩
    obtain ⟨ys, hyl, hys⟩ := mk
    subst hyl
    refine ⟨ys, ⟨some a, cap, rfl, hl, hle, fun h => (by cases h), fun hne => ?_⟩, ?_⟩
    · have h0 : 0 < ys.length := List.length_pos_iff.2 hne
      obtain ⟨_, _, b, o, cells, e', fr, rfl, hh, _, _⟩ := hys 0 h0
      refine ⟨b, o, cells, e', fr, rfl, rfl, hh, fun i x hx => ?_⟩
      have hi : i < ys.length := by
        rcases Nat.lt_or_ge i ys.length with h | h
        · exact h
        · rw [List.getElem?_eq_none h] at hx; cases hx
      obtain ⟨y, hy, b', o', cells', e'', fr', ha, hh', hR, _⟩ := hys i hi
      cases ha
      rw [hh] at hh'
      cases hh'
      rw [hx] at hy
      cases hy
      exact hR
    · intro x hx
      obtain ⟨i, hi, rfl⟩ := List.getElem_of_mem hx
      obtain ⟨y, hy, _, _, _, _, _, _, _, _, hV⟩ := hys i hi
      rw [List.getElem?_eq_getElem hi] at hy
      cases hy
      exact hV

theorem o_fields {H : Type} {enc : TypeId × Value → H} {w : World} {base : Nat} {spare : Nat → Bool} {held : Bool} {fuel : Nat} {cs : List Value} {d : DataW H} {ps : List MemPlace} {fs : Array Field} (ht : P.underlying t = some (.struct fs))
    (h : DataW.trod enc P w base spare held fuel t cs = some (d, ps)) (hw : (d.weights P t).all (· ≤ reachBytes) = true) :
    cs.length = P.cellsOf t ∧ ∀ (i : Nat) (f : Field), fs[i]? = some f → ∃ n d' ps', DataW.trod enc P w base spare held n f.type ((cs.drop f.offset).take (P.cellsOf f.type)) = some (d', ps') ∧ (d'.weights P f.type).all (· ≤ reachBytes) = true := by
  obtain ⟨xs, n, _, hx, hl, hlen, hf⟩ := DataW.trod_struct ht h
  simp only [Prod.mk.injEq] at hx
  obtain ⟨rfl, -⟩ := hx
  refine ⟨hl, fun i f hi => ?_⟩
  have h1 := hf i f hi
  have hlt : i < fs.size := (Array.getElem?_eq_some_iff.1 hi).1
  rw [List.getElem?_eq_getElem (by omega)] at h1
  refine ⟨n, _, _, h1, ?_⟩
  simp only [DataW.weights, ht] at hw
  rw [List.all_eq_true] at hw ⊢
  intro q hq
  exact hw q (DataW.weights_mem_each (j := i) (by simp [hi]) (by simp [List.getElem?_eq_getElem (show i < xs.length by omega)]) q hq)

/-- One field. -/
theorem o_field {H : Type} {enc : TypeId × Value → H} {w : World} {base : Nat} {spare : Nat → Bool} {held : Bool} {fuel : Nat} {cs : List Value} {d : DataW H} {ps : List MemPlace} {fs : Array Field} (ht : P.underlying t = some (.struct fs))
    (h : DataW.trod enc P w base spare held fuel t cs = some (d, ps)) (hw : (d.weights P t).all (· ≤ reachBytes) = true) (i : Nat) {off ft k : Nat} {f : Field} (hi : fs[i]? = some f) (ho : f.offset = off) (hty : f.type = ft) (hc : P.cellsOf ft = k) :
    ∃ n d' ps', DataW.trod enc P w base spare held n ft ((cs.drop off).take k) = some (d', ps') ∧ (d'.weights P ft).all (· ≤ reachBytes) = true := by
  obtain ⟨n, d', ps', h1, h2⟩ := (o_fields ht h hw).2 i f hi
  subst ho; subst hty; subst hc
  exact ⟨n, d', ps', h1, h2⟩

theorem len1 {l : List Value} (h : l.length = 1) : ∃ a, l = [a] := by match l, h with | [a], _ => exact ⟨_, rfl⟩
theorem len2 {l : List Value} (h : l.length = 2) : ∃ a b, l = [a, b] := by match l, h with | [a, b], _ => exact ⟨_, _, rfl⟩
theorem len3 {l : List Value} (h : l.length = 3) : ∃ a b c, l = [a, b, c] := by match l, h with | [a, b, c], _ => exact ⟨_, _, _, rfl⟩
theorem len4 {l : List Value} (h : l.length = 4) : ∃ a b c d, l = [a, b, c, d] := by match l, h with | [a, b, c, d], _ => exact ⟨_, _, _, _, rfl⟩
theorem len5 {l : List Value} (h : l.length = 5) : ∃ a b c d e, l = [a, b, c, d, e] := by match l, h with | [a, b, c, d, e], _ => exact ⟨_, _, _, _, _, rfl⟩
theorem len6 {l : List Value} (h : l.length = 6) : ∃ a b c d e f, l = [a, b, c, d, e, f] := by match l, h with | [a, b, c, d, e, f], _ => exact ⟨_, _, _, _, _, _, rfl⟩
theorem len7 {l : List Value} (h : l.length = 7) : ∃ a b c d e f g, l = [a, b, c, d, e, f, g] := by match l, h with | [a, b, c, d, e, f, g], _ => exact ⟨_, _, _, _, _, _, _, rfl⟩
theorem len8 {l : List Value} (h : l.length = 8) : ∃ a b c d e f g i, l = [a, b, c, d, e, f, g, i] := by match l, h with | [a, b, c, d, e, f, g, i], _ => exact ⟨_, _, _, _, _, _, _, _, rfl⟩

theorem o_p2 (ht : P.underlying t = some (.array 2 e)) (he : P.underlying e = some (.int .i64)) (hc : P.cellsOf e = 1) (hct : P.cellsOf t = 2) : Opens P tP2 (fun p => inR .i64 p.1 ∧ inR .i64 p.2) t := by
  intro H enc w base spare held fuel cs d ps h hw
  obtain ⟨xs, m, _, _, hl, hn, hf⟩ := DataW.trod_array ht h
  rw [hct] at hl
  match cs, hl with
  | [c0, c1], _ =>
    have h0 := hf 0 (by omega)
    have h1 := hf 1 (by omega)
    rw [hc, List.getElem?_eq_getElem (by omega)] at h0 h1
    obtain ⟨y0, r0, _, v0⟩ := DataW.trod_int he h0
    obtain ⟨y1, r1, _, v1⟩ := DataW.trod_int he h1
    have r0 : [c0] = [.int .i64 y0] := r0
    have r1 : [c1] = [.int .i64 y1] := r1
    cases r0; cases r1
    exact ⟨(y0, y1), rfl, (Lit.wf_int_iff _ _).1 v0, (Lit.wf_int_iff _ _).1 v1⟩

theorem sz_cons {H : Type} {ts : List TypeId} {d : DataW H} {ds : List (DataW H)} (h : (DataW.weightsEach P (t :: ts) (d :: ds)).all (· ≤ reachBytes) = true) :
    (d.weights P t).all (· ≤ reachBytes) = true ∧ (DataW.weightsEach P ts ds).all (· ≤ reachBytes) = true := by
  simpa only [DataW.weightsEach, List.all_append, Bool.and_eq_true] using h

theorem agg_of {cs : Array Value} {l : List Value} (h : cs.toList = l) : Value.agg cs = .agg l.toArray := by subst h; simp

/-- A call that turns nothing: below its beginning the world is as it was. -/
theorem below {f : FuncId} {vals : Array Value} {w : World} {post : World → (Nat → Nat) → Value → Prop} (h : Ret P f vals xnone w z0 post) :
    Calls P f vals w fun e w' => (∃ v χ', e = .returned v ∧ post w' χ' v) ∧ Below w.heap.size w w' :=
  Calls.mono h fun e w' ⟨v, χ', he, ev, hp⟩ => ⟨⟨v, χ', he, hp⟩, ev.os, ev.tape, ev.output, ev.size, fun k hk => (ev.keep k hk rfl).1⟩
theorem one_int {w : World} {r : Reach} {b : Nat} {k : IntKind} {v : Value} (ht : P.underlying t = some (.int k)) (h : Value.okWide P w r b t v) : v.cells.toList = [v] := by
  obtain ⟨_, rfl⟩ := okWide_int ht h; rfl
theorem one_bool {w : World} {r : Reach} {b : Nat} {v : Value} (ht : P.underlying t = some .bool) (h : Value.okWide P w r b t v) : v.cells.toList = [v] := by
  obtain ⟨_, rfl⟩ := okWide_bool ht h; rfl
theorem one_string {w : World} {r : Reach} {b : Nat} {v : Value} (ht : P.underlying t = some .string) (h : Value.okWide P w r b t v) : v.cells.toList = [v] := by
  obtain ⟨_, rfl⟩ := okWide_string ht h; rfl
theorem one_slice {w : World} {r : Reach} {b : Nat} {v : Value} (ht : P.underlying t = some (.slice e)) (h : Value.okWide P w r b t v) : v.cells.toList = [v] := by
  obtain ⟨_, _, _, rfl⟩ := okWide_slice ht h; rfl
theorem head_eq {a b : Value} (h : [a] = [b]) : a = b := by simpa using h
end Go.Op
