/- Lemmas. Conditions: in each lemma. -/
import Derived.WalkKit
import Derived.ProofKit
import Derived.Lib.Builder
import Derived.Test.YtohbpcjnilefbaaDoorTab
import Derived.Lib.AppendStr
import Derived.Shelf.Abstract
import Derived.Shelf.RegionOpenPlain
import Derived.Lib.UnsafeStr
import Derived.Lib.LaidTab
import Derived.Lib.ItoaNum
set_option linter.all false
namespace Go.Proofs.YtohbpcjnilefbaaDoor
open Go Go.Sv Go.RowKit Go.Lib Go.Shelf

set_option maxHeartbeats 1000000
set_option maxRecDepth 100000
theorem szB : ∃ j, Tryd.prog.info? 90 = some j ∧ j.size = 2 := by
  obtain ⟨i, d, z, h1, h2, h3, h4, _⟩ := tyS_parts ty90
  exact ⟨i, h1, h4⟩
theorem cc_used (b : Nat) (w : World) (h0 : w.cell? ⟨b, 0, none⟩ = some (.pointer (some ⟨b, 0, none⟩))) :
    Calls Tryd.prog 89 #[.pointer (some ⟨b, 0, none⟩)] w fun e w' => e = .returned (.tuple #[]) ∧ w' = w := by
  obtain ⟨j, hj, hjs⟩ := szB
  go_enter Tryd.func89, Tryd.ntmps89
  go_wp2
  rw [Lib.run_neq_ptr_same w _ Tryd.underlying87 hj]
  go_wp2
  go_end0
  exact ⟨rfl, rfl⟩
theorem cc_fresh (b : Nat) (w : World) (h0 : w.cell? ⟨b, 0, none⟩ = some (.pointer none)) (hsh : w.shape? b = some (90, 2)) (hfz : w.frozen? ⟨b, 0, none⟩ = false) :
    Calls Tryd.prog 89 #[.pointer (some ⟨b, 0, none⟩)] w fun e w' => e = .returned (.tuple #[]) ∧ w' = w.setCell ⟨b, 0, none⟩ (.pointer (some ⟨b, 0, none⟩)) := by
  obtain ⟨j, hj, hjs⟩ := szB
  go_enter Tryd.func89, Tryd.ntmps89
  go_wp2
  rw [Lib.run_to_unsafe w ⟨b, 0, none⟩ Tryd.underlying87 Tryd.underlying157 hj (by rw [hjs]; decide) hsh (Nat.zero_lt_succ 1)]
  simp only [Result.andThen]
  rw [Oper.upon_value]
  go_wp2
  rw [run_callFunc_extern (f := 111) (fn := Tryd.f111) Tryd.func111 (by kernel_rfl) (by kernel_rfl) (by kernel_rfl) (e := Extern.AbiNoEscape.same) (by kernel_rfl)]
  rw [Lib.run_noEscape]
  simp only [Result.andThen]
  rw [Oper.upon_value]
  go_wp2
  rw [Lib.run_from_unsafe w ⟨b, 0, none⟩ Tryd.underlying157 Tryd.underlying87 hj hsh (by kernel_rfl)]
  simp only [Result.andThen]
  rw [Oper.upon_value]
  go_wp2
  go_end0
  exact ⟨rfl, rfl⟩

theorem infoU8 : ∃ i, Tryd.prog.info? 5 = some i ∧ i.zero = some (.int .u8 0) ∧ i.size = 1 ∧ i.bytes = 1 := by
  have h : (Tryd.prog.info? 5).map (fun i => (i.zero, i.size, i.bytes)) = some (some (.int .u8 0), 1, 1) := by kernel_rfl
  obtain ⟨i, hi, he⟩ := Option.map_eq_some_iff.1 h
  simp only [Prod.mk.injEq] at he
  exact ⟨i, hi, he.1, he.2.1, he.2.2⟩
theorem bl_parts {w : World} {χ : Nat → Nat} {col b : Nat} {l : List UInt8} (h : BL 90 5 w χ col b l) : w.shape? b = some (90, 2) ∧ w.frozen? ⟨b, 0, none⟩ = false := by
  obtain ⟨_, p, v, _, hb, _⟩ := h
  exact ⟨by simp [World.shape?, hb], by simp [World.frozen?, hb]⟩
/-- Behind copyCheck. -/
theorem cc (b col : Nat) (l : List UInt8) (w : World) (χ : Nat → Nat) (h : BL 90 5 w χ col b l) : Calls Tryd.prog 89 #[.pointer (some ⟨b, 0, none⟩)] w fun e w' => e = .returned (.tuple #[]) ∧ Ev (xone col) w χ w' χ ∧ BL 90 5 w' χ col b l ∧ w'.cell? ⟨b, 0, none⟩ = some (.pointer (some ⟨b, 0, none⟩)) := by
  have hsh := bl_parts h
  obtain ⟨h1, p, v, hp, hb, hown, hv⟩ := h
  have hlt := lt_heap hb
  rcases hp with rfl | rfl
  · refine (cc_fresh b w (by simp [World.cell?, hb]) hsh.1 hsh.2).mono ?_
    rintro e w' ⟨rfl, rfl⟩
    have hb' : (w.setCell ⟨b, 0, none⟩ (.pointer (some ⟨b, 0, none⟩))).heap[b]? = some (.cells #[.pointer (some ⟨b, 0, none⟩), v] 90 (0, 0)) := by simp [World.setCell, Array.getElem?_modify, hb]
    have hoth : ∀ k, k ≠ b → (w.setCell ⟨b, 0, none⟩ (.pointer (some ⟨b, 0, none⟩))).heap[k]? = w.heap[k]? := fun k hk => by simp [World.setCell, Array.getElem?_modify, Ne.symm hk]
    refine ⟨rfl, ⟨rfl, rfl, rfl, by simp [World.setCell], fun k hk hc => ⟨hoth k (fun e => ?_), rfl⟩⟩, ⟨h1, _, v, .inr rfl, hb', ownsRow_same hown (fun g cap hv' => hoth g (fun e => ?_)), hv⟩, by simp [World.cell?, hb']⟩
    · subst e; rw [h1] at hc; simp [xone] at hc
    · rcases hv with ⟨hv, _⟩ | ⟨_, g', cap', hv, hne, _⟩
      · rw [hv] at hv'; cases hv'
      · rw [hv] at hv'
        simp only [Value.slice.injEq, Option.some.injEq, Addr.mk.injEq] at hv'
        exact hne (hv'.1.1.trans e)
  · refine (cc_used b w (by simp [World.cell?, hb])).mono ?_
    rintro e w' ⟨rfl, rfl⟩
    exact ⟨rfl, Ev.refl _ _ _, ⟨h1, _, v, .inr rfl, hb, hown, hv⟩, by simp [World.cell?, hb]⟩
/-- What both writes end with: the buffer laid into the builder. -/
theorem laid {w w1 w2 : World} {χ : Nat → Nat} {col b : Nat} {l m : List UInt8} {v v' : Value} (h1 : χ b = col) (e1 : Ev (xone col) w χ w1 χ) (hb2 : w2.heap[b]? = some (.cells #[.pointer (some ⟨b, 0, none⟩), v] 90 (0, 0)))
    (hsz : w1.heap.size ≤ w2.heap.size) (hos : w2.os = w1.os ∧ w2.tape = w1.tape ∧ w2.output = w1.output) (hlt : b < w.heap.size) (hv : (v = .slice none 0 0 ∧ l = []) ∨ (l ≠ [] ∧ ∃ g cap, v = .slice (some ⟨g, 0, none⟩) l.length cap ∧ g ≠ b ∧ χ g = col))
    (hcolg : ∀ g cap, v' = .slice (some ⟨g, 0, none⟩) m.length cap → g < w.heap.size → χ g = col) (hg : ∀ k, k < w1.heap.size → some k ≠ v.ownBlock → w2.heap[k]? = w1.heap[k]?) (hown : w2.ownsRow 0 5 1 v' m.length (Lib.byteCells m)) (hm : (v' = .slice none 0 0 ∧ m = []) ∨ (m ≠ [] ∧ ∃ g cap, v' = .slice (some ⟨g, 0, none⟩) m.length cap)) :
    Ev (xone col) w χ (w2.setCell ⟨b, 1, none⟩ v') (fun k => if k < w.heap.size then χ k else col) ∧ BL 90 5 (w2.setCell ⟨b, 1, none⟩ v') (fun k => if k < w.heap.size then χ k else col) col b m := by
  have hb' : (w2.setCell ⟨b, 1, none⟩ v').heap[b]? = some (.cells #[.pointer (some ⟨b, 0, none⟩), v'] 90 (0, 0)) := by simp [World.setCell, Array.getElem?_modify, hb2]
  have hoth : ∀ k, k ≠ b → (w2.setCell ⟨b, 1, none⟩ v').heap[k]? = w2.heap[k]? := fun k hk => by simp [World.setCell, Array.getElem?_modify, Ne.symm hk]
  have hblk : ∀ g, v.ownBlock = some g → χ g = col := by
    intro g hg'
    rcases hv with ⟨rfl, _⟩ | ⟨_, g', cap, rfl, _, hc⟩
    · cases hg'
    · simp [Value.ownBlock] at hg'; rw [← hg']; exact hc
  have hgb : ∀ g cap, v' = .slice (some ⟨g, 0, none⟩) m.length cap → g ≠ b ∧ (if g < w.heap.size then χ g else col) = col := by
    intro g cap hv'
    obtain ⟨_, ⟨h2, _⟩ | ⟨g', cap', cur, hv2, _, hgc, _⟩⟩ := hown
    · rw [h2] at hv'; cases hv'
    · have hgg : g' = g := by
        rw [hv2] at hv'
        simp only [Value.slice.injEq, Option.some.injEq, Addr.mk.injEq] at hv'
        exact hv'.1.1
      subst hgg
      have hne : g' ≠ b := by
        intro e
        rw [e, hb2] at hgc
        simp only [Option.some.injEq, Obj.cells.injEq] at hgc
        exact absurd hgc.2.1 (by decide)
      refine ⟨hne, ?_⟩
      split
      · rename_i hlt'
        exact hcolg g' cap' hv2 hlt'
      · rfl
  refine ⟨⟨hos.1.trans e1.os, hos.2.1.trans e1.tape, hos.2.2.trans e1.output, ?_, fun k hk hc => ?_⟩, ?_, _, v', .inr rfl, hb', ownsRow_same hown (fun g cap hv' => hoth g (hgb g cap hv').1), ?_⟩
  · have := e1.size; simp [World.setCell]; omega
  · have hkb : k ≠ b := fun e => by subst e; rw [h1] at hc; simp [xone] at hc
    have hkv : some k ≠ v.ownBlock := fun e => by rw [hblk k e.symm] at hc; simp [xone] at hc
    have h3 := e1.keep k hk hc
    refine ⟨(hoth k hkb).trans ((hg k (Nat.lt_of_lt_of_le hk e1.size) hkv).trans h3.1), ?_⟩
    rw [if_pos hk]
  · show (if b < w.heap.size then χ b else col) = col
    rw [if_pos hlt, h1]
  · rcases hm with hm | ⟨hm, g, cap, hv'⟩
    · exact .inl hm
    · exact .inr ⟨hm, g, cap, hv', hgb g cap hv'⟩
section
variable {P : Program} (w : World)
theorem app_new (t ty e : TypeId) (i : TypeInfo) (ht : P.underlying t = some (.slice e)) (hi : P.info? e = some i) (hz : i.zero = some (.int .u8 0)) (hsize : i.size = 1) (hby : i.bytes = 1)
    (v : Value) (n : Nat) (xs : List Value) (hown : w.ownsRow 0 e 1 v n xs) (ad : Addr) (u : Value) (hu : w.cell? ad = some u) (h1 : u.oneCell' = true) (hbytes : n + 1 ≤ 140737488355328) :
    ∃ v' w', (Builtin.append_ #[t, t] ty #[v, .slice (some ad) 1 1]).run P w = .ok v' w' ∧ w'.ownsRow 0 e 1 v' (n + 1) (xs ++ [u]) ∧ w.grownBy w' v.ownBlock ∧ ∀ g, v'.ownBlock = some g → v.ownBlock = some g ∨ g = w.heap.size := by
  have hz1 : ad.add 0 = ad := by cases ad; simp [Addr.add]
  have hc1 : ∀ j x, [u][j]? = some x → w.cell? (ad.add j) = some x := by
    intro j x hj
    match j, hj with
    | 0, hj => simp at hj; subst hj; rw [hz1]; exact hu
  have h1' : ∀ x ∈ [u], x.oneCell' = true := by intro x hx; simp at hx; subst hx; exact h1
  obtain ⟨v', w', hr, h2, h3, _⟩ := run_append_own (P := P) w 0 t ty e i (.int .u8 0) 1 1 ht hi hz hsize hby rfl (by decide) v n xs hown ad 1 1 [u] rfl hc1 h1' (by unfold maxLen; omega) (by omega) (by omega)
  refine ⟨v', w', hr, h2, h3, fun g hg => ?_⟩
  rcases hown.2 with ⟨rfl, rfl⟩ | ⟨g0, cap, cur, rfl, hbg, hg0, hnc, hcm, hcs, htake⟩
  · rw [run_append_nil (P := P) w t ty e i (.int .u8 0) ht hi hz ad 1 1 [u] (by rw [hsize]; rfl) hc1 (by decide) (by decide) (by rw [hby]; decide)] at hr
    cases hr
    simp [Value.ownBlock] at hg
    exact .inr hg.symm
  · by_cases hroom : n + 1 ≤ cap
    · rw [run_append_room (P := P) w t ty e i ht hi g0 n cap cur hg0 ad 1 1 [u] (by rw [hsize]; rfl) hc1 h1' hroom (by rw [hsize, hcs]; simp; omega)] at hr
      cases hr
      exact .inl hg
    · have hxl : xs.length = n := by simpa using hown.1
      have holds : ∀ j u, xs[j]? = some u → w.cell? ((⟨g0, 0, none⟩ : Addr).add j) = some u := hown.cells (g := g0) rfl
      rw [run_append_grow (P := P) w t ty e i (.int .u8 0) ht hi hz ⟨g0, 0, none⟩ n cap xs (by rw [hsize]; simpa using hxl) holds ad 1 1 [u] (by rw [hsize]; rfl) hc1 (by omega) (by omega) (by rw [hby]; exact growslice_fits (by omega) (by omega))] at hr
      cases hr
      simp [Value.ownBlock] at hg
      exact .inr hg.symm
theorem app_new_string (t u ty e : TypeId) (i : TypeInfo) (ht : P.underlying t = some (.slice e)) (hu : P.underlying u = some .string) (hi : P.info? e = some i) (hz : i.zero = some (.int .u8 0)) (hsize : i.size = 1) (hby : i.bytes = 1)
    (v : Value) (n : Nat) (xs : List Value) (hown : w.ownsRow 0 e 1 v n xs) (s : ByteArray) (hbytes : n + s.size ≤ 140737488355328) :
    ∃ v' w', (Builtin.append_ #[t, u] ty #[v, .string s]).run P w = .ok v' w' ∧ w'.ownsRow 0 e 1 v' (n + s.size) (xs ++ strCells s) ∧ w.grownBy w' v.ownBlock ∧ (v' = .slice none 0 0 ↔ v = .slice none 0 0 ∧ s.size = 0) ∧ ∀ g, v'.ownBlock = some g → v.ownBlock = some g ∨ g = w.heap.size := by
  obtain ⟨v', w', hr, h2, h3, h4⟩ := run_append_own_string (P := P) w 0 t u ty e i ht hu hi hz hsize hby v n xs hown s (by unfold maxLen; omega) hbytes (by omega)
  refine ⟨v', w', hr, h2, h3, h4, fun g hg => ?_⟩
  have hxl : xs.length = n := by simpa using hown.1
  rcases hown.2 with ⟨rfl, rfl⟩ | ⟨g0, cap, cur, rfl, hbg, hg0, hnc, hcm, hcs, htake⟩
  · by_cases hm : s.size = 0
    · have := h4.mpr ⟨rfl, hm⟩
      subst this
      simp [Value.ownBlock] at hg
    · rw [run_append_nil_string (P := P) w t u ty e i (.int .u8 0) ht hu hi hz s (by omega) (by omega) (by rw [hby]; omega)] at hr
      cases hr
      simp [Value.ownBlock] at hg
      exact .inr hg.symm
  · by_cases hroom : n + s.size ≤ cap
    · rw [run_append_room_string (P := P) w t u ty e i ht hu hi hsize g0 n cap cur hg0 s hroom (by omega)] at hr
      cases hr
      exact .inl hg
    · have holds : ∀ j u, xs[j]? = some u → w.cell? ((⟨g0, 0, none⟩ : Addr).add j) = some u := hown.cells (g := g0) rfl
      rw [run_append_grow_string (P := P) w t u ty e i (.int .u8 0) ht hu hi hz ⟨g0, 0, none⟩ n cap xs (by rw [hsize]; simpa using hxl) holds s (by omega) (by omega) (by rw [hby]; exact growslice_fits (by omega) (by omega))] at hr
      cases hr
      simp [Value.ownBlock] at hg
      exact .inr hg.symm
theorem wpl_append {ops : Array Oper} {rest : List Oper} {o : Oper} {a : Act} {Q : Exit → Act → World → Prop} (hgd : o.guard = none) (s x : Operand) (t u : TypeId) (ho : o.op = .call { callee := .builtin .append, args := #[s, x], argTypes := #[t, u] })
    {v y v' : Value} {w' : World} (hs : a.eval s = v) (hx : a.eval x = y) (hr : (Builtin.append_ #[t, u] o.type #[v, y]).run P w = .ok v' w') (k : wpList P ops Q rest (a.put o.dst v') w') : wpList P ops Q (o :: rest) a w := by
  refine wpList_plain hgd fun K hK => ?_
  unfold Oper.wp execOp
  simp only [ho, resolve, invoke, builtin, Sem.run_bind, Sem.run_pure, Result.andThen_ok, List.map_toArray, List.map_cons, List.map_nil, hs, hx, hr]
  exact hK _ _ k
end
theorem wb (b col : Nat) (l : List UInt8) (c : Int) (w : World) (χ : Nat → Nat) (h : BL 90 5 w χ col b l) (hlen : l.length + 1 ≤ 140737488355328) (hc : 0 ≤ c ∧ c < 256) :
    Ret Tryd.prog 57 #[.pointer (some ⟨b, 0, none⟩), .int .u8 c] (xone col) w χ (fun w' χ' v => v = .nilIface ∧ BL 90 5 w' χ' col b (l ++ [UInt8.ofNat c.toNat])) := by
  obtain ⟨i0, hi, hz0, hz1, hz2⟩ := infoU8
  have hb0 := h
  obtain ⟨hb1, _, _, _, hb3, _⟩ := hb0
  have hlt0 := lt_heap hb3
  unfold Ret
  have e89 : ∀ args w, (callFunc 89 args).run Tryd.prog w = .ok (.enter 89 args) w := enters_of Tryd.func89 (by kernel_rfl) rfl
  go_enter Tryd.func57, Tryd.ntmps57
  go_wp2_with (go_at_call 89; refine (cc b col l w χ h).mono ?_)
  rintro e w1 ⟨rfl, e1, h1, c0⟩
  obtain ⟨k1, p, v, hp, hbk, hown, hv⟩ := h1
  obtain rfl : p = .pointer (some ⟨b, 0, none⟩) := by simpa [World.cell?, hbk] using c0
  have c1 : w1.cell? ⟨b, 1, none⟩ = some v := by simp [World.cell?, hbk]
  have hlt := lt_heap hbk
  have hne : v.ownBlock ≠ some b := by
    rcases hv with ⟨rfl, _⟩ | ⟨_, g', cap, rfl, hne, _⟩
    · simp [Value.ownBlock]
    · simp [Value.ownBlock, hne]
  obtain ⟨v', w2, hrun, hown', hgrow, hnew⟩ := app_new (P := Tryd.prog) (w1.alloc (.cells #[.int .u8 c] 5)) 88 88 5 i0 Tryd.underlying88 hi hz0 hz1 hz2 v _ _ (hown.alloc _) ⟨w1.heap.size, 0, none⟩ (.int .u8 c) (by simp) rfl (by omega)
  have hb2 : w2.heap[b]? = some (.cells #[.pointer (some ⟨b, 0, none⟩), v] 90 (0, 0)) := by
    rw [hgrow.block b (by simp; omega) (fun e => hne e.symm), Lib.alloc_old w1 _ b hlt]
    exact hbk
  have d0 : w2.cell? ⟨b, 0, none⟩ = some (.pointer (some ⟨b, 0, none⟩)) := by simp [World.cell?, hb2]
  have d1 : w2.cell? ⟨b, 1, none⟩ = some v := by simp [World.cell?, hb2]
  have f1 : w2.frozen? ⟨b, 1, none⟩ = false := by simp [World.frozen?, hb2]
  obtain ⟨g, cap, rfl⟩ : ∃ g cap, v' = .slice (some ⟨g, 0, none⟩) (l.length + 1) cap := by
    rcases hown'.2 with ⟨_, h0⟩ | ⟨g, cap, cur, hv, _⟩
    · omega
    · exact ⟨g, cap, hv⟩
  go_wp2_with (at_builtin; refine wpl_append _ rfl _ _ 88 88 rfl rfl rfl hrun ?_)
  go_wp2
  go_ret
  have hcl : l ++ [UInt8.ofNat c.toNat] ≠ [] := by simp
  have hbc : Lib.byteCells (l ++ [UInt8.ofNat c.toNat]) = Lib.byteCells l ++ [.int .u8 c] := by
    simp [Lib.byteCells]; omega
  have hll : (l ++ [UInt8.ofNat c.toNat]).length = l.length + 1 := by simp
  have s1 : ∀ g' cap', Value.slice (some ⟨g, 0, none⟩) (l.length + 1) cap = .slice (some ⟨g', 0, none⟩) (l ++ [UInt8.ofNat c.toNat]).length cap' → g' < w.heap.size → χ g' = col := by
    intro g' cap' hv' hg'
    simp only [Value.slice.injEq, Option.some.injEq, Addr.mk.injEq] at hv'
    obtain rfl := hv'.1.1
    rcases hnew g rfl with h5 | h5
    · rcases hv with ⟨rfl, _⟩ | ⟨_, g2, cap2, rfl, _, hc2⟩
      · cases h5
      · simp [Value.ownBlock] at h5; rw [← h5]; exact hc2
    · have := e1.size; simp at h5; omega
  have s2 : ∀ k, k < w1.heap.size → some k ≠ v.ownBlock → w2.heap[k]? = w1.heap[k]? := fun k hk hkv => (hgrow.block k (by simp; omega) hkv).trans (Lib.alloc_old w1 _ k hk)
  have s3 : w1.heap.size ≤ w2.heap.size := by have := hgrow.size; simp at this; omega
  have s4 : w2.ownsRow 0 5 1 (.slice (some ⟨g, 0, none⟩) (l.length + 1) cap) (l ++ [UInt8.ofNat c.toNat]).length (Lib.byteCells (l ++ [UInt8.ofNat c.toNat])) := by rw [hbc, hll]; exact hown'
  obtain ⟨r1, r2⟩ := laid hb1 e1 hb2 s3 ⟨hgrow.os, hgrow.tape, hgrow.output⟩ hlt0 hv s1 s2 s4 (.inr ⟨hcl, g, cap, by rw [hll]⟩)
  exact ⟨_, _, rfl, r1, rfl, r2⟩
theorem ws (b col : Nat) (l s : List UInt8) (w : World) (χ : Nat → Nat) (h : BL 90 5 w χ col b l) (hlen : l.length + s.length ≤ 140737488355328) :
    Ret Tryd.prog 58 #[.pointer (some ⟨b, 0, none⟩), .string (bs s)] (xone col) w χ (fun w' χ' v => v = .tuple #[.int .i64 s.length, .nilIface] ∧ BL 90 5 w' χ' col b (l ++ s)) := by
  obtain ⟨i0, hi, hz0, hz1, hz2⟩ := infoU8
  have hb0 := h
  obtain ⟨hb1, _, _, _, hb3, _⟩ := hb0
  have hlt0 := lt_heap hb3
  unfold Ret
  have e89 : ∀ args w, (callFunc 89 args).run Tryd.prog w = .ok (.enter 89 args) w := enters_of Tryd.func89 (by kernel_rfl) rfl
  go_enter Tryd.func58, Tryd.ntmps58
  go_wp2_with (go_at_call 89; refine (cc b col l w χ h).mono ?_)
  rintro e w1 ⟨rfl, e1, h1, c0⟩
  obtain ⟨k1, p, v, hp, hbk, hown, hv⟩ := h1
  obtain rfl : p = .pointer (some ⟨b, 0, none⟩) := by simpa [World.cell?, hbk] using c0
  have c1 : w1.cell? ⟨b, 1, none⟩ = some v := by simp [World.cell?, hbk]
  have hlt := lt_heap hbk
  have hne : v.ownBlock ≠ some b := by
    rcases hv with ⟨rfl, _⟩ | ⟨_, g', cap, rfl, hne, _⟩
    · simp [Value.ownBlock]
    · simp [Value.ownBlock, hne]
  obtain ⟨v', w2, hrun, hown', hgrow, hnil, hnew⟩ := app_new_string (P := Tryd.prog) w1 88 9 88 5 i0 Tryd.underlying88 Tryd.underlying9 hi hz0 hz1 hz2 v _ _ hown (bs s) (by rw [bs_size]; exact hlen)
  have hb2 : w2.heap[b]? = some (.cells #[.pointer (some ⟨b, 0, none⟩), v] 90 (0, 0)) := by
    rw [hgrow.block b hlt (fun e => hne e.symm)]
    exact hbk
  have d0 : w2.cell? ⟨b, 0, none⟩ = some (.pointer (some ⟨b, 0, none⟩)) := by simp [World.cell?, hb2]
  have d1 : w2.cell? ⟨b, 1, none⟩ = some v := by simp [World.cell?, hb2]
  have f1 : w2.frozen? ⟨b, 1, none⟩ = false := by simp [World.frozen?, hb2]
  have hm : (v' = .slice none 0 0 ∧ l ++ s = []) ∨ (l ++ s ≠ [] ∧ ∃ g cap, v' = .slice (some ⟨g, 0, none⟩) (l ++ s).length cap) := by
    by_cases hq : v' = .slice none 0 0
    · obtain ⟨h5, h6⟩ := hnil.mp hq
      rcases hv with ⟨_, h7⟩ | ⟨_, g2, cap2, h7, _⟩
      · rw [bs_size] at h6
        exact .inl ⟨hq, by rw [h7, List.eq_nil_of_length_eq_zero h6]; rfl⟩
      · rw [h7] at h5; cases h5
    · rcases hown'.2 with ⟨h5, _⟩ | ⟨g, cap, cur, hv', _⟩
      · exact absurd h5 hq
      · refine .inr ⟨fun h6 => hq (hnil.mpr ⟨?_, ?_⟩), g, cap, by rw [hv', bs_size, List.length_append]⟩
        · rcases hv with ⟨h7, _⟩ | ⟨h7, _⟩
          · exact h7
          · exact absurd (List.append_eq_nil_iff.mp h6).1 h7
        · rw [bs_size, (List.append_eq_nil_iff.mp h6).2]; rfl
  have s1 : ∀ g' cap', v' = .slice (some ⟨g', 0, none⟩) (l ++ s).length cap' → g' < w.heap.size → χ g' = col := by
    intro g' cap' hv' hg'
    rcases hnew g' (by rw [hv']; rfl) with h5 | h5
    · rcases hv with ⟨rfl, _⟩ | ⟨_, g2, cap2, rfl, _, hc2⟩
      · cases h5
      · simp [Value.ownBlock] at h5; rw [← h5]; exact hc2
    · have := e1.size; omega
  have s4 : w2.ownsRow 0 5 1 v' (l ++ s).length (Lib.byteCells (l ++ s)) := by
    have : Lib.byteCells (l ++ s) = Lib.byteCells l ++ strCells (bs s) := by simp [Lib.byteCells, strCells, bs]
    rw [this, List.length_append]; exact hown'
  obtain ⟨r1, r2⟩ := laid hb1 e1 hb2 hgrow.size ⟨hgrow.os, hgrow.tape, hgrow.output⟩ hlt0 hv s1 (fun k hk hkv => hgrow.block k hk hkv) s4 hm
  obtain ⟨ao, n', cap, hve⟩ : ∃ ao n' cap, v' = .slice ao n' cap := by
    rcases hown'.2 with ⟨hv, _⟩ | ⟨g, cap, cur, hv, _⟩
    · exact ⟨_, _, _, hv⟩
    · exact ⟨_, _, _, hv⟩
  subst hve
  go_wp2_with (at_builtin; refine wpl_append _ rfl _ _ 88 9 rfl rfl rfl hrun ?_)
  go_wp2
  go_ret2
  exact ⟨_, _, rfl, r1, rfl, r2⟩
theorem st (b col : Nat) (l : List UInt8) (w : World) (χ : Nat → Nat) (h : BL 90 5 w χ col b l) :
    Ret Tryd.prog 59 #[.pointer (some ⟨b, 0, none⟩)] (xone col) w χ (fun w' χ' v => v = .string (bs l)) := by
  obtain ⟨hb1, p, v, hp, hbk, hown, hv⟩ := h
  unfold Ret
  rcases hv with ⟨rfl, rfl⟩ | ⟨hl, g, cap, rfl, hne, hg⟩
  · have hUS : ∀ (W : World) (q : Option Addr), (Builtin.unsafeString_ #[133, 3] 9 #[.pointer q, .int .i64 0]).run Tryd.prog W = .ok (.string .empty) W := fun W q => Lib.run_unsafeString_none W _ _ _ q
    have c1 : w.drew.cell? ⟨b, 1, none⟩ = some (.slice none 0 0) := by
      have : w.drew.heap[b]? = some (.cells #[p, .slice none 0 0] 90 (0, 0)) := hbk
      simp [World.cell?, this]
    have hSD : (Builtin.unsafeSliceData_ #[88] 133 #[.slice none 0 0]).run Tryd.prog w.drew = .ok (.pointer none) w.drew := rfl
    have mixed0 : Tryd.prog.follows .mixedOrders = true := mixed
    go_enter Tryd.func59, Tryd.ntmps59
    go_wp2
    go_region_o
    all_goals (go_wp2; go_ret; exact ⟨_, χ, rfl, ⟨rfl, rfl, rfl, Nat.le_refl _, fun _ _ _ => ⟨rfl, rfl⟩⟩, rfl⟩)
  · have hl0 : l.length ≠ 0 := by simpa using hl
    obtain ⟨cur, hgc, hnc, hcm, hcs, htake⟩ : ∃ cur, w.heap[g]? = some (.cells cur 5 (0, 0)) ∧ l.length ≤ cap ∧ cap ≤ maxLen ∧ cur.size = cap * 1 ∧ cur.toList.take (l.length * 1) = Lib.byteCells l := by
      rcases hown.2 with ⟨h5, _⟩ | ⟨g', cap', cur, h5, _, h6⟩
      · cases h5
      · simp only [Value.slice.injEq, Option.some.injEq, Addr.mk.injEq] at h5
        obtain ⟨⟨rfl, _⟩, _, rfl⟩ := h5
        exact ⟨cur, h6⟩
    have c1 : w.drew.cell? ⟨b, 1, none⟩ = some (.slice (some ⟨g, 0, none⟩) l.length cap) := by
      have : w.drew.heap[b]? = some (.cells #[p, .slice (some ⟨g, 0, none⟩) l.length cap] 90 (0, 0)) := hbk
      simp [World.cell?, this]
    have hSD : (Builtin.unsafeSliceData_ #[88] 133 #[.slice (some ⟨g, 0, none⟩) l.length cap]).run Tryd.prog w.drew = .ok (.pointer (some ⟨g, 0, none⟩)) w.drew :=
      Lib.run_unsafeSliceData_row _ _ _ _ _ _ (by omega)
    have hUS : (Builtin.unsafeString_ #[133, 3] 9 #[.pointer (some ⟨g, 0, none⟩), .int .i64 l.length]).run Tryd.prog w.drew = .ok (.string ⟨l.toArray⟩) (w.drew.freeze ⟨g, 0, none⟩ l.length) := by
      refine Lib.run_unsafeString_row w.drew 133 3 9 5 Tryd.underlying133 (by kernel_rfl) g cur.size (by have hg' : w.drew.heap[g]? = some (.cells cur 5 (0, 0)) := hgc; simp [World.shape?, hg']) l hl (by omega) (by unfold maxLen at hcm; omega) ?_
      intro j x hx
      have := hown.cells (g := g) rfl j (.int .u8 x.toNat) (by simp [Lib.byteCells, hx])
      exact this
    have hev : Ev (xone col) w χ (w.drew.freeze ⟨g, 0, none⟩ l.length) χ := by
      unfold World.freeze
      split
      · exact ⟨rfl, rfl, rfl, Nat.le_refl _, fun _ _ _ => ⟨rfl, rfl⟩⟩
      · refine ⟨rfl, rfl, rfl, by simp, fun k hk hc => ⟨?_, rfl⟩⟩
        have hkg : g ≠ k := fun e => by subst e; rw [hg] at hc; simp [xone] at hc
        simp only [Array.getElem?_modify, hkg, if_false]
        rfl
    have mixed0 : Tryd.prog.follows .mixedOrders = true := mixed
    go_enter Tryd.func59, Tryd.ntmps59
    go_wp2
    go_region_o
    all_goals (go_wp2; go_ret; exact ⟨_, χ, rfl, hev, rfl⟩)
#print axioms wb
#print axioms ws
#print axioms st
/-- The table of powers of ten lies as it was laid, in a block that nothing changes. -/
def Amb (w : World) (χ : Nat → Nat) : Prop := Lib.TabIs Tryd.prog w "internal/strconv.uint64pow10" .u64 Lib.pow10Tab ∧ ∀ g, Tryd.prog.globalNamed "internal/strconv.uint64pow10" = some g → χ g = 0
theorem Amb.m0 {w w' : World} {χ χ' : Nat → Nat} (h : Amb w χ) (m : M0 w χ w' χ') : Amb w' χ' := by
  obtain ⟨h1, h2⟩ := h
  unfold Lib.TabIs World.var? at h1
  cases hg : Tryd.prog.globalNamed "internal/strconv.uint64pow10" with
  | none => rw [hg] at h1; cases h1
  | some g =>
    rw [hg] at h1
    cases hw : w.heap[g]? with
    | none => simp [hw] at h1
    | some o =>
      obtain ⟨k1, k2⟩ := m.keep g (lt_heap hw) (h2 g hg)
      refine ⟨?_, fun g' hg' => ?_⟩
      · unfold Lib.TabIs World.var?
        rw [hg]
        simp only [Option.bind_some, k1]
        exact h1
      · rw [hg] at hg'; cases hg'; exact k2
theorem Amb.mv {w w' : World} {χ χ' : Nat → Nat} {p : Nat → Bool} (h : Amb w χ) (e : Ev p w χ w' χ') (hp : p 0 = false) : Amb w' χ' := h.m0 (e.m0 hp)
end Go.Proofs.YtohbpcjnilefbaaDoor
