/- strings.Builder's Grow at a Builder that nothing has been done with. -/
import Derived.Test.YtcjldfbgccmpkaaDoorKX
import Derived.Lib.MakeNoZero
set_option linter.all false
namespace Go.Proofs.YtcjldfbgccmpkaaDoor
open Go Go.Sv Go.RowKit Go.Lib Go.Shelf
set_option maxHeartbeats 1000000
set_option maxRecDepth 100000
theorem set_alloc (w : World) {b : Nat} (h : b < w.heap.size) (v : Value) (o : Obj) : ((w.setCell ⟨b, 1, none⟩ v).alloc o).heap = ((w.alloc o).setCell ⟨b, 1, none⟩ v).heap := by
  simp only [World.setCell, World.alloc]
  apply Array.ext_getElem?
  intro k
  simp only [Array.getElem?_push, Array.getElem?_modify, Array.size_modify]
  by_cases hk : k = w.heap.size
  · subst hk
    simp [show b ≠ w.heap.size by omega]
  · simp only [hk, if_false]
theorem grow1 (b col n : Nat) (w : World) (χ : Nat → Nat) (h1 : χ b = col) (hbk : w.heap[b]? = some (.cells #[.pointer (some ⟨b, 0, none⟩), .slice none 0 0] 71 (0, 0))) (hn1 : 1 ≤ n) (hn : n ≤ 140737488355328) :
    Calls Tryd.prog 79 #[.pointer (some ⟨b, 0, none⟩), .int .i64 n] w fun e w' => e = .returned (.tuple #[]) ∧ ∃ χ', Ev (xone col) w χ w' χ' ∧ BL 71 5 w' χ' col b [] := by
  obtain ⟨cs, hrun, hle, hmax⟩ := Lib.run_makeNoZero (P := Tryd.prog) w.drew #[3] 69 5 Tryd.underlying69 n (by omega)
  have hw : IntKind.i64.wrap (IntKind.i64.wrap 0 + (n : Int)) = n := by
    rw [IntKind.wrap_i64, IntKind.wrap_i64]
    omega
  have hcall : (callFunc 90 #[.int .i64 (IntKind.i64.wrap (IntKind.i64.wrap 0 + (n : Int)))]).run Tryd.prog w.drew = .ok (.value (.slice (some ⟨w.drew.heap.size, 0, none⟩) n cs.size)) (w.drew.drew.drew.alloc (.cells cs 5)) := by
    rw [hw, run_callFunc_extern (f := 90) (fn := Tryd.f90) Tryd.func90 (by kernel_rfl) (by kernel_rfl) (by kernel_rfl) (e := Extern.BytealgMakeNoZero.makeNoZero #[3] #[69]) (by kernel_rfl), hrun]
    rfl
  have hlt := lt_heap hbk
  have c1 : w.drew.cell? ⟨b, 1, none⟩ = some (.slice none 0 0) := by
    have : w.drew.heap[b]? = _ := hbk
    rw [Lib.cell_of_heap this]; rfl
  have hb2 : (w.alloc (.cells cs 5)).heap[b]? = _ := (Lib.alloc_old w _ b hlt).trans hbk
  have c2 : (w.alloc (.cells cs 5)).cell? ⟨b, 1, none⟩ = some (.slice none 0 0) := by
    rw [Lib.cell_of_heap hb2]; rfl
  have f2 : (w.alloc (.cells cs 5)).frozen? ⟨b, 1, none⟩ = false := Lib.frozen_of_heap hb2 1
  obtain ⟨i0, hi, hz0, hz1, hz2⟩ := infoU8
  have hcopy : ∀ W : World, (Builtin.copy_ #[69, 69] 3 #[.slice (some ⟨w.heap.size, 0, none⟩) 0 cs.size, .slice none 0 0]).run Tryd.prog W = .ok (goInt 0) W :=
    fun W => run_copy_none W 69 69 3 5 _ _ 0 cs.size 0 0 Tryd.underlying69 (by rw [hi]; simp [hz1]) rfl
  clear hw
  have mixed0 : Tryd.prog.follows .mixedOrders = true := mixed
  have hfin : ∀ k : World, k.heap = ((w.alloc (.cells cs 5)).setCell ⟨b, 1, none⟩ (.slice (some ⟨w.heap.size, 0, none⟩) 0 cs.size)).heap → k.os = w.os → k.tape = w.tape → k.output = w.output → ∃ χ', Ev (xone col) w χ k χ' ∧ BL 71 5 k χ' col b [] := by
    intro k hk ho ht hou
    have hsz : k.heap.size = w.heap.size + 1 := by
      rw [hk]
      show ((w.heap.push _).modify _ _).size = _
      rw [Array.size_modify, Array.size_push]
    have hb' : k.heap[b]? = some (.cells #[.pointer (some ⟨b, 0, none⟩), .slice (some ⟨w.heap.size, 0, none⟩) 0 cs.size] 71 (0, 0)) := by rw [hk]; simp [World.setCell, Array.getElem?_modify, hb2]
    have hoth : ∀ q, q ≠ b → k.heap[q]? = (w.alloc (.cells cs 5)).heap[q]? := fun q hq => by rw [hk]; simp [World.setCell, Array.getElem?_modify, Ne.symm hq]
    have hg : k.heap[w.heap.size]? = some (.cells cs 5 (0, 0)) := (hoth _ (by omega)).trans (heap_alloc_new w _)
    refine ⟨fun q => if q < w.heap.size then χ q else col, ⟨ho, ht, hou, by omega, fun q hq hc => ?_⟩, ?_, _, _, .inr rfl, hb', ⟨rfl, .inr ⟨w.heap.size, cs.size, cs, rfl, Nat.zero_le _, hg, Nat.zero_le _, hmax (by unfold maxLen; omega), by omega, by simp [Lib.byteCells]⟩⟩, .inr ⟨w.heap.size, cs.size, by omega, rfl, by omega, ?_⟩⟩
    · have hkb : q ≠ b := fun e => by subst e; rw [h1] at hc; simp [xone] at hc
      exact ⟨(hoth q hkb).trans (Lib.alloc_old w _ q hq), by rw [if_pos hq]⟩
    · show (if b < w.heap.size then χ b else col) = col
      rw [if_pos hlt, h1]
    · show (if w.heap.size < w.heap.size then χ w.heap.size else col) = col
      rw [if_neg (by omega)]
  have hcom : ((w.setCell ⟨b, 1, none⟩ (.slice (some ⟨w.heap.size, 0, none⟩) 0 cs.size)).alloc (.cells cs 5)).heap = ((w.alloc (.cells cs 5)).setCell ⟨b, 1, none⟩ (.slice (some ⟨w.heap.size, 0, none⟩) 0 cs.size)).heap := set_alloc w hlt _ _
  go_enter Tryd.func79, Tryd.ntmps79
  go_wp2
  go_region_o
  all_goals (go_wp2; go_end0; first | exact ⟨rfl, hfin _ hcom rfl rfl rfl⟩ | exact ⟨rfl, hfin _ rfl rfl rfl rfl⟩)
theorem gr (b col : Nat) (n : Int) (w : World) (χ : Nat → Nat) (h : BN 71 w χ col b) (h0 : 0 ≤ n) (h1 : n ≤ 140737488355328) :
    Ret Tryd.prog 71 #[.pointer (some ⟨b, 0, none⟩), .int .i64 n] (xone col) w χ (fun w' χ' v => v = .tuple #[] ∧ BL 71 5 w' χ' col b []) := by
  obtain ⟨m, rfl⟩ : ∃ m : Nat, n = m := ⟨n.toNat, by omega⟩
  obtain ⟨hcol, hb⟩ := h
  have hlt := lt_heap hb
  have hbk1 : (w.setCell ⟨b, 0, none⟩ (.pointer (some ⟨b, 0, none⟩))).heap[b]? = some (.cells #[.pointer (some ⟨b, 0, none⟩), .slice none 0 0] 71 (0, 0)) := by
    simp [World.setCell, Array.getElem?_modify, hb]
  have c1 : (w.setCell ⟨b, 0, none⟩ (.pointer (some ⟨b, 0, none⟩))).cell? ⟨b, 1, none⟩ = some (.slice none 0 0) := by rw [Lib.cell_of_heap hbk1]; rfl
  have hev : ∀ k : World, k.heap = (w.setCell ⟨b, 0, none⟩ (.pointer (some ⟨b, 0, none⟩))).heap → k.os = w.os → k.tape = w.tape → k.output = w.output → Ev (xone col) w χ k χ ∧ BL 71 5 k χ col b [] := by
    intro k hk ho ht hou
    have hoth : ∀ q, q ≠ b → k.heap[q]? = w.heap[q]? := fun q hq => by rw [hk]; simp [World.setCell, Array.getElem?_modify, Ne.symm hq]
    refine ⟨⟨ho, ht, hou, by rw [hk]; simp [World.setCell], fun q hq hc => ⟨hoth q (fun e => ?_), rfl⟩⟩, hcol, _, _, .inr rfl, by rw [hk]; exact hbk1, ⟨rfl, .inl ⟨rfl, rfl⟩⟩, .inl ⟨rfl, rfl⟩⟩
    subst e; rw [hcol] at hc; simp [xone] at hc
  have e53 : ∀ args w, (callFunc 53 args).run Tryd.prog w = .ok (.enter 53 args) w := enters_of Tryd.func53 (by kernel_rfl) rfl
  have e79 : ∀ args w, (callFunc 79 args).run Tryd.prog w = .ok (.enter 79 args) w := enters_of Tryd.func79 (by kernel_rfl) rfl
  have mixed0 : Tryd.prog.follows .mixedOrders = true := mixed
  have c1' : (w.setCell ⟨b, 0, none⟩ (.pointer (some ⟨b, 0, none⟩))).drew.cell? ⟨b, 1, none⟩ = some (.slice none 0 0) := c1
  suffices hs : Calls Tryd.prog 71 #[.pointer (some ⟨b, 0, none⟩), .int .i64 m] w fun e w' => e = .returned (.tuple #[]) ∧ ∃ χ', Ev (xone col) w χ w' χ' ∧ BL 71 5 w' χ' col b [] by
    unfold Ret
    refine hs.mono ?_
    rintro e w' ⟨rfl, χ', e1, h1⟩
    exact ⟨_, χ', rfl, e1, rfl, h1⟩
  by_cases hm : m = 0
  · subst hm
    go_enter Tryd.func71, Tryd.ntmps71
    go_wp2_with (go_at_call 53; refine (cc_fresh b w (by rw [Lib.cell_of_heap hb]; rfl) (by simp [World.shape?, hb]) (Lib.frozen_of_heap hb 0)).mono ?_; rintro e w' ⟨rfl, rfl⟩)
    go_region_o
    all_goals (go_wp2; go_end0; exact ⟨rfl, χ, hev _ rfl rfl rfl rfl⟩)
  · have hg : ∀ k : World, k = (w.setCell ⟨b, 0, none⟩ (.pointer (some ⟨b, 0, none⟩))).drew → Calls Tryd.prog 79 #[.pointer (some ⟨b, 0, none⟩), .int .i64 m] k fun e w' => e = .returned (.tuple #[]) ∧ ∃ χ', Ev (xone col) w χ w' χ' ∧ BL 71 5 w' χ' col b [] := by
      rintro k rfl
      obtain ⟨v1, v2⟩ := hev (w.setCell ⟨b, 0, none⟩ (.pointer (some ⟨b, 0, none⟩))).drew rfl rfl rfl rfl
      refine (grow1 b col m (w.setCell ⟨b, 0, none⟩ (.pointer (some ⟨b, 0, none⟩))).drew χ hcol hbk1 (by omega) (by omega)).mono ?_
      rintro e w' ⟨rfl, χ', e1, h1⟩
      exact ⟨rfl, χ', v1.trans e1, h1⟩
    go_enter Tryd.func71, Tryd.ntmps71
    go_wp2_with (go_at_call 53; refine (cc_fresh b w (by rw [Lib.cell_of_heap hb]; rfl) (by simp [World.shape?, hb]) (Lib.frozen_of_heap hb 0)).mono ?_; rintro e w' ⟨rfl, rfl⟩)
    go_region_o
    all_goals go_wp2_with (go_at_call 79; refine (hg _ rfl).mono ?_; rintro e w' ⟨rfl, χ', e1, h1⟩)
    all_goals first
      | (go_end0; exact ⟨rfl, χ', e1, h1⟩)
      | (go_end0; exact ⟨rfl, χ, hev _ rfl rfl rfl rfl⟩)
end Go.Proofs.YtcjldfbgccmpkaaDoor
