/- The second part of the walk library. -/
import Derived.Test.YtomodhnocjmfpaaSv
namespace Go.Sv
open Go
section
variable {P : Program}
section ops
variable {tab : Tab} {n : Nat} {sy : Sy} {ρ : Nat → Nat} {a : Act} {w : World} {χ : Nat → Nat} {all : List Oper} {Q : Exit → Act → World → Prop} {K : Act → World → Prop}
variable {d ty : Nat} {pos : String} {af : Array Edge} {g : Option (Nat × Bool)}

def filt (bks : List Nat) (sy : Sy) : List (Nat × (Nat × List SV)) := sy.boxes.filter (fun q => bks.any (Nat.beq q.1))

theorem Hold.of (h : St n sy ρ a w χ) {bks : List Nat} {bxs : List (Nat × (Nat × List SV))} (hb : filt bks sy = bxs) {w0 : World} {χ0 : Nat → Nat} (hD : M0 w0 χ0 w χ) : Hold w0 χ0 bxs ρ w := by
  subst hb
  exact ⟨fun i q hq => (h.boxes i q (look_filter hq)).2.2, fun b hb h0 => (hD.keep b hb h0).1⟩

theorem Hold.grow {bxs : List (Nat × (Nat × List SV))} {w0 w' : World} {χ0 : Nat → Nat} (H : Hold w0 χ0 bxs ρ w) (hsz : w0.heap.size ≤ w.heap.size) (hg : ∀ b, b < w.heap.size → w'.heap[b]? = w.heap[b]?) : Hold w0 χ0 bxs ρ w' :=
  ⟨fun id q hq => (hg _ (lt_heap (H.1 id q hq))).trans (H.1 id q hq), fun b hb h0 => (hg b (Nat.lt_of_lt_of_le hb hsz)).trans (H.2 b hb h0)⟩

theorem M0.ev {w0 : World} {χ0 : Nat → Nat} {p : Nat → Bool} {w' : World} {χ' : Nat → Nat} (h : M0 w0 χ0 w χ) (e : Ev p w χ w' χ') (hp : p 0 = false) : M0 w0 χ0 w' χ' :=
  ⟨Nat.le_trans h.size e.size, fun b hb h0 => by
    obtain ⟨k1, k2⟩ := h.keep b hb h0
    obtain ⟨l1, l2⟩ := (e.m0 hp).keep b (Nat.lt_of_lt_of_le hb h.size) k2
    exact ⟨l1.trans k1, l2⟩⟩

/-- Begin a drawn region: boxes 'bks' stay as they are. -/
theorem drawn {id : Nat} {l : List Oper} {K ret : Act → World → Prop} {exs : List (Nat × (Act → World → Prop))} (bks : List Nat) (hm : P.follows .mixedOrders = true) (h : St n sy ρ a w χ)
    (k : ∀ w1, St n sy ρ a w1 χ → Ev xnone w χ w1 χ → M0 w1 χ w1 χ → Hold w1 χ (filt bks sy) ρ w1 → Dr P l (qs K ret exs) (Hold w1 χ (filt bks sy) ρ) (Array.replicate l.toArray.size false) l.toArray.size a w1) :
    (Code.region id l.toArray true).wp P (qs K ret exs) a w := by
  have h1 : St n sy ρ a { w with drawn := w.drawn + 1 } χ := ⟨h.size, h.defers, h.regs, h.boxes⟩
  exact wp_region_held hm (k { w with drawn := w.drawn + 1 } h1 ⟨rfl, rfl, rfl, Nat.le_refl _, fun _ _ _ => ⟨rfl, rfl⟩⟩ (M0.refl _ _) (Hold.of h1 rfl (M0.refl _ _)))

theorem drawnS {id : Nat} {l : List Oper} {y : Code} {nrm ret : Act → World → Prop} {exs : List (Nat × (Act → World → Prop))} (bks : List Nat) (hm : P.follows .mixedOrders = true) (h : St n sy ρ a w χ)
    (k : ∀ w1, St n sy ρ a w1 χ → Ev xnone w χ w1 χ → M0 w1 χ w1 χ → Hold w1 χ (filt bks sy) ρ w1 → Dr P l (qs (y.wp P (qs nrm ret exs)) ret exs) (Hold w1 χ (filt bks sy) ρ) (Array.replicate l.toArray.size false) l.toArray.size a w1) :
    (Code.seq (Code.region id l.toArray true) y).wp P (qs nrm ret exs) a w := wseq (drawn bks hm h k)

/-- Take some operations that only look. -/
theorem take {nrm ret : Act → World → Prop} {exs : List (Nat × (Act → World → Prop))} {w0 : World} {χ0 : Nat → Nat} {bxs : List (Nat × (Nat × List SV))} {listed listed' : Array Bool} {m fuel : Nat} {sy' : Sy} (TT : TabOK P tab) (is bks ks : List Nat) (h : St n sy ρ a w χ)
    (hns : Region.noSelect all.toArray = true) (hn : Nat.ble n 999 = true) (hb : filt bks sy = bxs) (H : Hold w0 χ0 bxs ρ w) (e : (match symTake tab n all bks is listed sy with | some (l, s) => some (l, (⟨(keep ks [] s).regs, sy.boxes⟩ : Sy)) | none => none) = some (listed', sy')) (hf : m = fuel + is.length)
    (k : ∀ a', St n sy' ρ a' w χ → Dr P all (qs nrm ret exs) (Hold w0 χ0 bxs ρ) listed' fuel a' w) : Dr P all (qs nrm ret exs) (Hold w0 χ0 bxs ρ) listed m a w := by
  subst hb
  subst hf
  cases hs : symTake tab n all bks is listed sy with
  | none => rw [hs] at e; cases e
  | some q =>
    obtain ⟨l, s⟩ := q
    rw [hs] at e
    simp only [Option.some.injEq, Prod.mk.injEq] at e
    obtain ⟨rfl, rfl⟩ := e
    refine symTake_dr TT hns (Nat.le_of_ble_eq_true hn) is hs h H (fun a' h' hbx => ?_)
    refine k a' ?_
    refine h'.sub (fun t sv hq => look_pick hq) (fun id q hq => by rw [hbx]; exact hq)

/-- The one operation that may come up. -/
theorem only {nrm ret : Act → World → Prop} {exs : List (Nat × (Act → World → Prop))} {S : World → Prop} {listed : Array Bool} {fuel : Nat} {o : Oper} (i : Nat) (hr : Region.ready .any all.toArray listed = [i]) (ho : all[i]? = some o)
    (k : wp1 P all.toArray (qs nrm ret exs) o (fun a' w' => S w' ∧ Dr P all (qs nrm ret exs) S (listed.setIfInBounds i true) fuel a' w') a w) : Dr P all (qs nrm ret exs) S listed (fuel + 1) a w := by
  unfold Dr
  refine wpAnyH_all hr (by simp) ?_
  intro j hj
  simp at hj
  subst hj
  unfold wpOp
  rw [List.getElem?_toArray, ho]
  exact k

/-- All have come up. -/
theorem drawnDone {nrm ret : Act → World → Prop} {exs : List (Nat × (Act → World → Prop))} {S : World → Prop} {listed : Array Bool} {fuel : Nat} (hr : Region.ready .any all.toArray listed = []) (k : nrm a w) : Dr P all (qs nrm ret exs) S listed fuel a w :=
  wpAnyH_done hr k fuel

/-- What looks at memory that stays, may be taken first as well. -/
theorem takeV {nrm ret : Act → World → Prop} {exs : List (Nat × (Act → World → Prop))} {S : World → Prop} {listed : Array Bool} {fuel d : Nat} {op : Op} {v : Value} (i : Nat) (h : St n sy ρ a w χ) (hns : Region.noSelect all.toArray = true) (hd : Nat.blt d n = true)
    (hc : (Region.free .any all.toArray listed i && (Region.ready .any all.toArray listed).contains i) = true) (ho : all[i]? = some ⟨some d, op, ty, pos, af, g⟩) (hw : wantedS all sy g = true) (H : S w) (hrun : ∀ w1, S w1 → (execOp a.eval ⟨some d, op, ty, pos, af, g⟩).run P w1 = .ok (.value v) w1)
    (k : ∀ a', St n ⟨(d, V v) :: sy.regs, sy.boxes⟩ ρ a' w χ → Dr P all (qs nrm ret exs) S (listed.setIfInBounds i true) fuel a' w) : Dr P all (qs nrm ret exs) S listed (fuel + 1) a w := by
  rw [Bool.and_eq_true] at hc
  unfold Dr
  exact wpAnyH_take (v := v) (oi := ⟨some d, op, ty, pos, af, g⟩) (by simp [ho]) hns hc.1 hc.2 (fun c a w hq => hq.elim) (.inl ⟨wantedS_wanted h (o := ⟨some d, op, ty, pos, af, g⟩) hw, hrun⟩) H (k _ (h.put (sv := V v) (Nat.le_of_ble_eq_true hd)))

/-- 'xs[i]' as an address, in a drawn region. -/
theorem dindex {α : Type} [Inhabited α] {T : TRep α} {nrm ret : Act → World → Prop} {exs : List (Nat × (Act → World → Prop))} {S : World → Prop} {listed : Array Bool} {fuel : Nat} (TT : TabOK P tab) (q : Nat) {t e : Nat} {x y : Operand} {ad : Option Addr} {xs : List α} {c : Nat} {k : IntKind} {i : Int}
    (h : St n sy ρ a w χ) (hns : Region.noSelect all.toArray = true) (hd : Nat.blt d n = true) (hc : (Region.free .any all.toArray listed q && (Region.ready .any all.toArray listed).contains q) = true) (ho : all[q]? = some ⟨some d, .indexAddr t x y, ty, pos, af, g⟩) (hw : wantedS all sy g = true) (H : S w)
    (hx : evo sy x = some (V (.slice ad xs.length c))) (hy : evo sy y = some (V (.int k i))) (hR : RS T w χ ad xs c) (ht : isSl tab t e = true) (hs : szIs tab e T.n = true) (h0 : 0 ≤ i) (h1 : i < xs.length)
    (kk : ∀ A a', At T w χ A (gi xs i) → St n ⟨(d, V (.pointer (some A))) :: sy.regs, sy.boxes⟩ ρ a' w χ → Dr P all (qs nrm ret exs) S (listed.setIfInBounds q true) fuel a' w) : Dr P all (qs nrm ret exs) S listed (fuel + 1) a w := by
  have hne : xs ≠ [] := by intro e; subst e; simp at h1; omega
  obtain ⟨b, o, cells, e', fr, had, hc0, hh, hel⟩ := hR.cells hne
  obtain ⟨inf, hi, hm⟩ := szIs_i TT hs
  have ex : a.eval x = .slice ad xs.length c := h.evo hx
  have ey : a.eval y = .int k i := h.evo hy
  refine takeV q h hns hd hc ho hw H (v := .pointer (some ⟨b, o + i.toNat * T.n, none⟩)) (fun w1 _ => ?_) (fun a' h' => kk _ a' ⟨b, o + i.toNat * T.n, cells, e', fr, rfl, hc0, hh, hel _ _ (gi_some h0 h1)⟩ h')
  have hr := run_indexAt (P := P) (w := w1) (c := c) (k := k) (isSl_u TT ht) hi hm had h0 h1
  simp [execOp, ex, ey, hr]

/-- One cell at an address, in a drawn region: the address lies in a block that stood at its beginning. -/
theorem dload1 {α : Type} {T : TRep α} {nrm ret : Act → World → Prop} {exs : List (Nat × (Act → World → Prop))} {w0 : World} {χ0 : Nat → Nat} {bxs : List (Nat × (Nat × List SV))} {ρ0 : Nat → Nat} {listed : Array Bool} {fuel : Nat} (TT : TabOK P tab) (q : Nat) {t s : Nat} {A : Addr} {x : α} (h : St n sy ρ a w χ)
    (hns : Region.noSelect all.toArray = true) (hd : Nat.blt d n = true) (hc : (Region.free .any all.toArray listed q && (Region.ready .any all.toArray listed).contains q) = true) (ho : all[q]? = some ⟨some d, .load t (.tmp s), ty, pos, af, g⟩) (hw : wantedS all sy g = true) (H : Hold w0 χ0 bxs ρ0 w)
    (hs : look sy.regs s = some (V (.pointer (some A)))) (hA : At T w χ A x) (hA0 : A.block < w0.heap.size ∧ χ0 A.block = 0) (hn : T.n = 1) (ht : aggIs tab t false = true)
    (k : ∀ v a', T.R w χ [v] x → St n ⟨(d, V v) :: sy.regs, sy.boxes⟩ ρ a' w χ → Dr P all (qs nrm ret exs) (Hold w0 χ0 bxs ρ0) (listed.setIfInBounds q true) fuel a' w) : Dr P all (qs nrm ret exs) (Hold w0 χ0 bxs ρ0) listed (fuel + 1) a w := by
  obtain ⟨b, o, cells, e', fr, rfl, hc0, hh, hel⟩ := hA
  obtain ⟨dd, hdd, hia⟩ := aggIs_d TT ht
  have hlen := T.len hel
  rw [hn] at hlen hel
  have es : a.eval (.tmp s) = .pointer (some ⟨b, o, none⟩) := h.evo (x := .tmp s) hs
  have hb0 := H.2 b hA0.1 hA0.2
  match hl : (cells.toList.drop o).take 1, hlen with
  | [v], _ =>
    rw [hl] at hel
    have hcs : cells[o]? = some v := by
      have := congrArg (fun l => l[0]?) hl
      simpa [List.getElem?_take] using this
    refine takeV q h hns hd hc ho hw H (v := v) (fun w1 H1 => ?_) (fun a' h' => k v a' hel h')
    have hb1 : w1.heap[b]? = some (.cells cells e' fr) := (H1.2 b hA0.1 hA0.2).trans (hb0.symm.trans hh)
    have hcell : w1.cell? ⟨b, o, none⟩ = some v := by
      simp only [World.cell?, hb1]
      simpa using hcs
    simp [execOp, es, Instr.loadAt, Instr.sureAddr, loadVar, run_isAgg hdd, hia, hcell]

/-- A struct or an array at an address, in a drawn region. -/
theorem dloadA {α : Type} {T : TRep α} {nrm ret : Act → World → Prop} {exs : List (Nat × (Act → World → Prop))} {w0 : World} {χ0 : Nat → Nat} {bxs : List (Nat × (Nat × List SV))} {ρ0 : Nat → Nat} {listed : Array Bool} {fuel : Nat} (TT : TabOK P tab) (q : Nat) {t s : Nat} {A : Addr} {x : α} (h : St n sy ρ a w χ)
    (hns : Region.noSelect all.toArray = true) (hd : Nat.blt d n = true) (hc : (Region.free .any all.toArray listed q && (Region.ready .any all.toArray listed).contains q) = true) (ho : all[q]? = some ⟨some d, .load t (.tmp s), ty, pos, af, g⟩) (hw : wantedS all sy g = true) (H : Hold w0 χ0 bxs ρ0 w)
    (hs : look sy.regs s = some (V (.pointer (some A)))) (hA : At T w χ A x) (hA0 : A.block < w0.heap.size ∧ χ0 A.block = 0) (ht : aggIs tab t true = true) (hsz : szIs tab t T.n = true)
    (k : ∀ cs a', T.R w χ cs x → St n ⟨(d, V (.agg cs.toArray)) :: sy.regs, sy.boxes⟩ ρ a' w χ → Dr P all (qs nrm ret exs) (Hold w0 χ0 bxs ρ0) (listed.setIfInBounds q true) fuel a' w) : Dr P all (qs nrm ret exs) (Hold w0 χ0 bxs ρ0) listed (fuel + 1) a w := by
  obtain ⟨b, o, cells, e', fr, rfl, hc0, hh, hel⟩ := hA
  obtain ⟨dd, hdd, hia⟩ := aggIs_d TT ht
  obtain ⟨inf, hi, hm⟩ := szIs_i TT hsz
  have hlen := T.len hel
  have es : a.eval (.tmp s) = .pointer (some ⟨b, o, none⟩) := h.evo (x := .tmp s) hs
  have hb0 := H.2 b hA0.1 hA0.2
  refine takeV q h hns hd hc ho hw H (v := .agg ((cells.toList.drop o).take T.n).toArray) (fun w1 H1 => ?_) (fun a' h' => k _ a' hel h')
  have hb1 : w1.heap[b]? = some (.cells cells e' fr) := (H1.2 b hA0.1 hA0.2).trans (hb0.symm.trans hh)
  have hl := run_loadCells_list (P := P) w1 ⟨b, o, none⟩ ((cells.toList.drop o).take T.n) (fun j v hj => by
    rw [Addr.add_lit]
    simp only [World.cell?, hb1]
    rw [List.getElem?_take] at hj
    split at hj
    · simpa [Nat.add_comm] using hj
    · cases hj)
  rw [hlen] at hl
  simp [execOp, es, Instr.loadAt, Instr.sureAddr, loadVar, run_isAgg hdd, hia, run_sizeOf hi, hm, hl]

theorem At.here {α : Type} {T : TRep α} {A : Addr} {x : α} (h : At T w χ A x) : A.block < w.heap.size ∧ χ A.block = 0 := by
  obtain ⟨b, o, cells, e', fr, rfl, hc0, hh, hel⟩ := h
  exact ⟨lt_heap hh, hc0⟩

section dlook
variable {nrm ret : Act → World → Prop} {exs : List (Nat × (Act → World → Prop))} {S : World → Prop} {listed : Array Bool} {fuel : Nat}

theorem dquo (i : Nat) {x y : Operand} {t yt : Nat} {k : IntKind} {p q : Int} (h : St n sy ρ a w χ) (hns : Region.noSelect all.toArray = true) (hd : Nat.blt d n = true) (hc : (Region.free .any all.toArray listed i && (Region.ready .any all.toArray listed).contains i) = true) (ho : all[i]? = some ⟨some d, .binOp .quo t x y yt, ty, pos, af, g⟩) (hw : wantedS all sy g = true) (H : S w)
    (hx : evo sy x = some (V (.int k p))) (hy : evo sy y = some (V (.int k q))) (hq : q ≠ 0) (kk : ∀ a', St n ⟨(d, V (.int k (k.wrap (p.tdiv q)))) :: sy.regs, sy.boxes⟩ ρ a' w χ → Dr P all (qs nrm ret exs) S (listed.setIfInBounds i true) fuel a' w) : Dr P all (qs nrm ret exs) S listed (fuel + 1) a w := by
  refine takeV i h hns hd hc ho hw H (fun w1 _ => ?_) kk
  have ex : a.eval x = .int k p := h.evo hx
  have ey : a.eval y = .int k q := h.evo hy
  have hg : (eqGuard .quo t x y (.int k p) (.int k q)).run P w1 = .ok () w1 := run_eqGuard_int _ _ _ _ _ _ _
  simp [execOp, ex, ey, binOp, Op.intDiv, hq, hg]

theorem drem (i : Nat) {x y : Operand} {t yt : Nat} {k : IntKind} {p q : Int} (h : St n sy ρ a w χ) (hns : Region.noSelect all.toArray = true) (hd : Nat.blt d n = true) (hc : (Region.free .any all.toArray listed i && (Region.ready .any all.toArray listed).contains i) = true) (ho : all[i]? = some ⟨some d, .binOp .rem t x y yt, ty, pos, af, g⟩) (hw : wantedS all sy g = true) (H : S w)
    (hx : evo sy x = some (V (.int k p))) (hy : evo sy y = some (V (.int k q))) (hq : q ≠ 0) (kk : ∀ a', St n ⟨(d, V (.int k (p.tmod q))) :: sy.regs, sy.boxes⟩ ρ a' w χ → Dr P all (qs nrm ret exs) S (listed.setIfInBounds i true) fuel a' w) : Dr P all (qs nrm ret exs) S listed (fuel + 1) a w := by
  refine takeV i h hns hd hc ho hw H (fun w1 _ => ?_) kk
  have ex : a.eval x = .int k p := h.evo hx
  have ey : a.eval y = .int k q := h.evo hy
  have hg : (eqGuard .rem t x y (.int k p) (.int k q)).run P w1 = .ok () w1 := run_eqGuard_int _ _ _ _ _ _ _
  simp [execOp, ex, ey, binOp, Op.intDiv, hq, hg]

theorem dstructEq (i : Nat) (TT : TabOK P tab) {op : BinOp} {x y : Operand} {t yt : Nat} {xs ys : List Value} {r b : Bool} (h : St n sy ρ a w χ) (hns : Region.noSelect all.toArray = true) (hd : Nat.blt d n = true) (hc : (Region.free .any all.toArray listed i && (Region.ready .any all.toArray listed).contains i) = true) (ho' : all[i]? = some ⟨some d, .binOp op t x y yt, ty, pos, af, g⟩) (hw : wantedS all sy g = true) (H : S w)
    (hx : evo sy x = some (V (.agg xs.toArray))) (hy : evo sy y = some (V (.agg ys.toArray))) (hf : flatS P t xs = true) (hn : nf tab t = some xs.length) (he : eqCells xs ys = some r) (ho : (match op with | .eql => some r | .neq => some (!r) | _ => none) = some b)
    (kk : ∀ a', St n ⟨(d, V (.bool b)) :: sy.regs, sy.boxes⟩ ρ a' w χ → Dr P all (qs nrm ret exs) S (listed.setIfInBounds i true) fuel a' w) : Dr P all (qs nrm ret exs) S listed (fuel + 1) a w := by
  refine takeV i h hns hd hc ho' hw H (fun w1 _ => ?_) kk
  have ex : a.eval x = .agg xs.toArray := h.evo hx
  have ey : a.eval y = .agg ys.toArray := h.evo hy
  obtain ⟨fs, hu, h1, h2, h3⟩ := flatS_u hf
  have hlen : ∀ fs, P.underlying t = some (.struct fs) → xs.length = fs.size := by
    intro fs' hu'
    unfold nf at hn
    split at hn
    · rename_i ftab htab
      obtain ⟨i, dd, z, hi, hdd, hz, hs', hby, hzc, hagg, hst, _⟩ := tyS_parts (TT _ _ htab)
      obtain ⟨l, rfl, hm⟩ := hst _ rfl
      rw [hdd] at hu'
      cases hu'
      have := mapM_len hm
      simp at hn
      rw [← hn, this, Array.length_toList]
    · cases hn
  have hq := run_structEq (w := w1) hf he hlen
  cases op with
  | eql =>
    simp at ho; subst ho
    simp only [execOp, ex, ey, Sem.run_bind, run_eqGuard_agg w1 .eql t x y _ _ h2, Result.andThen_ok, run_eql_struct, hq, Sem.run_pure]
  | neq =>
    have hb : b = !r := (Option.some.inj ho).symm
    subst hb
    simp only [execOp, ex, ey, Sem.run_bind, run_eqGuard_agg w1 .neq t x y _ _ h2, Result.andThen_ok, run_neq_struct, hq, Sem.run_pure]
  | _ => simp at ho

theorem dfieldA {α β : Type} {T : TRep α} {TF : TRep β} (i : Nat) (TT : TabOK P tab) {t s f off fsz ft : Nat} {A : Addr} {x : α} {y : β} (h : St n sy ρ a w χ) (hns : Region.noSelect all.toArray = true) (hd : Nat.blt d n = true) (hc : (Region.free .any all.toArray listed i && (Region.ready .any all.toArray listed).contains i) = true) (ho : all[i]? = some ⟨some d, .fieldAddr t (.tmp s) f, ty, pos, af, g⟩) (hw : wantedS all sy g = true) (H : S w)
    (hs : look sy.regs s = some (V (.pointer (some A)))) (hA : At T w χ A x)
    (ht : (match look tab t with | some ⟨_, _, _, _, .struct fs⟩ => fs[f]? | _ => none) = some (off, fsz, ft)) (hsz : Nat.beq fsz TF.n = true) (hle : Nat.ble (off + TF.n) T.n = true) (hF : ∀ cs, T.R w χ cs x → TF.R w χ ((cs.drop off).take TF.n) y)
    (k : ∀ A' a', At TF w χ A' y → A'.block = A.block → St n ⟨(d, V (.pointer (some A'))) :: sy.regs, sy.boxes⟩ ρ a' w χ → Dr P all (qs nrm ret exs) S (listed.setIfInBounds i true) fuel a' w) : Dr P all (qs nrm ret exs) S listed (fuel + 1) a w := by
  obtain ⟨b, o, cells, e', fr, rfl, hc0, hh, hel⟩ := hA
  have es : a.eval (.tmp s) = .pointer (some ⟨b, o, none⟩) := h.evo (x := .tmp s) hs
  split at ht
  · rename_i fs htab
    obtain ⟨i', dd, z, hi, hdd, hz, hs', hby, hzc, hagg, hst, _⟩ := tyS_parts (TT _ _ htab)
    obtain ⟨l, rfl, hm⟩ := hst _ rfl
    obtain ⟨fd, hfd, hfe⟩ := mapM_get hm f _ ht
    simp only [Option.map_eq_some_iff, Prod.mk.injEq] at hfe
    obtain ⟨j, hj, rfl, rfl, rfl⟩ := hfe
    have hjs := Nat.eq_of_beq_eq_true hsz
    have hne : ¬ j.size = 0 := by have := TF.pos; omega
    have hle' := Nat.le_of_ble_eq_true hle
    simp only [Array.getElem?_toList] at hfd
    refine takeV i h hns hd hc ho hw H (v := .pointer (some ⟨b, o + fd.offset, none⟩)) (fun w1 _ => ?_) (fun a' h' => k _ a' ⟨b, o + fd.offset, cells, e', fr, rfl, hc0, hh, ?_⟩ rfl h')
    · simp [execOp, es, Instr.fieldAt, run_underlying hdd, hfd, Instr.sureAddr, fieldPlace, run_sizeOf hj, hne, Addr.add_lit]
    · have := hF _ hel
      rw [List.drop_take, List.take_take, List.drop_drop, Nat.min_eq_left (by omega)] at this
      exact this
  · cases ht

theorem darrA {α β : Type} {T : TRep α} {TF : TRep β} (i : Nat) (TT : TabOK P tab) {t s m e esz j : Nat} {y : Operand} {k0 : IntKind} {A : Addr} {x : α} {z : β} (h : St n sy ρ a w χ) (hns : Region.noSelect all.toArray = true) (hd : Nat.blt d n = true) (hc : (Region.free .any all.toArray listed i && (Region.ready .any all.toArray listed).contains i) = true) (ho : all[i]? = some ⟨some d, .indexAddr t (.tmp s) y, ty, pos, af, g⟩) (hw : wantedS all sy g = true) (H : S w)
    (hs : look sy.regs s = some (V (.pointer (some A)))) (hy : evo sy y = some (V (.int k0 (Int.ofNat j)))) (hA : At T w χ A x)
    (ht : (match look tab t with | some ⟨_, _, _, _, .array m' e' es'⟩ => some (m', e', es') | _ => none) = some (m, e, esz)) (hj : Nat.blt j m = true) (hsz : Nat.beq esz TF.n = true) (hle : Nat.ble (j * esz + TF.n) T.n = true) (hF : ∀ cs, T.R w χ cs x → TF.R w χ ((cs.drop (j * esz)).take TF.n) z)
    (k : ∀ A' a', At TF w χ A' z → A'.block = A.block → St n ⟨(d, V (.pointer (some A'))) :: sy.regs, sy.boxes⟩ ρ a' w χ → Dr P all (qs nrm ret exs) S (listed.setIfInBounds i true) fuel a' w) : Dr P all (qs nrm ret exs) S listed (fuel + 1) a w := by
  obtain ⟨b, o, cells, e', fr, rfl, hc0, hh, hel⟩ := hA
  have es : a.eval (.tmp s) = .pointer (some ⟨b, o, none⟩) := h.evo (x := .tmp s) hs
  have ey : a.eval y = .int k0 (Int.ofNat j) := h.evo hy
  split at ht
  · rename_i m' e'' es' htab
    simp only [Option.some.injEq, Prod.mk.injEq] at ht
    obtain ⟨rfl, rfl, rfl⟩ := ht
    obtain ⟨i', dd, zv, hi, hdd, hz, hs', hby, hzc, hagg, _, har, _⟩ := tyS_parts (TT _ _ htab)
    obtain ⟨rfl, inf, hinf, rfl⟩ := har _ _ _ rfl
    have hlt : j < m' := Nat.le_of_ble_eq_true hj
    have hle' := Nat.le_of_ble_eq_true hle
    refine takeV i h hns hd hc ho hw H (v := .pointer (some ⟨b, o + j * inf.size, none⟩)) (fun w1 _ => ?_) (fun a' h' => k _ a' ⟨b, o + j * inf.size, cells, e', fr, rfl, hc0, hh, ?_⟩ rfl h')
    · simp [execOp, es, ey, Instr.indexAt, asIntOf, run_underlying hdd, Instr.sureAddr, hlt, run_sizeOf hinf, Addr.add_lit]
    · have := hF _ hel
      rw [List.drop_take, List.take_take, List.drop_drop, Nat.min_eq_left (by omega)] at this
      exact this
  · cases ht
end dlook

/-- A box that is made, or written, in a drawn region. -/
theorem box1 (TT : TabOK P tab) {t : Nat} {sy' : Sy} (h : St n sy ρ a w χ) (hw : wantedS all sy g = true) (hd : Nat.blt d n = true) (hn : Nat.ble n 999 = true) (e : symO tab true sy ⟨some d, .alloc t, ty, pos, af, g⟩ = some sy')
    (k : ∀ ρ' a' w' χ', St n sy' ρ' a' w' χ' → Ev xbox w χ w' χ' → (∀ id, id ≠ d + 1 → ρ' id = ρ id) → K a' w') : wp1 P all.toArray Q ⟨some d, .alloc t, ty, pos, af, g⟩ K a w := by
  refine wp1_wanted (wantedS_wanted h (o := ⟨some d, .alloc t, ty, pos, af, g⟩) hw) ?_
  unfold symO at e
  simp only [symV, cond_true] at e
  cases ht : look tab t with
  | none => simp [ht] at e
  | some tys =>
    simp only [ht] at e
    obtain ⟨i, dd, zv, hi, hdd, hz, hs, hby, hzc, hagg, _⟩ := tyS_parts (TT _ _ ht)
    have hdn : d < n := Nat.le_of_ble_eq_true hd
    have hn' := Nat.le_of_ble_eq_true hn
    obtain ⟨s1, s2⟩ := h.box hdn (by simp [xbox]; omega) e (by intro c hc; obtain ⟨y, _, rfl⟩ := List.mem_map.1 hc; rfl)
    have hr : (execOp a.eval ⟨some d, .alloc t, ty, pos, af, g⟩).run P w = .ok (.value (.pointer (some ⟨w.heap.size, 0, none⟩))) (w.alloc (.cells ((tys.zero.map V).map (conc ρ)).toArray t)) := by
      rw [map_conc_V]
      have hc' : zv.cells = tys.zero.toArray := by rw [← hzc]
      simp [execOp, Instr.alloc, newVar, newRow, zeroValue, typeInfo, hi, hz, hc']
    unfold Oper.wp
    rw [hr]
    simp only [Oper.upon]
    exact k _ _ _ _ s1 s2 (fun id hne => if_neg hne)

theorem store1 (TT : TabOK P tab) {t : Nat} {x y : Operand} {sy' : Sy} (h : St n sy ρ a w χ) (hw : wantedS all sy g = true) (hn : Nat.ble n 999 = true) (e : symO tab true sy ⟨none, .store t x y, ty, pos, af, g⟩ = some sy')
    (k : ∀ a' w' χ', St n sy' ρ a' w' χ' → Ev xbox w χ w' χ' → K a' w') : wp1 P all.toArray Q ⟨none, .store t x y, ty, pos, af, g⟩ K a w := by
  refine wp1_wanted (wantedS_wanted h (o := ⟨none, .store t x y, ty, pos, af, g⟩) hw) ?_
  unfold symO at e
  simp only [symV, cond_true] at e
  split at e
  · rename_i id off v tys hx hy ht
    split at e
    · rename_i bt cs hb
      obtain ⟨hc, rfl⟩ := bif_some e
      simp only [Bool.and_eq_true, List.all_eq_true] at hc
      obtain ⟨⟨c1, c2⟩, c3⟩ := hc
      have c1 := Nat.eq_of_beq_eq_true c1
      have c2 := Nat.le_of_ble_eq_true c2
      obtain ⟨i, dd, zv, hi, hdd, hz, hs, hby, hzc, hagg, _⟩ := tyS_parts (TT _ _ ht)
      obtain ⟨s1, s2⟩ := h.wr (off := off) (new := cellsOf v) hb
      obtain ⟨_, _, hrow⟩ := h.boxes id _ hb
      have hcl := cellsOf_conc (ρ := ρ) v
      have hsz : (conc ρ v).cells.size = i.size := by rw [← Array.length_toList, hcl, List.length_map, hs, c1]
      have hone : ∀ u ∈ (cellsOf v).map (conc ρ), u.oneCell' = true := by
        intro u hu
        obtain ⟨c, hc, rfl⟩ := List.mem_map.1 hu
        have := c3 c hc
        match c, this with
        | .s (.v (.bool _)), _ | .s (.v (.int _ _)), _ | .s (.v (.float _ _)), _ | .s (.v (.complex _ _ _)), _ | .s (.v (.string _)), _ | .s (.v (.pointer _)), _ | .s (.v (.slice _ _ _)), _ | .s (.v (.map _)), _ | .s (.v (.chan _)), _
        | .s (.v (.func _ _ _)), _ | .s (.v .nilFunc), _ | .s (.v (.iface _ _)), _ | .s (.v .nilIface), _ => rfl
        | .s (.p _ _), _ => rfl
        | .f _ _ _, _ => rfl
      have hst := run_storeCells_at P (ρ id) off bt ((cellsOf v).map (conc ρ)) 0 _ w hrow (by simp; omega) hone
      simp only [Nat.add_zero, List.length_map] at hst
      have hr : (execOp a.eval ⟨none, .store t x y, ty, pos, af, g⟩).run P w = .ok .skip (w.setRow (ρ id) ((cs.map (conc ρ)).take off ++ (cellsOf v).map (conc ρ) ++ (cs.map (conc ρ)).drop (off + (cellsOf v).length)).toArray) := by
        have hsv : (storeVar t ⟨ρ id, off, none⟩ (conc ρ v)).run P w = .ok () (w.setRow (ρ id) ((cs.map (conc ρ)).take off ++ (cellsOf v).map (conc ρ) ++ (cs.map (conc ρ)).drop (off + (cellsOf v).length)).toArray) := by
          simp only [storeVar, Sem.run_bind, run_sizeOf hi, Result.andThen_ok, hsz, ne_eq, not_true_eq_false, if_false, hcl]
          exact hst
        have hxe : a.eval x = .pointer (some ⟨ρ id, off, none⟩) := h.evo hx
        simp only [execOp, hxe, h.evo hy, Instr.storeAt, Instr.sureAddr, Sem.run_bind, Sem.run_pure, Result.andThen_ok, hsv]
      unfold Oper.wp
      rw [hr]
      simp only [Oper.upon]
      exact k _ _ _ s1 s2
    · cases e
  · cases e

theorem andH {A B : Prop} (a : A) (k : A → B) : A ∧ B := ⟨a, k a⟩

theorem conc_same {ρ' : Nat → Nat} {k : Nat} (hr : ∀ id, id ≠ k → ρ' id = ρ id) {c : SV} (hc : names k c = false) : conc ρ' c = conc ρ c := by
  have one : ∀ x : S0, names0 k x = false → conc0 ρ' x = conc0 ρ x := by
    intro x hx
    cases x with
    | v x => rfl
    | p i off =>
      have : i ≠ k := fun e => by subst e; simp [names0] at hx
      simp [conc0, hr i this]
  have many : ∀ l : List S0, l.any (names0 k) = false → l.map (conc0 ρ') = l.map (conc0 ρ) := by
    intro l hl
    refine List.map_congr_left fun x hx => one x ?_
    have := List.any_eq_false.1 hl x hx
    simpa using this
  cases c with
  | s x => exact one x hc
  | f fn l m =>
    simp only [names, Bool.or_eq_false_iff] at hc
    simp [conc, many l hc.1, many m hc.2]

theorem Hold.rho {bxs : List (Nat × (Nat × List SV))} {w0 : World} {χ0 : Nat → Nat} {ρ' : Nat → Nat} {k : Nat} (H : Hold w0 χ0 bxs ρ' w) (hr : ∀ id, id ≠ k → ρ' id = ρ id) (hb : noBox k ⟨[], bxs⟩ = true) : Hold w0 χ0 bxs ρ w := by
  refine ⟨fun id q hq => ?_, H.2⟩
  simp only [noBox, List.all_nil, Bool.true_and, List.all_eq_true] at hb
  have h1 := hb _ (look_mem hq)
  simp only [Bool.and_eq_true, List.all_eq_true, Bool.not_eq_true'] at h1
  have hne : id ≠ k := by intro e; have := h1.1; rw [e] at this; simp at this
  have h2 := H.1 id q hq
  rw [hr id hne] at h2
  rw [h2, List.map_congr_left (fun c hc => conc_same hr (h1.2 c hc))]

/-! ### Boxes handed in: what a closure captures, what a pointer leads to -/

/-- A box of its own block: colour, type, what it holds. -/
def Cell (w : World) (χ : Nat → Nat) (b col t : Nat) (vals : List Value) : Prop := χ b = col ∧ w.heap[b]? = some (.cells vals.toArray t (0, 0))

theorem Cell.mv {w w' : World} {χ χ' : Nat → Nat} {b col t : Nat} {vals : List Value} {p : Nat → Bool} (h : Cell w χ b col t vals) (e : Ev p w χ w' χ') (hp : p col = false) : Cell w' χ' b col t vals := by
  obtain ⟨h1, h2⟩ := h
  obtain ⟨k1, k2⟩ := e.keep b (lt_heap h2) (by rw [h1]; exact hp)
  exact ⟨k2.trans h1, k1.trans h2⟩

theorem Cell.map {w : World} {χ : Nat → Nat} {b i j t : Nat} {vals : List Value} {f : Nat → Nat} (h : Cell w χ b i t vals) (hf : f i = j) : Cell w (fun b => f (χ b)) b j t vals :=
  ⟨by show f (χ b) = j; rw [h.1, hf], h.2⟩

theorem Cell.out {w : World} {χ χ' : Nat → Nat} {b b' col i t : Nat} {vals : List Value} {f : Nat → Nat} (h : Cell w χ b col t vals) (hC : ∀ b, χ b ≠ 0 → χ b ≠ 1000 → χ' b = f (χ b)) (hx : xbox col = true) (hf : f col = i) (hb : b = b') : Cell w χ' b' i t vals := by
  subst hb
  obtain ⟨h1, h2⟩ := h
  simp [xbox] at hx
  exact ⟨by rw [hC b (by omega) (by omega), h1, hf], h2⟩

theorem St.cell {n : Nat} {sy : Sy} {ρ : Nat → Nat} {a : Act} {w : World} {χ : Nat → Nat} (h : St n sy ρ a w χ) {id t : Nat} {cs : List SV} (hq : look sy.boxes id = some (t, cs)) : Cell w χ (ρ id) id t (cs.map (conc ρ)) := by
  obtain ⟨h1, _, h3⟩ := h.boxes id _ hq
  exact ⟨h1, h3⟩

theorem St.addbox {n : Nat} {sy : Sy} {ρ : Nat → Nat} {a : Act} {w : World} {χ : Nat → Nat} (h : St n sy ρ a w χ) {id t : Nat} {cs : List SV} (hx : xbox id = true) (hc : Cell w χ (ρ id) id t (cs.map (conc ρ))) :
    St n ⟨sy.regs, (id, (t, cs)) :: sy.boxes⟩ ρ a w χ :=
  ⟨h.size, h.defers, h.regs, fun id' q hq => by
    rcases look_cons hq with ⟨rfl, rfl⟩ | ⟨_, hq'⟩
    · exact ⟨hc.1, hx, hc.2⟩
    · exact h.boxes id' q hq'⟩

theorem look_filterP {α : Type} {f : Nat → Bool} : ∀ {l : List (Nat × α)} {id : Nat} {q : α}, look (l.filter (fun q => f q.1)) id = some q → f id = true ∧ look l id = some q
  | [], _, _, h => by cases h
  | (k, v) :: l, id, q, h => by
    rw [List.filter_cons] at h
    split at h
    · rename_i hk
      rcases look_cons h with ⟨rfl, rfl⟩ | ⟨hne, h'⟩
      · exact ⟨hk, by simp [look]⟩
      · obtain ⟨h1, h2⟩ := look_filterP h'
        refine ⟨h1, ?_⟩
        simp only [look]
        cases hb : Nat.beq k id with
        | true => exact absurd (Nat.eq_of_beq_eq_true hb) hne
        | false => exact h2
    · rename_i hk
      obtain ⟨h1, h2⟩ := look_filterP h
      refine ⟨h1, ?_⟩
      simp only [look]
      cases hb : Nat.beq k id with
      | true =>
        have := Nat.eq_of_beq_eq_true hb
        subst this
        simp [h1] at hk
      | false => exact h2

theorem St.evp {n : Nat} {sy : Sy} {ρ : Nat → Nat} {a : Act} {w : World} {χ : Nat → Nat} {p : Nat → Bool} (h : St n sy ρ a w χ) {w' : World} {χ' : Nat → Nat} (e : Ev p w χ w' χ') : St n ⟨sy.regs, sy.boxes.filter (fun q => !p q.1)⟩ ρ a w' χ' :=
  ⟨h.size, h.defers, h.regs, fun id q hq => by
    obtain ⟨hp, hq'⟩ := look_filterP (f := fun c => !p c) hq
    obtain ⟨h1, h2, h3⟩ := h.boxes id q hq'
    have hp' : p id = false := by simpa using hp
    obtain ⟨k1, k2⟩ := e.keep _ (lt_heap h3) (by rw [h1]; exact hp')
    exact ⟨k2.trans h1, h2, k1.trans h3⟩⟩

/-- Colours at the beginning: each that is handed in gets the call's own; the others are foreign. -/
def f0of : List (Nat × Nat) → Nat → Nat
  | [], c => bif Nat.beq c 0 then 0 else 1000
  | (i, j) :: l, c => bif Nat.beq c i then j else f0of l c
def f1of : List (Nat × Nat) → Nat → Nat
  | [], c => bif Nat.beq c 0 then 0 else 1000
  | (i, j) :: l, c => bif Nat.beq c j then i else f1of l c
def pR (l : List Nat) (c : Nat) : Bool := l.any (Nat.beq c)
/-- Colours of what is handed in. -/
def Apart (l : List Nat) : Prop := l.Nodup ∧ ∀ c ∈ l, c ≠ 0 ∧ c ≠ 1000

theorem f0of_zero : ∀ {l : List (Nat × Nat)} {c : Nat}, l.all (fun q => Nat.blt 0 q.2) = true → f0of l c = 0 → c = 0
  | [], c, _, h => by
    simp only [f0of] at h
    cases hb : Nat.beq c 0 with
    | true => exact Nat.eq_of_beq_eq_true hb
    | false => simp [hb] at h
  | (i, j) :: l, c, hl, h => by
    simp only [List.all_cons, Bool.and_eq_true] at hl
    simp only [f0of] at h
    cases hb : Nat.beq c i with
    | true =>
      simp only [hb, cond_true] at h
      have := Nat.le_of_ble_eq_true hl.1
      omega
    | false =>
      simp only [hb, cond_false] at h
      exact f0of_zero hl.2 h

theorem f0of_else : ∀ {l : List (Nat × Nat)} {c : Nat}, pR (l.map (·.1)) c = false → f0of l c = 0 ∨ f0of l c = 1000
  | [], c, _ => by
    simp only [f0of]
    cases Nat.beq c 0 <;> simp
  | (i, j) :: l, c, h => by
    simp only [pR, List.map_cons, List.any_cons, Bool.or_eq_false_iff] at h
    simp only [f0of, h.1, cond_false]
    exact f0of_else h.2

theorem f0of_0 : ∀ {l : List (Nat × Nat)}, (∀ q ∈ l, q.1 ≠ 0) → f0of l 0 = 0
  | [], _ => rfl
  | (i, j) :: l, h => by
    simp only [f0of]
    cases hb : Nat.beq 0 i with
    | true => exact absurd (Nat.eq_of_beq_eq_true hb).symm (h _ (List.mem_cons_self ..))
    | false => exact f0of_0 (fun q hq => h q (List.mem_cons_of_mem _ hq))

theorem f0of_at : ∀ {l : List (Nat × Nat)} (k : Nat) {i j : Nat}, (l.map (·.1)).Nodup → l[k]? = some (i, j) → f0of l i = j
  | [], k, i, j, _, h => by simp at h
  | (i', j') :: l, 0, i, j, _, h => by
    simp at h
    obtain ⟨rfl, rfl⟩ := h
    simp [f0of]
  | (i', j') :: l, k + 1, i, j, hn, h => by
    simp only [List.map_cons, List.nodup_cons] at hn
    simp only [List.getElem?_cons_succ] at h
    have hm : i ∈ l.map (·.1) := List.mem_map.2 ⟨_, List.mem_of_getElem? h, rfl⟩
    have hne : Nat.beq i i' = false := by
      cases hb : Nat.beq i i' with
      | false => rfl
      | true => exact absurd ((Nat.eq_of_beq_eq_true hb) ▸ hm) hn.1
    simp only [f0of, hne, cond_false]
    exact f0of_at k hn.2 h

/-- What stays of the world at the beginning, where boxes are handed in. -/
structure OldR (f0 : Nat → Nat) (w0 : World) (χc : Nat → Nat) (w : World) (χ : Nat → Nat) : Prop where
  os : w.os = w0.os
  tape : w.tape = w0.tape
  output : w.output = w0.output
  size : w0.heap.size ≤ w.heap.size
  keep : ∀ b, b < w0.heap.size → (f0 (χc b) = 0 ∨ f0 (χc b) = 1000) → w.heap[b]? = w0.heap[b]? ∧ χ b = f0 (χc b)

theorem OldR.mv {f0 : Nat → Nat} {p : Nat → Bool} {w0 w w' : World} {χc χ χ' : Nat → Nat} (h : OldR f0 w0 χc w χ) (e : Ev p w χ w' χ') (h0 : p 0 = false) (h1 : p 1000 = false) : OldR f0 w0 χc w' χ' :=
  ⟨e.os.trans h.os, e.tape.trans h.tape, e.output.trans h.output, Nat.le_trans h.size e.size, fun b hb hc => by
    obtain ⟨k1, k2⟩ := h.keep b hb hc
    have : p (χ b) = false := by rw [k2]; rcases hc with hc | hc <;> rw [hc] <;> assumption
    obtain ⟨l1, l2⟩ := e.keep b (Nat.lt_of_lt_of_le hb h.size) this
    exact ⟨l1.trans k1, l2.trans k2⟩⟩

theorem OldR.start (f0 : Nat → Nat) (w : World) (χc : Nat → Nat) : OldR f0 w χc w (fun b => f0 (χc b)) := ⟨rfl, rfl, rfl, Nat.le_refl _, fun _ _ _ => ⟨rfl, rfl⟩⟩

theorem OldR.leave {f0 : Nat → Nat} {p : Nat → Bool} {w0 w : World} {χc χ : Nat → Nat} (h : OldR f0 w0 χc w χ) (hf0 : ∀ c, f0 c = 0 → c = 0) (hp : ∀ c, p c = false → f0 c = 0 ∨ f0 c = 1000) (f : Nat → Nat) (h0 : f 0 = 0) :
    ∃ χ', Ev p w0 χc w χ' ∧ M0 w χ w χ' ∧ (∀ b, χ b ≠ 0 → χ b ≠ 1000 → χ' b = f (χ b)) := by
  refine ⟨fun b => if b < w0.heap.size ∧ (f0 (χc b) = 0 ∨ f0 (χc b) = 1000) then χc b else f (χ b), ⟨h.os, h.tape, h.output, h.size, fun b hb hpb => ⟨(h.keep b hb (hp _ hpb)).1, by simp [hb, hp _ hpb]⟩⟩, ⟨Nat.le_refl _, fun b _ hz => ⟨rfl, ?_⟩⟩, ?_⟩
  · show (if b < w0.heap.size ∧ (f0 (χc b) = 0 ∨ f0 (χc b) = 1000) then χc b else f (χ b)) = 0
    split
    · rename_i hb
      have := (h.keep b hb.1 hb.2).2
      rw [hz] at this
      exact hf0 _ this.symm
    · rw [hz, h0]
  · intro b hb hb1
    have : ¬ (b < w0.heap.size ∧ (f0 (χc b) = 0 ∨ f0 (χc b) = 1000)) := by
      intro hlt
      have := (h.keep b hlt.1 hlt.2).2
      rcases hlt.2 with e | e <;> rw [e] at this
      · exact hb this
      · exact hb1 this
    simp [this]

def svSlots : Nat → List SV → List (Nat × SV)
  | _, [] => []
  | i, v :: l => (i, v) :: svSlots (i + 1) l

theorem look_svSlots : ∀ (l : List SV) (i t : Nat) (sv : SV), look (svSlots i l) t = some sv → i ≤ t ∧ l[t - i]? = some sv
  | [], _, _, _, h => by cases h
  | x :: l, i, t, sv, h => by
    rcases look_cons h with ⟨rfl, rfl⟩ | ⟨hne, h'⟩
    · exact ⟨Nat.le_refl _, by simp⟩
    · obtain ⟨h2, h3⟩ := look_svSlots l (i + 1) t sv h'
      refine ⟨by omega, ?_⟩
      rw [show t - i = (t - (i + 1)) + 1 by omega]
      simpa using h3

/-- The boxes at the beginning. -/
def BoxesOK (l : List (Nat × (Nat × List SV))) (ρ : Nat → Nat) (w : World) (χ : Nat → Nat) : Prop :=
  ∀ id q, look l id = some q → xbox id = true ∧ Cell w χ (ρ id) id q.1 (q.2.map (conc ρ))
theorem BoxesOK.nil {ρ : Nat → Nat} {w : World} {χ : Nat → Nat} : BoxesOK [] ρ w χ := fun _ _ h => by cases h
theorem BoxesOK.cons {l : List (Nat × (Nat × List SV))} {ρ : Nat → Nat} {w : World} {χ : Nat → Nat} {id t : Nat} {cs : List SV} (hx : xbox id = true) (hc : Cell w χ (ρ id) id t (cs.map (conc ρ))) (h : BoxesOK l ρ w χ) : BoxesOK ((id, (t, cs)) :: l) ρ w χ := by
  intro id' q hq
  rcases look_cons hq with ⟨rfl, rfl⟩ | ⟨_, hq'⟩
  · exact ⟨hx, hc⟩
  · exact h id' q hq'

def Pin (l : List (Nat × Nat)) (ρ : Nat → Nat) : Prop := ∀ q ∈ l, ρ q.1 = q.2
theorem Pin.mv {l : List (Nat × Nat)} {ρ ρ' : Nat → Nat} {n : Nat} (h : Pin l ρ) (hr : ∀ id, n < id → ρ' id = ρ id) (hl : l.all (fun q => Nat.blt n q.1) = true) : Pin l ρ' := by
  intro q hq
  rw [hr _ (Nat.le_of_ble_eq_true (List.all_eq_true.1 hl q hq))]
  exact h q hq
theorem Pin.mv1 {l : List (Nat × Nat)} {ρ ρ' : Nat → Nat} {k : Nat} (h : Pin l ρ) (hr : ∀ id, id ≠ k → ρ' id = ρ id) (hl : l.all (fun q => !Nat.beq q.1 k) = true) : Pin l ρ' := by
  intro q hq
  have h1 := List.all_eq_true.1 hl q hq
  rw [hr _ (by intro e; rw [e] at h1; simp at h1)]
  exact h q hq
theorem Pin.at {l : List (Nat × Nat)} {ρ : Nat → Nat} (h : Pin l ρ) (k : Nat) {i b : Nat} (hk : l[k]? = some (i, b)) : ρ i = b := h _ (List.mem_of_getElem? hk)

theorem enterR {P : Program} {f : FuncId} {F : Func} {c : Code} (hf : P.funcs[f]? = some F) (hb : F.body = some c) {vals : List Value} {w : World} {χ : Nat → Nat} {post : World → (Nat → Nat) → Value → Prop} {p : Nat → Bool} (f0 : Nat → Nat) (ρ0 : Nat → Nat) {args : List SV} {bxs : List (Nat × (Nat × List SV))}
    (hn : Nat.ble args.length F.ntmps = true) (hv : args.map (conc ρ0) = vals) (hx : BoxesOK bxs ρ0 w (fun b => f0 (χ b))) (h00 : f0 0 = 0)
    (k : ∀ a, St F.ntmps ⟨svSlots 0 args, bxs⟩ ρ0 a w (fun b => f0 (χ b)) → OldR f0 w χ w (fun b => f0 (χ b)) → M0 w χ w (fun b => f0 (χ b)) →
      c.wp P (qs (fun a' w' => bodyPost P F (fun e w'' => ∃ v χ', e = .returned v ∧ Ev p w χ w'' χ' ∧ post w'' χ' v) .ret a' w') (fun a' w' => bodyPost P F (fun e w'' => ∃ v χ', e = .returned v ∧ Ev p w χ w'' χ' ∧ post w'' χ' v) .ret a' w') []) a w) :
    Ret P f vals.toArray p w χ post := by
  unfold Ret
  refine calls_of_wp hf hb ?_
  have hle := Nat.le_of_ble_eq_true hn
  have hlen : vals.length = args.length := by rw [← hv]; simp
  refine wp_mono (k { tmps := vals.toArray ++ Array.replicate (F.ntmps - vals.toArray.size) undef, defers := [] } ⟨by simp; omega, rfl, ?_, fun id q h => ⟨(hx id q h).2.1, (hx id q h).1, (hx id q h).2.2⟩⟩ (OldR.start f0 w χ) ⟨Nat.le_refl _, fun b _ h => ⟨rfl, by rw [h]; exact h00⟩⟩) ?_
  · intro t sv h
    obtain ⟨_, h3⟩ := look_svSlots _ _ _ _ h
    have hlt := (List.getElem?_eq_some_iff.1 h3).1
    simp only [Nat.sub_zero] at h3 hlt
    rw [Array.getElem?_append_left (by simp; omega)]
    rw [← hv]
    simp [h3]
  · intro e a w q
    cases e with
    | normal => exact q
    | ret => exact q
    | exit id => exact absurd q (by simp [qs, look])
    | _ => exact q.elim

theorem finR {P : Program} {tab : Tab} (T : TabOK P tab) {F : Func} {n : Nat} {sy : Sy} {ρ : Nat → Nat} {a : Act} {w0 w : World} {χc χ : Nat → Nat} {post : World → (Nat → Nat) → Value → Prop} {f0 : Nat → Nat} {p : Nat → Bool} (h : St n sy ρ a w χ) (hO : OldR f0 w0 χc w χ) (hf0 : ∀ c, f0 c = 0 → c = 0) (hp : ∀ c, p c = false → f0 c = 0 ∨ f0 c = 1000)
    (f : Nat → Nat) (h0 : f 0 = 0) {r : List Value} (e : resV tab sy ρ F.results.toList = some r)
    (hq : ∀ χ', M0 w χ w χ' → (∀ b, χ b ≠ 0 → χ b ≠ 1000 → χ' b = f (χ b)) → post w χ' (one r)) : bodyPost P F (fun e w'' => ∃ v χ', e = .returned v ∧ Ev p w0 χc w'' χ' ∧ post w'' χ' v) .ret a w := by
  obtain ⟨χ', h1, h2, h3⟩ := hO.leave hf0 hp f h0
  exact leaveR T h e ⟨_, χ', rfl, h1, hq χ' h2 h3⟩

theorem callR {f : Nat} {as : Array Operand} {ats : Array TypeId} {vals : List Value} {p : Nat → Bool} {post : World → (Nat → Nat) → Value → Prop} (h : St n sy ρ a w χ) (hw : wantedS all sy g = true) (hd : Nat.blt d n = true) (hb : hasBody P f = true)
    (hv : argsOf sy ρ as.toList = some vals) (hc : Ret P f vals.toArray p w χ post)
    (k : ∀ v a' w' χ', Ev p w χ w' χ' → post w' χ' v → St n ⟨(d, V v) :: sy.regs, sy.boxes.filter (fun q => !p q.1)⟩ ρ a' w' χ' → K a' w') :
    wp1 P all.toArray Q ⟨some d, .call ⟨.value (.func f), as, ats⟩, ty, pos, af, g⟩ K a w := by
  refine wpList_enter h hw (f := f) (vals := vals.toArray) (w1 := w) ?_ hc ?_
  · have : as.map a.eval = vals.toArray := by rw [← argsOf_eval h hv, ← Array.toList_map]
    simp [execOp, resolve, Act.eval, Deferred.ofValue, invoke, this, run_callFunc hb]
  · intro v w' χ' h2 h3
    exact k v _ w' χ' h2 h3 ((h.evp h2).put (sv := V v) (Nat.le_of_ble_eq_true hd))

theorem callCR {f t : Nat} {as : Array Operand} {ats : Array TypeId} {fi cp : List S0} {vals : List Value} {p : Nat → Bool} {post : World → (Nat → Nat) → Value → Prop} (h : St n sy ρ a w χ) (hw : wantedS all sy g = true) (hd : Nat.blt d n = true) (hb : hasBody P f = true)
    (hf : look sy.regs t = some (.f (.func f) fi cp)) (hv : (match argsOf sy ρ as.toList with | some r => some (fi.map (conc0 ρ) ++ r ++ cp.map (conc0 ρ)) | none => none) = some vals) (hc : Ret P f vals.toArray p w χ post)
    (k : ∀ v a' w' χ', Ev p w χ w' χ' → post w' χ' v → St n ⟨(d, V v) :: sy.regs, sy.boxes.filter (fun q => !p q.1)⟩ ρ a' w' χ' → K a' w') :
    wp1 P all.toArray Q ⟨some d, .call ⟨.value (.tmp t), as, ats⟩, ty, pos, af, g⟩ K a w := by
  refine wpList_enter h hw (f := f) (vals := vals.toArray) (w1 := w) ?_ hc ?_
  · cases hr : argsOf sy ρ as.toList with
    | none => simp [hr] at hv
    | some r =>
      simp [hr] at hv
      have h1 : as.map a.eval = r.toArray := by rw [← argsOf_eval h hr, ← Array.toList_map]
      have h2 : a.eval (.tmp t) = .func (.func f) (fi.map (conc0 ρ)).toArray (cp.map (conc0 ρ)).toArray := h.evo (x := .tmp t) hf
      subst hv
      simp [execOp, resolve, h2, Deferred.ofValue, invoke, h1, run_callFunc hb]
  · intro v w' χ' h2 h3
    exact k v _ w' χ' h2 h3 ((h.evp h2).put (sv := V v) (Nat.le_of_ble_eq_true hd))

/-! ### An own slice lent for a call that boxes are handed to -/
theorem Cell.lend {w : World} {χ : Nat → Nat} {b i t col : Nat} {vals : List Value} (h : Cell w χ b i t vals) (hne : Nat.beq i col = false) : Cell w (Sv.lend col χ) b i t vals := by
  refine ⟨?_, h.2⟩
  have : ¬ i = col := by intro e; subst e; simp at hne
  simp [Sv.lend, h.1, this]

theorem Ret.unlendR {f : FuncId} {vals : Array Value} {col : Nat} {p : Nat → Bool} {post : World → (Nat → Nat) → Value → Prop} (h0 : p 0 = false) (h : Ret P f vals p w (Sv.lend col χ) post) :
    Ret P f vals p w χ (fun w' χ' v => (∀ b, b < w.heap.size → χ' b = χ b) ∧ ∃ χ'', post w' χ'' v) :=
  Calls.mono h fun _ _ ⟨v, χ', h1, h2, h3⟩ => ⟨v, fun b => if b < w.heap.size then χ b else χ' b, h1, ⟨h2.os, h2.tape, h2.output, h2.size, fun b hb hp => by
    refine ⟨(h2.keep b hb ?_).1, by simp [hb]⟩
    simp only [Sv.lend]
    split
    · exact h0
    · exact hp⟩, fun b hb => by simp [hb], χ', h3⟩

theorem Cell.back {w w' : World} {χ χ' χ'' : Nat → Nat} {b i t t' : Nat} {vals vals' : List Value} (h : Cell w' χ'' b i t vals) (h0 : Cell w χ b i t' vals') (hk : ∀ b, b < w.heap.size → χ' b = χ b) : Cell w' χ' b i t vals :=
  ⟨(hk b (lt_heap h0.2)).trans h0.1, h.2⟩

/-- Something of T lies at an address, now. -/
def AtX {α : Type} (T : TRep α) (w : World) (χ : Nat → Nat) (A : Addr) (x : α) : Prop :=
  ∃ b o cells e fr, A = ⟨b, o, none⟩ ∧ w.heap[b]? = some (.cells cells e fr) ∧ T.R w χ ((cells.toList.drop o).take T.n) x

theorem load1X {α : Type} {T : TRep α} (TT : TabOK P tab) {t s : Nat} {A : Addr} {x : α} (h : St n sy ρ a w χ) (hw : wantedS all sy g = true) (hd : Nat.blt d n = true) (hs : look sy.regs s = some (V (.pointer (some A)))) (hA : AtX T w χ A x) (hn : T.n = 1)
    (ht : aggIs tab t false = true) (k : ∀ v a', T.R w χ [v] x → St n ⟨(d, V v) :: sy.regs, sy.boxes⟩ ρ a' w χ → K a' w) :
    wp1 P all.toArray Q ⟨some d, .load t (.tmp s), ty, pos, af, g⟩ K a w := by
  obtain ⟨b, o, cells, e', fr, rfl, hh, hel⟩ := hA
  obtain ⟨dd, hdd, hia⟩ := aggIs_d TT ht
  have hlen := T.len hel
  rw [hn] at hlen hel
  match hl : (cells.toList.drop o).take 1, hlen with
  | [v], _ =>
    rw [hl] at hel
    have hcell : w.cell? ⟨b, o, none⟩ = some v := by
      have : (cells.toList.drop o)[0]? = some v := by
        have := congrArg (fun l => l[0]?) hl
        simpa [List.getElem?_take] using this
      simp only [World.cell?, hh]
      simpa using this
    refine stepV h hw hd (Ev.refl xnone w χ) (fun _ _ => rfl) (v := v) (w' := w) ?_ (fun a' h' => k v a' hel h')
    have es : a.eval (.tmp s) = .pointer (some ⟨b, o, none⟩) := h.evo (x := .tmp s) hs
    simp [execOp, es, Instr.loadAt, Instr.sureAddr, loadVar, run_isAgg hdd, hia, hcell]

theorem loadAX {α : Type} {T : TRep α} (TT : TabOK P tab) {t s : Nat} {A : Addr} {x : α} (h : St n sy ρ a w χ) (hw : wantedS all sy g = true) (hd : Nat.blt d n = true) (hs : look sy.regs s = some (V (.pointer (some A)))) (hA : AtX T w χ A x)
    (ht : aggIs tab t true = true) (hsz : szIs tab t T.n = true) (k : ∀ cs a', T.R w χ cs x → St n ⟨(d, V (.agg cs.toArray)) :: sy.regs, sy.boxes⟩ ρ a' w χ → K a' w) :
    wp1 P all.toArray Q ⟨some d, .load t (.tmp s), ty, pos, af, g⟩ K a w := by
  obtain ⟨b, o, cells, e', fr, rfl, hh, hel⟩ := hA
  obtain ⟨dd, hdd, hia⟩ := aggIs_d TT ht
  obtain ⟨inf, hi, hm⟩ := szIs_i TT hsz
  have hlen := T.len hel
  refine stepV h hw hd (Ev.refl xnone w χ) (fun _ _ => rfl) (v := .agg ((cells.toList.drop o).take T.n).toArray) (w' := w) ?_ (fun a' h' => k _ a' hel h')
  have es : a.eval (.tmp s) = .pointer (some ⟨b, o, none⟩) := h.evo (x := .tmp s) hs
  have hl := run_loadCells_list (P := P) w ⟨b, o, none⟩ ((cells.toList.drop o).take T.n) (fun j v hj => by
    rw [Addr.add_lit]
    simp only [World.cell?, hh]
    rw [List.getElem?_take] at hj
    split at hj
    · simpa [Nat.add_comm] using hj
    · cases hj)
  rw [hlen] at hl
  simp [execOp, es, Instr.loadAt, Instr.sureAddr, loadVar, run_isAgg hdd, hia, run_sizeOf hi, hm, hl]

theorem fieldX {α β : Type} {T : TRep α} {TF : TRep β} (TT : TabOK P tab) {t s f off fsz ft : Nat} {A : Addr} {x : α} {y : β} (h : St n sy ρ a w χ) (hw : wantedS all sy g = true) (hd : Nat.blt d n = true) (hs : look sy.regs s = some (V (.pointer (some A)))) (hA : AtX T w χ A x)
    (ht : (match look tab t with | some ⟨_, _, _, _, .struct fs⟩ => fs[f]? | _ => none) = some (off, fsz, ft)) (hsz : Nat.beq fsz TF.n = true) (hle : Nat.ble (off + TF.n) T.n = true) (hF : ∀ cs, T.R w χ cs x → TF.R w χ ((cs.drop off).take TF.n) y)
    (k : ∀ A' a', AtX TF w χ A' y → St n ⟨(d, V (.pointer (some A'))) :: sy.regs, sy.boxes⟩ ρ a' w χ → K a' w) :
    wp1 P all.toArray Q ⟨some d, .fieldAddr t (.tmp s) f, ty, pos, af, g⟩ K a w := by
  obtain ⟨b, o, cells, e', fr, rfl, hh, hel⟩ := hA
  have es : a.eval (.tmp s) = .pointer (some ⟨b, o, none⟩) := h.evo (x := .tmp s) hs
  split at ht
  · rename_i fs htab
    obtain ⟨i, dd, z, hi, hdd, hz, hs', hby, hzc, hagg, hst, _⟩ := tyS_parts (TT _ _ htab)
    obtain ⟨l, rfl, hm⟩ := hst _ rfl
    obtain ⟨fd, hfd, hfe⟩ := mapM_get hm f _ ht
    simp only [Option.map_eq_some_iff, Prod.mk.injEq] at hfe
    obtain ⟨j, hj, rfl, rfl, rfl⟩ := hfe
    have hjs := Nat.eq_of_beq_eq_true hsz
    have hne : ¬ j.size = 0 := by have := TF.pos; omega
    have hle' := Nat.le_of_ble_eq_true hle
    simp only [Array.getElem?_toList] at hfd
    refine stepV h hw hd (Ev.refl xnone w χ) (fun _ _ => rfl) (v := .pointer (some ⟨b, o + fd.offset, none⟩)) (w' := w) ?_ (fun a' h' => k _ a' ⟨b, o + fd.offset, cells, e', fr, rfl, hh, ?_⟩ h')
    · simp [execOp, es, Instr.fieldAt, run_underlying hdd, hfd, Instr.sureAddr, fieldPlace, run_sizeOf hj, hne, Addr.add_lit]
    · have := hF _ hel
      rw [List.drop_take, List.take_take, List.drop_drop, Nat.min_eq_left (by omega)] at this
      exact this
  · cases ht

theorem arrX {α β : Type} {T : TRep α} {TF : TRep β} (TT : TabOK P tab) {t s m e esz j : Nat} {y : Operand} {k0 : IntKind} {A : Addr} {x : α} {z : β} (h : St n sy ρ a w χ) (hw : wantedS all sy g = true) (hd : Nat.blt d n = true) (hs : look sy.regs s = some (V (.pointer (some A)))) (hy : evo sy y = some (V (.int k0 (Int.ofNat j)))) (hA : AtX T w χ A x)
    (ht : (match look tab t with | some ⟨_, _, _, _, .array m' e' es'⟩ => some (m', e', es') | _ => none) = some (m, e, esz)) (hj : Nat.blt j m = true) (hsz : Nat.beq esz TF.n = true) (hle : Nat.ble (j * esz + TF.n) T.n = true) (hF : ∀ cs, T.R w χ cs x → TF.R w χ ((cs.drop (j * esz)).take TF.n) z)
    (k : ∀ A' a', AtX TF w χ A' z → St n ⟨(d, V (.pointer (some A'))) :: sy.regs, sy.boxes⟩ ρ a' w χ → K a' w) :
    wp1 P all.toArray Q ⟨some d, .indexAddr t (.tmp s) y, ty, pos, af, g⟩ K a w := by
  obtain ⟨b, o, cells, e', fr, rfl, hh, hel⟩ := hA
  have es : a.eval (.tmp s) = .pointer (some ⟨b, o, none⟩) := h.evo (x := .tmp s) hs
  have ey : a.eval y = .int k0 (Int.ofNat j) := h.evo hy
  split at ht
  · rename_i m' e'' es' htab
    simp only [Option.some.injEq, Prod.mk.injEq] at ht
    obtain ⟨rfl, rfl, rfl⟩ := ht
    obtain ⟨i, dd, zv, hi, hdd, hz, hs', hby, hzc, hagg, _, har, _⟩ := tyS_parts (TT _ _ htab)
    obtain ⟨rfl, inf, hinf, rfl⟩ := har _ _ _ rfl
    have hlt : j < m' := Nat.le_of_ble_eq_true hj
    have hle' := Nat.le_of_ble_eq_true hle
    refine stepV h hw hd (Ev.refl xnone w χ) (fun _ _ => rfl) (v := .pointer (some ⟨b, o + j * inf.size, none⟩)) (w' := w) ?_ (fun a' h' => k _ a' ⟨b, o + j * inf.size, cells, e', fr, rfl, hh, ?_⟩ h')
    · simp [execOp, es, ey, Instr.indexAt, asIntOf, run_underlying hdd, Instr.sureAddr, hlt, run_sizeOf hinf, Addr.add_lit]
    · have := hF _ hel
      rw [List.drop_take, List.take_take, List.drop_drop, Nat.min_eq_left (by omega)] at this
      exact this
  · cases ht

theorem indexX {α : Type} [Inhabited α] {T : TRep α} (TT : TabOK P tab) {t E col : Nat} {x y : Operand} {ad : Option Addr} {xs : List α} {c : Nat} {k : IntKind} {i : Int} (h : St n sy ρ a w χ) (hw : wantedS all sy g = true) (hd : Nat.blt d n = true)
    (hx : evo sy x = some (V (.slice ad xs.length c))) (hy : evo sy y = some (V (.int k i))) (hO : OS T E w χ col ad xs c) (ht : isSl tab t E = true) (hs : szIs tab E T.n = true) (h0 : 0 ≤ i) (h1 : i < xs.length)
    (kk : ∀ A a', AtO T E w χ col ad i.toNat A → AtX T w χ A (gi xs i) → St n ⟨(d, V (.pointer (some A))) :: sy.regs, sy.boxes⟩ ρ a' w χ → K a' w) :
    wp1 P all.toArray Q ⟨some d, .indexAddr t x y, ty, pos, af, g⟩ K a w := by
  rcases hO.row with ⟨rfl, rfl, rfl⟩ | ⟨b, cells, rfl, hc, hh, hle, hcm, hsz, hel⟩
  · simp at h1; omega
  · obtain ⟨inf, hi, hm⟩ := szIs_i TT hs
    have hr := run_indexAt (P := P) (w := w) (c := c) (k := k) (ad := some ⟨b, 0, none⟩) (isSl_u TT ht) hi hm rfl h0 h1
    rw [Nat.zero_add] at hr
    have hrow := hh
    obtain ⟨fr, hh, _⟩ := hh
    refine stepV h hw hd (Ev.refl xnone w χ) (fun _ _ => rfl) (v := .pointer (some ⟨b, i.toNat * T.n, none⟩)) (w' := w) ?_ (fun a' h' => kk _ a' ⟨b, cells, rfl, rfl, hc, hrow⟩ ⟨b, i.toNat * T.n, cells, E, fr, rfl, hh, ?_⟩ h')
    · have ex : a.eval x = .slice (some ⟨b, 0, none⟩) xs.length c := h.evo hx
      have ey : a.eval y = .int k i := h.evo hy
      simp [execOp, ex, ey, hr]
    · have := hel _ _ (gi_some h0 h1)
      unfold chunk at this
      rwa [Nat.zero_add] at this

/-! ### Cuts of the call's own, and copies into it -/

/-- The address of a cut from element l on. -/
def adAt (ad : Option Addr) (c l m : Nat) : Option Addr := if c = l then ad else ad.map (·.add (l * m))
theorem adAt_zero {α : Type} {T : TRep α} {E col : Nat} {ad : Option Addr} {xs : List α} {c : Nat} (h : OS T E w χ col ad xs c) : ad = adAt ad c 0 T.n := by
  unfold adAt
  split
  · rfl
  · rcases h.row with ⟨rfl, rfl, rfl⟩ | ⟨b, cells, rfl, hc, hh, hle, hcm, hsz, hel⟩
    · rfl
    · simp [Addr.add_lit]

theorem Src.take {α : Type} {T : TRep α} {ad : Option Addr} {ys : List α} {c : Nat} {news : List Value} (h : Src T w χ ad ys c news) (m : Nat) : Src T w χ ad (ys.take m) c (news.take (m * T.n)) := by
  refine ⟨?_, ?_, ?_, ?_, ?_⟩
  · rw [List.length_take, List.length_take, h.len]
    rcases Nat.le_total m ys.length with hm | hm
    · rw [Nat.min_eq_left hm, Nat.min_eq_left (Nat.mul_le_mul_right _ hm)]
    · rw [Nat.min_eq_right hm, Nat.min_eq_right (Nat.mul_le_mul_right _ hm)]
  · intro e
    obtain ⟨rfl, rfl⟩ := h.nil e
    simp
  · intro A hA j u hu
    rw [List.getElem?_take] at hu
    split at hu
    · exact h.cell A hA j u hu
    · cases hu
  · intro u hu
    exact h.one u (List.mem_of_mem_take hu)
  · intro i y hy
    rw [List.getElem?_take] at hy
    split at hy
    · rename_i hi
      have := h.el i y hy
      have h1 := mul_succ_le (m := T.n) hi
      rw [Nat.add_mul, Nat.one_mul] at h1
      rw [List.drop_take, List.take_take, Nat.min_eq_left (by omega)]
      exact this
    · cases hy

theorem OS.srcTake {α : Type} {T : TRep α} {E col : Nat} {ad : Option Addr} {xs : List α} {c : Nat} (h : OS T E w χ col ad xs c) (m : Nat) : ∃ news, Src T w χ ad (xs.take m) c news :=
  have ⟨news, hs⟩ := h.src
  ⟨_, hs.take m⟩

theorem drop_take_splice {β : Type} {L S : List β} {p q n : Nat} (hp : p ≤ L.length) (_hpS : p + S.length ≤ L.length) :
    (q + n ≤ p → ((L.take p ++ S ++ L.drop (p + S.length)).drop q).take n = (L.drop q).take n) ∧
    (p ≤ q → q + n ≤ p + S.length → ((L.take p ++ S ++ L.drop (p + S.length)).drop q).take n = (S.drop (q - p)).take n) ∧
    (p + S.length ≤ q → ((L.take p ++ S ++ L.drop (p + S.length)).drop q).take n = (L.drop q).take n) := by
  have hl : (L.take p).length = p := by rw [List.length_take]; omega
  refine ⟨fun h => ?_, fun h h2 => ?_, fun h => ?_⟩
  · rw [List.append_assoc, List.drop_append_of_le_length (by omega), List.take_append_of_le_length (by rw [List.length_drop]; omega), List.drop_take, List.take_take, Nat.min_eq_left (by omega)]
  · rw [List.append_assoc, List.drop_append, List.drop_eq_nil_of_le (by omega), List.nil_append, hl, List.drop_append_of_le_length (by omega), List.take_append_of_le_length (by rw [List.length_drop]; omega)]
  · rw [List.drop_append, List.drop_eq_nil_of_le (by rw [List.length_append]; omega), List.nil_append, List.length_append, hl, List.drop_drop]
    congr 2
    omega

/-- 'xs[l:]', xs the call's own: the cut's address. -/
theorem dsliceL {α : Type} {T : TRep α} {nrm ret : Act → World → Prop} {exs : List (Nat × (Act → World → Prop))} {S : World → Prop} {listed : Array Bool} {fuel : Nat} (TT : TabOK P tab) (q : Nat) {t E col : Nat} {x lo : Operand} {ad : Option Addr} {xs : List α} {c : Nat} {k : IntKind} {l : Int}
    (h : St n sy ρ a w χ) (hns : Region.noSelect all.toArray = true) (hd : Nat.blt d n = true) (hc : (Region.free .any all.toArray listed q && (Region.ready .any all.toArray listed).contains q) = true) (ho : all[q]? = some ⟨some d, .slice t x (some lo) none none, ty, pos, af, g⟩) (hw : wantedS all sy g = true) (H : S w)
    (hx : evo sy x = some (V (.slice ad xs.length c))) (hlo : evo sy lo = some (V (.int k l))) (hO : OS T E w χ col ad xs c) (ht : isSl tab t E = true) (hs : szIs tab E T.n = true) (h0 : 0 ≤ l) (h1 : l ≤ xs.length)
    (kk : ∀ a', St n ⟨(d, V (.slice (adAt ad c l.toNat T.n) (xs.length - l.toNat) (c - l.toNat))) :: sy.regs, sy.boxes⟩ ρ a' w χ → Dr P all (qs nrm ret exs) S (listed.setIfInBounds q true) fuel a' w) : Dr P all (qs nrm ret exs) S listed (fuel + 1) a w := by
  obtain ⟨inf, hi', hm⟩ := szIs_i TT hs
  have hu := isSl_u TT ht
  have ex : a.eval x = .slice ad xs.length c := h.evo hx
  have el : a.eval lo = .int k l := h.evo hlo
  refine takeV q h hns hd hc ho hw H (v := .slice (adAt ad c l.toNat T.n) (xs.length - l.toNat) (c - l.toNat)) (fun w1 _ => ?_) kk
  simp [execOp, ex, el, Instr.sliceAt, Instr.slice, run_underlying hu, Instr.sliceBounds, Instr.sliceBound, asIntOf, h0, h1, run_sizeOf hi', hm, adAt]

/-- 'xs[:h]', xs the call's own. -/
theorem dsliceH {α : Type} {T : TRep α} {nrm ret : Act → World → Prop} {exs : List (Nat × (Act → World → Prop))} {S : World → Prop} {listed : Array Bool} {fuel : Nat} (TT : TabOK P tab) (q : Nat) {t E col : Nat} {x hi : Operand} {ad : Option Addr} {xs : List α} {c : Nat} {k : IntKind} {l : Int}
    (h : St n sy ρ a w χ) (hns : Region.noSelect all.toArray = true) (hd : Nat.blt d n = true) (hc : (Region.free .any all.toArray listed q && (Region.ready .any all.toArray listed).contains q) = true) (ho : all[q]? = some ⟨some d, .slice t x none (some hi) none, ty, pos, af, g⟩) (hw : wantedS all sy g = true) (H : S w)
    (hx : evo sy x = some (V (.slice ad xs.length c))) (hlo : evo sy hi = some (V (.int k l))) (hO : OS T E w χ col ad xs c) (ht : isSl tab t E = true) (hs : szIs tab E T.n = true) (h0 : 0 ≤ l) (h1 : l ≤ xs.length)
    (kk : ∀ a', St n ⟨(d, V (.slice ad (xs.take l.toNat).length c)) :: sy.regs, sy.boxes⟩ ρ a' w χ → Dr P all (qs nrm ret exs) S (listed.setIfInBounds q true) fuel a' w) : Dr P all (qs nrm ret exs) S listed (fuel + 1) a w := by
  obtain ⟨inf, hi', hm⟩ := szIs_i TT hs
  have hu := isSl_u TT ht
  have hcap : xs.length ≤ c := by
    rcases hO.row with ⟨rfl, rfl, rfl⟩ | ⟨b, cells, rfl, hc, hh, hle, hcm, hsz, hel⟩
    · simp
    · exact hle
  have ex : a.eval x = .slice ad xs.length c := h.evo hx
  have el : a.eval hi = .int k l := h.evo hlo
  have e2 : l ≤ (c : Int) := by omega
  have hlen : (xs.take l.toNat).length = l.toNat := by simp; omega
  refine takeV q h hns hd hc ho hw H (v := .slice ad (xs.take l.toNat).length c) (fun w1 _ => ?_) kk
  rw [hlen]
  simp [execOp, ex, el, Instr.sliceAt, Instr.slice, run_underlying hu, Instr.sliceBounds, Instr.sliceBound, asIntOf, h0, e2, run_sizeOf hi', hm]
  intro hcz
  have hzz := adAt_zero hO
  unfold adAt at hzz
  rw [if_neg hcz] at hzz
  simpa using hzz.symm

/-- 'copy(xs[l:], ys)', xs the call's own. -/
theorem copyO {α : Type} {T : TRep α} (TT : TabOK P tab) {t t2 E col l : Nat} {x y : Operand} {ad adx ad2 : Option Addr} {xs ys : List α} {c cx c2 : Nat} {news : List Value} (h : St n sy ρ a w χ) (hw : wantedS all sy g = true) (hd : Nat.blt d n = true)
    (hx : evo sy x = some (V (.slice adx (xs.length - l) cx))) (hadx : adx = adAt ad c l T.n) (hy : evo sy y = some (V (.slice ad2 ys.length c2))) (hO : OS T E w χ col ad xs c) (hs : Src T w χ ad2 ys c2 news) (ht : isSl tab t E = true) (he : szIs tab E T.n = true) (hcol : Nat.ble 1000 col = true) (hl : l ≤ xs.length)
    (k : ∀ a' w', Ev (xone col) w χ w' χ → OS T E w' χ col ad (xs.take l ++ ys.take (xs.length - l) ++ xs.drop (l + min ys.length (xs.length - l))) c → St n ⟨(d, I (((min ys.length (xs.length - l) : Nat)) : Int)) :: sy.regs, sy.boxes⟩ ρ a' w' χ → K a' w') :
    wp1 P all.toArray Q ⟨some d, .call ⟨.builtin .copy, #[x, y], #[t, t2]⟩, ty, pos, af, g⟩ K a w := by
  obtain ⟨inf, hi, hm⟩ := szIs_i TT he
  have hu := isSl_u TT ht
  have hc0 : col ≠ 0 := by have := Nat.le_of_ble_eq_true hcol; omega
  have ex : a.eval x = .slice adx (xs.length - l) cx := h.evo hx
  have ey : a.eval y = .slice ad2 ys.length c2 := h.evo hy
  have hp := T.pos
  by_cases hz : min ys.length (xs.length - l) = 0
  · have e1 : xs.take l ++ ys.take (xs.length - l) ++ xs.drop (l + min ys.length (xs.length - l)) = xs := by
      rw [hz, Nat.add_zero]
      have : ys.take (xs.length - l) = [] := by
        apply List.eq_nil_of_length_eq_zero
        rw [List.length_take, Nat.min_comm]; exact hz
      rw [this, List.append_nil, List.take_append_drop]
    refine stepV h hw hd (Ev.refl (xone col) w χ) (xone_box hcol) (v := .int .i64 (((min ys.length (xs.length - l) : Nat)) : Int)) (w' := w) ?_ (fun a' h' => k a' w (Ev.refl _ w χ) (by rw [e1]; exact hO) h')
    have hz' : Nat.min ys.length (xs.length - l) = 0 := hz
    rw [hz]
    cases ad2 with
    | none =>
      cases adx with
      | none => simp [execOp, resolve, invoke, builtin, ex, ey, Builtin.copy_, run_underlying hu, Builtin.lenOf, Builtin.firstCells, run_sizeOf hi, goInt, hz']
      | some A => simp [execOp, resolve, invoke, builtin, ex, ey, Builtin.copy_, run_underlying hu, Builtin.lenOf, Builtin.firstCells, run_sizeOf hi, goInt, hz', storeCells]
    | some A2 =>
      cases adx with
      | none => simp [execOp, resolve, invoke, builtin, ex, ey, Builtin.copy_, run_underlying hu, Builtin.lenOf, Builtin.firstCells, run_sizeOf hi, goInt, hz', loadCells, loadCellsFrom]
      | some A => simp [execOp, resolve, invoke, builtin, ex, ey, Builtin.copy_, run_underlying hu, Builtin.lenOf, Builtin.firstCells, run_sizeOf hi, goInt, hz', storeCells, loadCells, loadCellsFrom]
  · have hpos : 0 < min ys.length (xs.length - l) := Nat.pos_of_ne_zero hz
    have hlx : l < xs.length := by omega
    have hyl : 0 < ys.length := by omega
    rcases hO.row with ⟨rfl, rfl, rfl⟩ | ⟨b, cells, rfl, hc, hh, hle, hcm, hsz', hel⟩
    · simp at hlx
    · have hst := hs.take (xs.length - l)
      have hmy : (ys.take (xs.length - l)).length = min ys.length (xs.length - l) := by rw [List.length_take, Nat.min_comm]
      rw [show min ys.length (xs.length - l) = (ys.take (xs.length - l)).length from hmy.symm] at k hpos
      generalize hzs : ys.take (xs.length - l) = zs at hst hmy hpos k ⊢
      have hzl : l + zs.length ≤ xs.length := by omega
      generalize hns : news.take ((xs.length - l) * T.n) = ns at hst
      have hcl : ¬ c = l := by omega
      have hadx2 : adx = some ⟨b, l * T.n, none⟩ := by rw [hadx]; unfold adAt; rw [if_neg hcl]; simp [Addr.add_lit]
      have had2 : ∃ A2, ad2 = some A2 := by
        cases h2 : ad2 with
        | none => have := (hst.nil h2).1; rw [this] at hpos; simp at hpos
        | some A2 => exact ⟨A2, rfl⟩
      obtain ⟨A2, hA2⟩ := had2
      have hload := run_loadCells_list (P := P) w A2 ns (hst.cell A2 hA2)
      rw [hst.len] at hload
      have h1 := Nat.mul_le_mul_right T.n hzl
      have h2 := Nat.mul_le_mul_right T.n hle
      rw [Nat.add_mul] at h1
      have hnl := hst.len
      have hrow := hh
      obtain ⟨fr, hh, hfz⟩ := hh
      have hstc := run_storeCells_atN P b (l * T.n) E fr ns 0 cells w hh hfz (by simp; omega) hst.one
      simp only [Nat.add_zero] at hstc
      have ev : Ev (xone col) w χ (w.setRow b (cells.toList.take (l * T.n) ++ ns ++ cells.toList.drop (l * T.n + ns.length)).toArray) χ :=
        ⟨rfl, rfl, rfl, by simp, fun b' _ hp => ⟨setRow_other _ _ _ _ (by intro e; rw [e, hc] at hp; simp [xone] at hp), rfl⟩⟩
      have m := ev.m0 (show xone col 0 = false by cases h : xone col 0 with | false => rfl | true => exact absurd (Nat.eq_of_beq_eq_true h).symm hc0)
      have hmin : Nat.min ys.length (xs.length - l) = zs.length := hmy.symm
      refine stepV h hw hd ev (xone_box hcol) (v := .int .i64 ((zs.length : Nat) : Int)) (w' := w.setRow b (cells.toList.take (l * T.n) ++ ns ++ cells.toList.drop (l * T.n + ns.length)).toArray) ?_ (fun a' h' => k a' _ ev ⟨?_, .inr ⟨b, _, rfl, hc, hrow.set (by simp only [List.size_toArray, List.length_append, List.length_take, List.length_drop, Array.length_toList]; omega), ?_, hcm, ?_, ?_⟩⟩ h')
      · subst hadx2 hA2
        simp only [execOp, resolve, invoke, builtin, ex, ey, Builtin.copy_, run_underlying hu, Builtin.lenOf, Builtin.firstCells, Sem.run_bind, Sem.run_pure, Result.andThen_ok, run_sizeOf hi, goInt, hmin, hm, hload, hstc, List.map_toArray, List.map_cons, List.map_nil, List.getElem?_toArray, List.getElem?_cons_zero, List.getElem?_cons_succ, List.getElem?_toArray]
      · have : (xs.take l ++ zs ++ xs.drop (l + zs.length)).length = xs.length := by simp; omega
        rw [this]; exact hO.bnd
      · have : (xs.take l ++ zs ++ xs.drop (l + zs.length)).length = xs.length := by simp; omega
        rw [this]; exact hle
      · simp only [List.size_toArray, List.length_append, List.length_take, List.length_drop, Array.length_toList]
        omega
      · intro j z hj
        unfold chunk
        simp only [Nat.zero_add]
        obtain ⟨s1, s2, s3⟩ := drop_take_splice (L := cells.toList) (S := ns) (p := l * T.n) (q := j * T.n) (n := T.n) (by simp; omega) (by simp; omega)
        rcases Nat.lt_or_ge j l with hjl | hjl
        · have hz2 : xs[j]? = some z := by
            rw [List.append_assoc, List.getElem?_append_left (by simp; omega), List.getElem?_take, if_pos hjl] at hj
            exact hj
          have h3 := mul_succ_le (m := T.n) hjl
          rw [Nat.add_mul, Nat.one_mul] at h3
          have := T.mono m (hel j z hz2)
          unfold chunk at this
          rw [Nat.zero_add] at this
          rw [s1 h3]
          exact this
        · have h3 := Nat.mul_le_mul_right T.n hjl
          rcases Nat.lt_or_ge j (l + zs.length) with hj2 | hj2
          · have hz2 : zs[j - l]? = some z := by
              rw [List.append_assoc, List.getElem?_append_right (by simp; omega), List.getElem?_append_left (by simp; omega)] at hj
              rw [List.length_take, Nat.min_eq_left (by omega)] at hj
              exact hj
            have h4 := mul_succ_le (m := T.n) hj2
            rw [Nat.add_mul, Nat.one_mul, Nat.add_mul] at h4
            rw [s2 h3 (by omega), ← Nat.sub_mul]
            exact T.mono m (hst.el _ z hz2)
          · have hz2 : xs[j]? = some z := by
              rw [List.getElem?_append_right (by simp; omega), List.getElem?_drop] at hj
              rw [← hj]
              congr 1
              rw [List.length_append, List.length_take, Nat.min_eq_left (by omega)]
              omega
            have h4 := Nat.mul_le_mul_right T.n hj2
            rw [Nat.add_mul] at h4
            have := T.mono m (hel j z hz2)
            unfold chunk at this
            rw [Nat.zero_add] at this
            rw [s3 (by omega)]
            exact this

/-! ### Maps of the call's own -/

structure KRep (κ : Type) where
  d : TypeDesc
  v : κ → Value
  inj : ∀ a b, v a = v b → a = b
  isk : ∀ a, MapKept.IsKey d (v a)
def kI : KRep Int := ⟨.int .i64, fun k => .int .i64 k, (fun a b h => by injection h), fun _ => rfl⟩

def mget {κ α : Type} [DecidableEq κ] : List (κ × α) → κ → Option α
  | [], _ => none
  | (j, x) :: m, k => if j = k then some x else mget m k
def mput {κ α : Type} [DecidableEq κ] : List (κ × α) → κ → α → List (κ × α)
  | [], k, x => [(k, x)]
  | (j, y) :: m, k, x => if j = k then (k, x) :: m else (j, y) :: mput m k x

theorem mget_mput {κ α : Type} [DecidableEq κ] : ∀ (m : List (κ × α)) (k j : κ) (x : α), mget (mput m k x) j = if j = k then some x else mget m j
  | [], k, j, x => by
    simp only [mput, mget]
    by_cases h : k = j
    · rw [if_pos h, if_pos h.symm]
    · rw [if_neg h, if_neg (fun e => h e.symm)]
  | (i, y) :: m, k, j, x => by
    simp only [mput]
    by_cases hik : i = k
    · subst hik
      rw [if_pos rfl]
      simp only [mget]
      by_cases h : i = j
      · rw [if_pos h, if_pos h.symm]
      · rw [if_neg h, if_neg h, if_neg (fun e => h e.symm)]
    · rw [if_neg hik]
      simp only [mget]
      by_cases h : i = j
      · subst h
        rw [if_pos rfl, if_pos rfl, if_neg hik]
      · rw [if_neg h, if_neg h, mget_mput]

/-- A value and what it stands for; 'ag': is it a struct or an array? -/
def VR {α : Type} (T : TRep α) (ag : Bool) (w : World) (χ : Nat → Nat) (v : Value) (x : α) : Prop :=
  match ag with
  | true => ∃ cs : List Value, v = .agg cs.toArray ∧ T.R w χ cs x
  | false => T.R w χ [v] x
theorem VR.mono {α : Type} {T : TRep α} {ag : Bool} {w' : World} {χ' : Nat → Nat} {v : Value} {x : α} (m : M0 w χ w' χ') (h : VR T ag w χ v x) : VR T ag w' χ' v x := by
  cases ag with
  | true => obtain ⟨cs, e, hr⟩ := h; exact ⟨cs, e, T.mono m hr⟩
  | false => exact T.mono m h

def EL {κ α : Type} (R : KRep κ) (T : TRep α) (ag : Bool) (w : World) (χ : Nat → Nat) : List MapEntry → List (κ × α) → Prop
  | [], [] => True
  | e :: es, (k, x) :: m => e.key = R.v k ∧ VR T ag w χ e.val x ∧ EL R T ag w χ es m
  | _, _ => False
theorem EL.mono {κ α : Type} {R : KRep κ} {T : TRep α} {ag : Bool} {w' : World} {χ' : Nat → Nat} (mm : M0 w χ w' χ') : ∀ {es : List MapEntry} {m : List (κ × α)}, EL R T ag w χ es m → EL R T ag w' χ' es m
  | [], [], h => h
  | _ :: _, (_, _) :: _, h => ⟨h.1, h.2.1.mono mm, EL.mono mm h.2.2⟩
  | [], _ :: _, h => h.elim
  | _ :: _, [], h => h.elim
theorem EL.keys {κ α : Type} {R : KRep κ} {T : TRep α} {ag : Bool} : ∀ {es : List MapEntry} {m : List (κ × α)}, EL R T ag w χ es m → ∀ x ∈ es, MapKept.IsKey R.d x.key
  | [], [], _ => by simp
  | e :: es, (k, x) :: m, h => by
    intro y hy
    rcases List.mem_cons.1 hy with rfl | hy
    · rw [h.1]; exact R.isk k
    · exact EL.keys h.2.2 y hy
  | [], _ :: _, h => h.elim
  | _ :: _, [], h => h.elim
theorem sameNow_key {κ : Type} (R : KRep κ) (a b : κ) [DecidableEq κ] : Instr.sameNow R.d (R.v a) (R.v b) = some (decide (a = b)) := by
  obtain ⟨r, hr, hiff⟩ := MapKept.sameNow_of_keys (R.isk a) (R.isk b)
  rw [hr]
  congr 1
  rw [Bool.eq_iff_iff, hiff, decide_eq_true_eq]
  exact ⟨R.inj a b, fun h => by rw [h]⟩
theorem EL.find {κ α : Type} [DecidableEq κ] {R : KRep κ} {T : TRep α} {ag : Bool} (k : κ) : ∀ {es : List MapEntry} {m : List (κ × α)} (i : Nat), EL R T ag w χ es m →
    (Instr.findNow R.d (R.v k) es i = some none ∧ mget m k = none ∧ ∀ (x : α) (e : MapEntry), e.key = R.v k → VR T ag w χ e.val x → EL R T ag w χ (es ++ [e]) (mput m k x)) ∨
    ∃ j e x, Instr.findNow R.d (R.v k) es i = some (some (i + j, e.val)) ∧ es[j]? = some e ∧ e.key = R.v k ∧ mget m k = some x ∧ VR T ag w χ e.val x ∧
      ∀ (f : MapEntry → MapEntry) (y : α), (f e).key = R.v k → VR T ag w χ (f e).val y → EL R T ag w χ (es.modify j f) (mput m k y)
  | [], [], i, _ => .inl ⟨rfl, rfl, fun x e h1 h2 => ⟨h1, h2, trivial⟩⟩
  | e :: es, (j, x) :: m, i, h => by
    obtain ⟨h1, h2, h3⟩ := h
    by_cases hk : k = j
    · subst hk
      refine .inr ⟨0, e, x, ?_, rfl, h1, by simp [mget], h2, fun f y hf1 hf2 => ?_⟩
      · simp only [Instr.findNow, h1, sameNow_key, decide_true, Nat.add_zero]
      · simp only [mput, if_true, List.modify_zero_cons]
        exact ⟨hf1, hf2, h3⟩
    · have hs : Instr.sameNow R.d (R.v k) e.key = some false := by rw [h1, sameNow_key]; simp [hk]
      have hjk : ¬ j = k := fun q => hk q.symm
      rcases EL.find k (i + 1) h3 with ⟨g1, g2, g3⟩ | ⟨q, e', x', g1, g2, g3, g4, g5, g6⟩
      · refine .inl ⟨by simp only [Instr.findNow, hs, g1], by simp only [mget, if_neg hjk, g2], fun y e' a b => ?_⟩
        simp only [mput, if_neg hjk, List.cons_append]
        exact ⟨h1, h2, g3 y e' a b⟩
      · refine .inr ⟨q + 1, e', x', ?_, by simpa using g2, g3, by simp only [mget, if_neg hjk, g4], g5, fun f y a b => ?_⟩
        · simp only [Instr.findNow, hs, g1]
          congr 3; omega
        · simp only [mput, if_neg hjk, List.modify_succ_cons]
          exact ⟨h1, h2, g6 f y a b⟩
  | [], _ :: _, _, h => h.elim
  | _ :: _, [], _, h => h.elim

/-- A map that the call itself made: colour, row, entries. -/
def OM {κ α : Type} (R : KRep κ) (T : TRep α) (ag : Bool) (w : World) (χ : Nat → Nat) (col r : Nat) (m : List (κ × α)) : Prop :=
  χ r = col ∧ ∃ es clock, w.heap[r]? = some (.map es clock) ∧ EL R T ag w χ es.toList m
theorem OM.mv {κ α : Type} {R : KRep κ} {T : TRep α} {ag : Bool} {w w' : World} {χ χ' : Nat → Nat} {col r : Nat} {m : List (κ × α)} {p : Nat → Bool} (h : OM R T ag w χ col r m) (e : Ev p w χ w' χ') (hp : p col = false) (h0 : p 0 = false) : OM R T ag w' χ' col r m := by
  obtain ⟨h1, es, clock, h2, h3⟩ := h
  obtain ⟨k1, k2⟩ := e.keep r (lt_heap h2) (by rw [h1]; exact hp)
  exact ⟨k2.trans h1, es, clock, k1.trans h2, h3.mono (e.m0 h0)⟩

/-- 'map[K]T{}' -/
theorem mkmap {κ α : Type} (R : KRep κ) (T : TRep α) (ag : Bool) (col : Nat) {t : Nat} (h : St n sy ρ a w χ) (hw : wantedS all sy g = true) (hd : Nat.blt d n = true)
    (k : ∀ r a' w' χ', Ev xnone w χ w' χ' → OM R T ag w' χ' col r ([] : List (κ × α)) → St n ⟨(d, V (.map (some r))) :: sy.regs, sy.boxes⟩ ρ a' w' χ' → K a' w') :
    wp1 P all.toArray Q ⟨some d, .makeMap t none, ty, pos, af, g⟩ K a w := by
  have ev := ev_new0 w χ (.map #[] 0) col
  refine stepV h hw hd ev (fun _ _ => rfl) (v := .map (some w.heap.size)) (w' := w.alloc (.map #[] 0)) ?_ (fun a' h' => k _ a' _ _ ev ⟨by simp, #[], 0, heap_alloc_new w _, trivial⟩ h')
  simp [execOp, Instr.makeMap, Result.andThen]

/-- 'm[k]' -/
theorem mlook {κ α : Type} [DecidableEq κ] (R : KRep κ) (T : TRep α) (ag : Bool) {t kt et col r : Nat} {x y : Operand} {m : List (κ × α)} {z : α} (q : κ) {zv : Value} (h : St n sy ρ a w χ) (hw : wantedS all sy g = true) (hd : Nat.blt d n = true)
    (hx : evo sy x = some (V (.map (some r)))) (hy : evo sy y = some (V (R.v q))) (hm : P.underlying t = some (.map kt et)) (hk : P.underlying kt = some R.d) (hz : (P.info? et).bind (·.zero) = some zv) (hzr : VR T ag w χ zv z) (hO : OM R T ag w χ col r m)
    (k : ∀ v a', VR T ag w χ v ((mget m q).getD z) → St n ⟨(d, V v) :: sy.regs, sy.boxes⟩ ρ a' w χ → K a' w) :
    wp1 P all.toArray Q ⟨some d, .lookup t x y false, ty, pos, af, g⟩ K a w := by
  obtain ⟨h1, es, clock, h2, h3⟩ := hO
  have ex : a.eval x = .map (some r) := h.evo hx
  have ey : a.eval y = R.v q := h.evo hy
  obtain ⟨zs, hzi, hzv⟩ := Option.bind_eq_some_iff.1 hz
  have hzz : (zeroValue et).run P w = .ok zv w := by simp [zeroValue, typeInfo, hzi, hzv]
  rcases EL.find q 0 h3 with ⟨g1, g2, _⟩ | ⟨j, e, x', g1, g2, g3, g4, g5, _⟩
  · refine stepV h hw hd (Ev.refl xnone w χ) (fun _ _ => rfl) (v := zv) (w' := w) ?_ (fun a' h' => k _ a' (by rw [g2]; exact hzr) h')
    simp [execOp, ex, ey, Instr.lookup, run_underlying hm, MapKept.run_getObj_map h2, MapKept.run_checkKey hk (R.isk q), MapKept.run_findKey hk g1, hzz]
  · refine stepV h hw hd (Ev.refl xnone w χ) (fun _ _ => rfl) (v := e.val) (w' := w) ?_ (fun a' h' => k _ a' (by rw [g4]; exact g5) h')
    simp [execOp, ex, ey, Instr.lookup, run_underlying hm, MapKept.run_getObj_map h2, MapKept.run_checkKey hk (R.isk q), MapKept.run_findKey hk g1]

/-- 'v, ok := m[k]' -/
theorem mlook2 {κ α : Type} [DecidableEq κ] (R : KRep κ) (T : TRep α) (ag : Bool) {t kt et col r : Nat} {x y : Operand} {m : List (κ × α)} {z : α} (q : κ) {zv : Value} (h : St n sy ρ a w χ) (hw : wantedS all sy g = true) (hd : Nat.blt d n = true)
    (hx : evo sy x = some (V (.map (some r)))) (hy : evo sy y = some (V (R.v q))) (hm : P.underlying t = some (.map kt et)) (hk : P.underlying kt = some R.d) (hz : (P.info? et).bind (·.zero) = some zv) (hzr : VR T ag w χ zv z) (hO : OM R T ag w χ col r m)
    (k : ∀ v a', VR T ag w χ v ((mget m q).getD z) → St n ⟨(d, V (.tuple #[v, .bool (mget m q).isSome])) :: sy.regs, sy.boxes⟩ ρ a' w χ → K a' w) :
    wp1 P all.toArray Q ⟨some d, .lookup t x y true, ty, pos, af, g⟩ K a w := by
  obtain ⟨h1, es, clock, h2, h3⟩ := hO
  have ex : a.eval x = .map (some r) := h.evo hx
  have ey : a.eval y = R.v q := h.evo hy
  obtain ⟨zs, hzi, hzv⟩ := Option.bind_eq_some_iff.1 hz
  have hzz : (zeroValue et).run P w = .ok zv w := by simp [zeroValue, typeInfo, hzi, hzv]
  rcases EL.find q 0 h3 with ⟨g1, g2, _⟩ | ⟨j, e, x', g1, g2, g3, g4, g5, _⟩
  · refine stepV h hw hd (Ev.refl xnone w χ) (fun _ _ => rfl) (v := .tuple #[zv, .bool (mget m q).isSome]) (w' := w) ?_ (fun a' h' => k _ a' (by rw [g2]; exact hzr) h')
    simp [execOp, ex, ey, Instr.lookup, run_underlying hm, MapKept.run_getObj_map h2, MapKept.run_checkKey hk (R.isk q), MapKept.run_findKey hk g1, hzz, g2]
  · refine stepV h hw hd (Ev.refl xnone w χ) (fun _ _ => rfl) (v := .tuple #[e.val, .bool (mget m q).isSome]) (w' := w) ?_ (fun a' h' => k _ a' (by rw [g4]; exact g5) h')
    simp [execOp, ex, ey, Instr.lookup, run_underlying hm, MapKept.run_getObj_map h2, MapKept.run_checkKey hk (R.isk q), MapKept.run_findKey hk g1, g4]

/-- 'm[k] = v' -/
theorem mset {κ α : Type} [DecidableEq κ] (R : KRep κ) (T : TRep α) (ag : Bool) {t kt et col r : Nat} {x y z : Operand} {m : List (κ × α)} {v : SV} {u : α} (q : κ) (h : St n sy ρ a w χ) (hw : wantedS all sy g = true)
    (hx : evo sy x = some (V (.map (some r)))) (hy : evo sy y = some (V (R.v q))) (hv : evo sy z = some v) (hm : P.underlying t = some (.map kt et)) (hk : P.underlying kt = some R.d) (hcol : Nat.ble 1000 col = true) (hO : OM R T ag w χ col r m) (hR : VR T ag w χ (conc ρ v) u)
    (k : ∀ a' w', Ev (xone col) w χ w' χ → OM R T ag w' χ col r (mput m q u) → St n sy ρ a' w' χ → K a' w') :
    wp1 P all.toArray Q ⟨none, .mapUpdate t x y z, ty, pos, af, g⟩ K a w := by
  obtain ⟨h1, es, clock, h2, h3⟩ := hO
  have ex : a.eval x = .map (some r) := h.evo hx
  have ey : a.eval y = R.v q := h.evo hy
  have ez : a.eval z = conc ρ v := h.evo hv
  have hc0 : col ≠ 0 := by have := Nat.le_of_ble_eq_true hcol; omega
  refine wp1_wanted (wantedS_wanted h (o := ⟨none, .mapUpdate t x y z, ty, pos, af, g⟩) hw) ?_
  have fin : ∀ (es' : Array MapEntry) (clock' : Nat), EL R T ag w χ es'.toList (mput m q u) → ({ w with heap := w.heap.setIfInBounds r (.map es' clock') } : World).heap.size = w.heap.size ∧ Ev (xone col) w χ { w with heap := w.heap.setIfInBounds r (.map es' clock') } χ ∧ OM R T ag { w with heap := w.heap.setIfInBounds r (.map es' clock') } χ col r (mput m q u) := by
    intro es' clock' he
    have hs := MapKept.heap_set (w := w) (o' := .map es' clock') h2
    have ev : Ev (xone col) w χ { w with heap := w.heap.setIfInBounds r (.map es' clock') } χ := ⟨rfl, rfl, rfl, by simp, fun b' _ hp => ⟨hs.2 b' (by intro e; rw [e, h1] at hp; simp [xone] at hp), rfl⟩⟩
    have mm := ev.m0 (show xone col 0 = false by cases h : xone col 0 with | false => rfl | true => exact absurd (Nat.eq_of_beq_eq_true h).symm hc0)
    exact ⟨by simp, ev, h1, es', clock', hs.1, he.mono mm⟩
  unfold Oper.wp
  rcases EL.find q 0 h3 with ⟨g1, g2, g3⟩ | ⟨j, e, x', g1, g2, g3, g4, g5, g6⟩
  · have hel := g3 u { key := R.v q, val := conc ρ v, born := clock } rfl hR
    obtain ⟨_, ev, hom⟩ := fin (es.push { key := R.v q, val := conc ρ v, born := clock }) (clock + 1) (by rw [Array.toList_push]; exact hel)
    have hr : (execOp a.eval ⟨none, .mapUpdate t x y z, ty, pos, af, g⟩).run P w = .ok .skip { w with heap := w.heap.setIfInBounds r (.map (es.push { key := R.v q, val := conc ρ v, born := clock }) (clock + 1)) } := by
      simp [execOp, ex, ey, ez, Instr.mapUpdate, run_underlying hm, MapKept.run_getObj_map h2, MapKept.run_checkKey hk (R.isk q), MapKept.run_findKey hk g1, MapKept.run_setObj_map _ h2]
    rw [hr]
    exact k _ _ ev hom (h.ev ev (xone_box hcol))
  · have hj : es[j]? = some e := by simpa using g2
    have hel := g6 (fun e => { e with key := R.v q, val := conc ρ v }) u rfl hR
    obtain ⟨_, ev, hom⟩ := fin (es.modify j fun e => { e with key := R.v q, val := conc ρ v }) clock (by rw [Array.toList_modify]; exact hel)
    have hr : (execOp a.eval ⟨none, .mapUpdate t x y z, ty, pos, af, g⟩).run P w = .ok .skip { w with heap := w.heap.setIfInBounds r (.map (es.modify j fun e => { e with key := R.v q, val := conc ρ v }) clock) } := by
      simp [execOp, ex, ey, ez, Instr.mapUpdate, run_underlying hm, MapKept.run_getObj_map h2, MapKept.run_checkKey hk (R.isk q), MapKept.run_findKey hk g1, hj, g3, MapKept.run_keyThatStays (R.isk q), MapKept.run_setObj_map _ h2]
    rw [hr]
    exact k _ _ ev hom (h.ev ev (xone_box hcol))

/-! ### Maps handed in and out; boxes that a call made -/
theorem OM.map {κ α : Type} {R : KRep κ} {T : TRep α} {ag : Bool} {i j r : Nat} {m : List (κ × α)} {f : Nat → Nat} (h : OM R T ag w χ i r m) (hf : f i = j) (m0 : M0 w χ w (fun b => f (χ b))) : OM R T ag w (fun b => f (χ b)) j r m := by
  obtain ⟨h1, es, clock, h2, h3⟩ := h
  exact ⟨by show f (χ r) = j; rw [h1, hf], es, clock, h2, h3.mono m0⟩
theorem OM.out {κ α : Type} {R : KRep κ} {T : TRep α} {ag : Bool} {k i r : Nat} {m : List (κ × α)} {χ' : Nat → Nat} {f : Nat → Nat} (h : OM R T ag w χ k r m) (mm : M0 w χ w χ') (hC : ∀ b, χ b ≠ 0 → χ b ≠ 1000 → χ' b = f (χ b)) (h0 : Nat.ble 1001 k = true) (hf : f k = i) : OM R T ag w χ' i r m := by
  obtain ⟨h1, es, clock, h2, h3⟩ := h
  have := Nat.le_of_ble_eq_true h0
  exact ⟨by rw [hC r (by omega) (by omega), h1, hf], es, clock, h2, h3.mono mm⟩

def upd (ρ : Nat → Nat) (id b : Nat) (q : Nat) : Nat := bif Nat.beq q id then b else ρ q
theorem upd_ne {ρ : Nat → Nat} {id b : Nat} : ∀ q, q ≠ id → upd ρ id b q = ρ q := fun q h => by
  unfold upd
  cases hb : Nat.beq q id with
  | true => exact absurd (Nat.eq_of_beq_eq_true hb) h
  | false => rfl
theorem St.newbox (h : St n sy ρ a w χ) {id t b : Nat} {cs : List SV} {vals : List Value} (hno : noBox id sy = true) (hx : xbox id = true) (hc : Cell w χ b id t vals) (hv : cs.map (conc (upd ρ id b)) = vals) : St n ⟨sy.regs, (id, (t, cs)) :: sy.boxes⟩ (upd ρ id b) a w χ := by
  unfold noBox at hno
  rw [Bool.and_eq_true, List.all_eq_true, List.all_eq_true] at hno
  have mem : ∀ {β : Type} {l : List (Nat × β)} {k : Nat} {v : β}, look l k = some v → (k, v) ∈ l := by
    intro β l
    induction l with
    | nil => intro k v hq; cases hq
    | cons q l ih =>
      intro k v hq
      obtain ⟨k', v'⟩ := q
      rcases look_cons hq with ⟨rfl, rfl⟩ | ⟨_, hq'⟩
      · exact List.mem_cons_self ..
      · exact List.mem_cons_of_mem _ (ih hq')
  have same : ∀ {c : SV}, names id c = false → conc (upd ρ id b) c = conc ρ c := fun hn => conc_same (k := id) upd_ne hn
  refine ⟨h.size, h.defers, fun t' sv hq => ?_, fun id' q hq => ?_⟩
  · have hn := hno.1 _ (mem hq)
    simp only [Bool.not_eq_true'] at hn
    rw [same hn]
    exact h.regs t' sv hq
  · rcases look_cons hq with ⟨rfl, rfl⟩ | ⟨hne, hq'⟩
    · refine ⟨?_, hx, ?_⟩
      · show χ (upd ρ id b id) = id
        have : upd ρ id b id = b := by simp [upd]
        rw [this]; exact hc.1
      · show w.heap[upd ρ id b id]? = _
        have : upd ρ id b id = b := by simp [upd]
        rw [this, hv]; exact hc.2
    · have hb := h.boxes id' q hq'
      have hn := hno.2 _ (mem hq')
      rw [Bool.and_eq_true, List.all_eq_true] at hn
      have hid : upd ρ id b id' = ρ id' := upd_ne id' (by intro e; rw [e] at hn; simp at hn)
      rw [hid]
      refine ⟨hb.1, hb.2.1, ?_⟩
      have hm : q.2.map (conc (upd ρ id b)) = q.2.map (conc ρ) := by
        apply List.map_congr_left
        intro c hcm
        have := hn.2 c hcm
        simp only [Bool.not_eq_true'] at this
        exact same this
      rw [hm]
      exact hb.2.2
theorem St.convS (h : St n sy ρ a w χ) {t : Nat} {x y : SV} (hl : look sy.regs t = some x) (hb : conc ρ x = conc ρ y) : St n ⟨(t, y) :: sy.regs, sy.boxes⟩ ρ a w χ := by
  refine ⟨h.size, h.defers, ?_, h.boxes⟩
  intro t' sv e
  rcases look_cons e with ⟨rfl, rfl⟩ | ⟨_, e'⟩
  · rw [← hb]; exact h.regs _ _ hl
  · exact h.regs _ _ e'

theorem dslice2 {α : Type} {T : TRep α} {nrm ret : Act → World → Prop} {exs : List (Nat × (Act → World → Prop))} {S : World → Prop} {listed : Array Bool} {fuel : Nat} (TT : TabOK P tab) (q : Nat) {t E : Nat} {x lo hi : Operand} {ad : Option Addr} {xs : List α} {c : Nat} {kl kh : IntKind} {l hh : Int} (h : St n sy ρ a w χ) (hns : Region.noSelect all.toArray = true) (hd : Nat.blt d n = true) (hc : (Region.free .any all.toArray listed q && (Region.ready .any all.toArray listed).contains q) = true) (ho : all[q]? = some ⟨some d, .slice t x (some lo) (some hi) none, ty, pos, af, g⟩) (hw : wantedS all sy g = true) (H : S w)
    (hx : evo sy x = some (V (.slice ad xs.length c))) (hlo : evo sy lo = some (V (.int kl l))) (hhi : evo sy hi = some (V (.int kh hh))) (hR : RS T w χ ad xs c) (ht : isSl tab t E = true) (hs : szIs tab E T.n = true) (h0 : 0 ≤ l) (h1 : l ≤ hh) (h2 : hh ≤ xs.length)
    (k : ∀ ad' c' a', RS T w χ ad' ((xs.take hh.toNat).drop l.toNat) c' → St n ⟨(d, V (.slice ad' ((xs.take hh.toNat).drop l.toNat).length c')) :: sy.regs, sy.boxes⟩ ρ a' w χ → Dr P all (qs nrm ret exs) S (listed.setIfInBounds q true) fuel a' w) :
    Dr P all (qs nrm ret exs) S listed (fuel + 1) a w := by
  obtain ⟨inf, hi', hm⟩ := szIs_i TT hs
  have hu := isSl_u TT ht
  have hcap := hR.cap
  have hR' := hR.cut (l := l.toNat) (h := hh.toNat) (by omega) (by omega)
  refine takeV q h hns hd hc ho hw H (fun w1 _ => ?_) (fun a' h' => k _ _ a' hR' h')
  have ex : a.eval x = .slice ad xs.length c := h.evo hx
  have el : a.eval lo = .int kl l := h.evo hlo
  have eh : a.eval hi = .int kh hh := h.evo hhi
  have hlen : ((xs.take hh.toNat).drop l.toNat).length = hh.toNat - l.toNat := by simp; omega
  have e1 : (0 : Int) ≤ hh := by omega
  have e2 : hh ≤ (c : Int) := by omega
  have e3 : l ≤ ((hh.toNat : Nat) : Int) := by omega
  rw [hlen]
  simp [execOp, ex, el, eh, Instr.sliceAt, Instr.slice, run_underlying hu, Instr.sliceBounds, Instr.sliceBound, asIntOf, e1, e2, h0, run_sizeOf hi', hm]
  omega

theorem dslice1 {α : Type} {T : TRep α} {nrm ret : Act → World → Prop} {exs : List (Nat × (Act → World → Prop))} {S : World → Prop} {listed : Array Bool} {fuel : Nat} (TT : TabOK P tab) (q : Nat) {t E : Nat} {x lo : Operand} {ad : Option Addr} {xs : List α} {c : Nat} {kl : IntKind} {l : Int} (h : St n sy ρ a w χ) (hns : Region.noSelect all.toArray = true) (hd : Nat.blt d n = true) (hc : (Region.free .any all.toArray listed q && (Region.ready .any all.toArray listed).contains q) = true) (ho : all[q]? = some ⟨some d, .slice t x (some lo) none none, ty, pos, af, g⟩) (hw : wantedS all sy g = true) (H : S w)
    (hx : evo sy x = some (V (.slice ad xs.length c))) (hlo : evo sy lo = some (V (.int kl l))) (hR : RS T w χ ad xs c) (ht : isSl tab t E = true) (hs : szIs tab E T.n = true) (h0 : 0 ≤ l) (h2 : l ≤ xs.length)
    (k : ∀ ad' c' a', RS T w χ ad' (xs.drop l.toNat) c' → St n ⟨(d, V (.slice ad' (xs.drop l.toNat).length c')) :: sy.regs, sy.boxes⟩ ρ a' w χ → Dr P all (qs nrm ret exs) S (listed.setIfInBounds q true) fuel a' w) :
    Dr P all (qs nrm ret exs) S listed (fuel + 1) a w := by
  obtain ⟨inf, hi', hm⟩ := szIs_i TT hs
  have hu := isSl_u TT ht
  have hcap := hR.cap
  have hR' := hR.cut (l := l.toNat) (h := xs.length) (by omega) (by omega)
  rw [List.take_length] at hR'
  refine takeV q h hns hd hc ho hw H (fun w1 _ => ?_) (fun a' h' => k _ _ a' hR' h')
  have ex : a.eval x = .slice ad xs.length c := h.evo hx
  have el : a.eval lo = .int kl l := h.evo hlo
  have e3 : l ≤ (xs.length : Int) := by omega
  simp [execOp, ex, el, Instr.sliceAt, Instr.slice, run_underlying hu, Instr.sliceBounds, Instr.sliceBound, asIntOf, h0, e3, run_sizeOf hi', hm]

theorem dslice0 {α : Type} {T : TRep α} {nrm ret : Act → World → Prop} {exs : List (Nat × (Act → World → Prop))} {S : World → Prop} {listed : Array Bool} {fuel : Nat} (TT : TabOK P tab) (q : Nat) {t E : Nat} {x hi : Operand} {ad : Option Addr} {xs : List α} {c : Nat} {kh : IntKind} {hh : Int} (h : St n sy ρ a w χ) (hns : Region.noSelect all.toArray = true) (hd : Nat.blt d n = true) (hc : (Region.free .any all.toArray listed q && (Region.ready .any all.toArray listed).contains q) = true) (ho : all[q]? = some ⟨some d, .slice t x none (some hi) none, ty, pos, af, g⟩) (hw : wantedS all sy g = true) (H : S w)
    (hx : evo sy x = some (V (.slice ad xs.length c))) (hhi : evo sy hi = some (V (.int kh hh))) (hR : RS T w χ ad xs c) (ht : isSl tab t E = true) (hs : szIs tab E T.n = true) (h0 : 0 ≤ hh) (h2 : hh ≤ xs.length)
    (k : ∀ ad' c' a', RS T w χ ad' (xs.take hh.toNat) c' → St n ⟨(d, V (.slice ad' (xs.take hh.toNat).length c')) :: sy.regs, sy.boxes⟩ ρ a' w χ → Dr P all (qs nrm ret exs) S (listed.setIfInBounds q true) fuel a' w) :
    Dr P all (qs nrm ret exs) S listed (fuel + 1) a w := by
  obtain ⟨inf, hi', hm⟩ := szIs_i TT hs
  have hu := isSl_u TT ht
  have hcap := hR.cap
  have hR' := hR.cut (l := 0) (h := hh.toNat) (by omega) (by omega)
  rw [List.drop_zero] at hR'
  refine takeV q h hns hd hc ho hw H (fun w1 _ => ?_) (fun a' h' => k _ _ a' hR' h')
  have ex : a.eval x = .slice ad xs.length c := h.evo hx
  have eh : a.eval hi = .int kh hh := h.evo hhi
  have e2 : hh ≤ (c : Int) := by omega
  have hlen : (xs.take hh.toNat).length = hh.toNat := by simp; omega
  rw [hlen]
  simp [execOp, ex, eh, Instr.sliceAt, Instr.slice, run_underlying hu, Instr.sliceBounds, Instr.sliceBound, asIntOf, h0, e2, run_sizeOf hi', hm]

/-- Several operations may come up. -/
theorem anyOf {nrm ret : Act → World → Prop} {exs : List (Nat × (Act → World → Prop))} {S : World → Prop} {listed : Array Bool} {fuel : Nat} {is : List Nat} (hr : Region.ready .any all.toArray listed = is) (hne : is ≠ [])
    (k : ∀ i ∈ is, ∃ o, all[i]? = some o ∧ wp1 P all.toArray (qs nrm ret exs) o (fun a' w' => S w' ∧ Dr P all (qs nrm ret exs) S (listed.setIfInBounds i true) fuel a' w') a w) : Dr P all (qs nrm ret exs) S listed (fuel + 1) a w := by
  unfold Dr
  refine wpAnyH_all hr hne ?_
  intro j hj
  obtain ⟨o, ho, hk⟩ := k j hj
  unfold wpOp
  rw [List.getElem?_toArray, ho]
  exact hk
theorem oneOp {i : Nat} {o : Oper} {Q' : Exit → Act → World → Prop} {K' : Act → World → Prop} (ho : all[i]? = some o) (k : wp1 P all.toArray Q' o K' a w) : ∃ o, all[i]? = some o ∧ wp1 P all.toArray Q' o K' a w := ⟨o, ho, k⟩
theorem mem2 {i a b : Nat} (h : i ∈ [a, b]) : i = a ∨ i = b := by simpa using h
theorem mem3 {i a b c : Nat} (h : i ∈ [a, b, c]) : i = a ∨ i = b ∨ i = c := by simpa using h

/-- Operations behind a guard that isn't known, up to the pick: both ways lead to a state that is told by the guard. -/
theorem takeM {nrm ret : Act → World → Prop} {exs : List (Nat × (Act → World → Prop))} {w0 : World} {χ0 : Nat → Nat} {bxs : List (Nat × (Nat × List SV))} {listed listed' : Array Bool} {m fuel tc : Nat} {b : Bool} {f : Bool → Sy} (TT : TabOK P tab) (is bks ks : List Nat) (h : St n sy ρ a w χ) (hl : look sy.regs tc = some (B b))
    (hns : Region.noSelect all.toArray = true) (hn : Nat.ble n 999 = true) (hb : filt bks sy = bxs) (H : Hold w0 χ0 bxs ρ w)
    (e1 : (match symTake tab n all bks is listed ⟨(tc, B true) :: sy.regs, sy.boxes⟩ with | some (l, s) => some (l, (⟨(keep ks [] s).regs, sy.boxes⟩ : Sy)) | none => none) = some (listed', f true))
    (e2 : (match symTake tab n all bks is listed ⟨(tc, B false) :: sy.regs, sy.boxes⟩ with | some (l, s) => some (l, (⟨(keep ks [] s).regs, sy.boxes⟩ : Sy)) | none => none) = some (listed', f false)) (hf : m = fuel + is.length)
    (k : ∀ a', St n (f b) ρ a' w χ → Dr P all (qs nrm ret exs) (Hold w0 χ0 bxs ρ) listed' fuel a' w) : Dr P all (qs nrm ret exs) (Hold w0 χ0 bxs ρ) listed m a w := by
  have hc : St n ⟨(tc, B b) :: sy.regs, sy.boxes⟩ ρ a w χ := h.conv hl rfl
  cases b with
  | true => exact take TT is bks ks hc hns hn hb H e1 hf k
  | false => exact take TT is bks ks hc hns hn hb H e2 hf k

def noG (exs : List (Nat × (Act → World → Prop))) : Bool := exs.all (fun q => Nat.beq (q.1 % 2) 0)
theorem noG_look {exs : List (Nat × (Act → World → Prop))} (h : noG exs = true) (l : Nat) : look exs (2 * l + 1) = none := by
  induction exs with
  | nil => rfl
  | cons q exs ih =>
    obtain ⟨k, K⟩ := q
    simp only [noG, List.all_cons, Bool.and_eq_true] at h
    simp only [look]
    cases hb : Nat.beq k (2 * l + 1) with
    | true => have h1 := Nat.eq_of_beq_eq_true hb; have h2 := Nat.eq_of_beq_eq_true h.1; omega
    | false => exact ih h.2
theorem wscope {c : Code} {nrm ret : Act → World → Prop} {exs : List (Nat × (Act → World → Prop))} (hn : noG exs = true) (h : c.wp P (qs nrm ret exs) a w) : (Code.scope c).wp P (qs nrm ret exs) a w := by
  refine wp_scope_straight (wp_mono h fun e a w q => ?_)
  cases e with
  | goto l => simp only [qs, noG_look hn] at q
  | _ => exact q
theorem wlabel {l : Nat} {nrm ret : Act → World → Prop} {exs : List (Nat × (Act → World → Prop))} (h : nrm a w) : (Code.label l).wp P (qs nrm ret exs) a w := wp_label h

/-! ### Merging in a drawn region -/
theorem drawnX {id : Nat} {l : List Oper} {K ret : Act → World → Prop} {exs : List (Nat × (Act → World → Prop))} (bks : List Nat) (hm : P.follows .mixedOrders = true) (h : St n sy ρ a w χ)
    (k : ∀ w1 χ1, St n sy ρ a w1 χ1 → Ev xnone w χ w1 χ1 → M0 w1 χ1 w1 χ1 → Hold w1 χ1 (filt bks sy) ρ w1 → Dr P l (qs K ret exs) (Hold w1 χ1 (filt bks sy) ρ) (Array.replicate l.toArray.size false) l.toArray.size a w1) :
    (Code.region id l.toArray true).wp P (qs K ret exs) a w := drawn bks hm h (fun w1 => k w1 χ)
theorem drawnSX {id : Nat} {l : List Oper} {y : Code} {nrm ret : Act → World → Prop} {exs : List (Nat × (Act → World → Prop))} (bks : List Nat) (hm : P.follows .mixedOrders = true) (h : St n sy ρ a w χ)
    (k : ∀ w1 χ1, St n sy ρ a w1 χ1 → Ev xnone w χ w1 χ1 → M0 w1 χ1 w1 χ1 → Hold w1 χ1 (filt bks sy) ρ w1 → Dr P l (qs (y.wp P (qs nrm ret exs)) ret exs) (Hold w1 χ1 (filt bks sy) ρ) (Array.replicate l.toArray.size false) l.toArray.size a w1) :
    (Code.seq (Code.region id l.toArray true) y).wp P (qs nrm ret exs) a w := wseq (drawnX bks hm h k)
theorem drcut {Q : Exit → Act → World → Prop} {S : World → Prop} {listed : Array Bool} {fuel : Nat} (J : Act → World → Prop) (listed' : Array Bool) (fuel' : Nat)
    (k1 : ∀ a w, J a w → Dr P all Q S listed' fuel' a w) (k2 : (∀ a w, J a w → Dr P all Q S listed' fuel' a w) → Dr P all Q S listed fuel a w) : Dr P all Q S listed fuel a w := k2 k1
theorem mem4 {i a b c d : Nat} (h : i ∈ [a, b, c, d]) : i = a ∨ i = b ∨ i = c ∨ i = d := by simpa using h
theorem mem5 {i a b c d e : Nat} (h : i ∈ [a, b, c, d, e]) : i = a ∨ i = b ∨ i = c ∨ i = d ∨ i = e := by simpa using h

/-! ### Labels within a scope -/
def gts {σ : Type} (I : Nat → σ → Act → World → Prop) (μ : Nat → σ → Nat) (b : Nat → Prop) : List Nat → List (Nat × (Act → World → Prop))
  | [] => []
  | l :: ls => (2 * l + 1, fun a w => ∃ s, I l s a w ∧ b (μ l s)) :: gts I μ b ls
def restAt (c : Code) (l : Nat) : Code := match findLabel c l with | some (.seq .skip r) => r | _ => .skip
def labAt (c : Code) (l : Nat) : Bool := match findLabel c l with | some (.seq .skip _) => true | _ => false
theorem labAt_eq {c : Code} {l : Nat} (h : labAt c l = true) : findLabel c l = some (.seq .skip (restAt c l)) := by
  unfold labAt at h
  unfold restAt
  split at h
  · rename_i r e; rw [e]
  · cases h
theorem gts_even {σ : Type} {I : Nat → σ → Act → World → Prop} {μ : Nat → σ → Nat} {b : Nat → Prop} {exs : List (Nat × (Act → World → Prop))} (i : Nat) : ∀ ls, look (gts I μ b ls ++ exs) (2 * i) = look exs (2 * i)
  | [] => rfl
  | l :: ls => by
    show look ((2 * l + 1, _) :: (gts I μ b ls ++ exs)) (2 * i) = _
    simp only [look]
    cases hb : Nat.beq (2 * l + 1) (2 * i) with
    | true => have := Nat.eq_of_beq_eq_true hb; omega
    | false => exact gts_even i ls
theorem gts_odd {σ : Type} {I : Nat → σ → Act → World → Prop} {μ : Nat → σ → Nat} {b : Nat → Prop} {exs : List (Nat × (Act → World → Prop))} (hn : noG exs = true) (i : Nat) : ∀ ls, (match look (gts I μ b ls ++ exs) (2 * i + 1) with | some K => K a w | none => False) → i ∈ ls ∧ ∃ s, I i s a w ∧ b (μ i s)
  | [], h => by
    have e : gts I μ b [] ++ exs = exs := rfl
    rw [e, noG_look hn] at h
    exact h.elim
  | l :: ls, h => by
    have e : look (gts I μ b (l :: ls) ++ exs) (2 * i + 1) = bif Nat.beq (2 * l + 1) (2 * i + 1) then some (fun a w => ∃ s, I l s a w ∧ b (μ l s)) else look (gts I μ b ls ++ exs) (2 * i + 1) := rfl
    rw [e] at h
    cases hb : Nat.beq (2 * l + 1) (2 * i + 1) with
    | true =>
      have hq : l = i := by have := Nat.eq_of_beq_eq_true hb; omega
      subst hq
      rw [hb] at h
      exact ⟨List.mem_cons_self .., h⟩
    | false =>
      rw [hb] at h
      obtain ⟨h1, h2⟩ := gts_odd hn i ls h
      exact ⟨List.mem_cons_of_mem _ h1, h2⟩
theorem gts_mono {σ : Type} {I : Nat → σ → Act → World → Prop} {μ : Nat → σ → Nat} {b b' : Nat → Prop} {exs : List (Nat × (Act → World → Prop))} (hb : ∀ x, b x → b' x) (i : Nat) : ∀ ls, (match look (gts I μ b ls ++ exs) i with | some K => K a w | none => False) → (match look (gts I μ b' ls ++ exs) i with | some K => K a w | none => False)
  | [], h => h
  | l :: ls, h => by
    have e : ∀ b, look (gts I μ b (l :: ls) ++ exs) i = bif Nat.beq (2 * l + 1) i then some (fun a w => ∃ s, I l s a w ∧ b (μ l s)) else look (gts I μ b ls ++ exs) i := fun _ => rfl
    rw [e] at h ⊢
    cases hc : Nat.beq (2 * l + 1) i with
    | true =>
      rw [hc] at h
      obtain ⟨s, h1, h2⟩ := h
      exact ⟨s, h1, hb _ h2⟩
    | false => rw [hc] at h; exact gts_mono hb i ls h
/-- A jump. -/
theorem wgoto {l : Nat} {K nrm ret : Act → World → Prop} {exs : List (Nat × (Act → World → Prop))} (hk : look exs (2 * l + 1) = some K) (h : K a w) : (Code.goto l).wp P (qs nrm ret exs) a w := by
  refine wp_goto ?_
  simp only [qs, hk]
  exact h
/-- What is behind a label, met from above. -/
theorem wfall {σ : Type} {c : Code} {I : Nat → σ → Act → World → Prop} {μ : Nat → σ → Nat} {ls : List Nat} {nrm ret : Act → World → Prop} {exs : List (Nat × (Act → World → Prop))} {l : Nat} {b : Nat → Prop}
    (H : ∀ s a w, I l s a w → c.wp P (qs nrm ret (gts I μ (fun x => x < μ l s) ls ++ exs)) a w) (s : σ) (hI : I l s a w) (hb : ∀ x, x < μ l s → b x) : c.wp P (qs nrm ret (gts I μ b ls ++ exs)) a w := by
  refine wp_mono (H s a w hI) fun e a w q => ?_
  cases e with
  | exit i => exact gts_mono hb _ _ q
  | goto i => exact gts_mono hb _ _ q
  | _ => exact q
theorem wlabels {σ : Type} {c : Code} {nrm ret : Act → World → Prop} {exs : List (Nat × (Act → World → Prop))} (ls : List Nat) (I : Nat → σ → Act → World → Prop) (μ : Nat → σ → Nat) (hn : noG exs = true) (hl : ∀ l ∈ ls, labAt c l = true)
    (hp : ∀ l ∈ ls, ∀ s a w, I l s a w → (restAt c l).wp P (qs nrm ret (gts I μ (fun x => x < μ l s) ls ++ exs)) a w)
    (first : c.wp P (qs nrm ret (gts I μ (fun _ => True) ls ++ exs)) a w) : (Code.scope c).wp P (qs nrm ret exs) a w := by
  intro b k cs
  have key : ∀ n l s a w, l ∈ ls → μ l s = n → I l s a w → ∃ e a' w', qs nrm ret exs e a' w' ∧ Arrives P (lone (b.at a (.code (.seq .skip (restAt c l)) :: .inScope c :: k)) cs w) b k cs e a' w' := by
    intro n
    induction n using Nat.strongRecOn with
    | _ n ih =>
      intro l s a w hm hn' hI
      have hs : (Code.seq .skip (restAt c l)).wp P (qs nrm ret (gts I μ (fun x => x < μ l s) ls ++ exs)) a w := wseq (wskip (hp l hm s a w hI))
      obtain ⟨e, a₁, w₁, hq, harr⟩ := hs b (.inScope c :: k) cs
      cases e with
      | normal => exact ⟨.normal, a₁, w₁, hq, Steps.trans harr (.one step_inScope)⟩
      | exit id => exact ⟨.exit id, a₁, w₁, by simp only [qs, gts_even] at hq ⊢; exact hq, fun k' hk => harr k' (by simp [exitTo, hk])⟩
      | goto l' =>
        obtain ⟨hm', s', hI', hlt⟩ := gts_odd hn l' ls hq
        obtain ⟨e₂, a₂, w₂, hq₂, harr₂⟩ := ih _ (hn' ▸ hlt) l' s' a₁ w₁ hm' rfl hI'
        have hg : gotoIn l' (.inScope c :: k) = some (.code (.seq .skip (restAt c l')) :: .inScope c :: k) := by simp [gotoIn, labAt_eq (hl l' hm')]
        exact ⟨e₂, a₂, w₂, hq₂, .of_steps (harr _ hg) harr₂⟩
      | ret => exact ⟨.ret, a₁, w₁, hq, harr⟩
      | panic ch => exact hq.elim
      | outgrown => exact hq.elim
  obtain ⟨e, a₁, w₁, hq, harr⟩ := first b (.inScope c :: k) cs
  cases e with
  | normal => exact ⟨.normal, a₁, w₁, hq, .head step_scope (Steps.trans harr (.one step_inScope))⟩
  | exit id => exact ⟨.exit id, a₁, w₁, by simp only [qs, gts_even] at hq ⊢; exact hq, fun k' hk => .head step_scope (harr k' (by simp [exitTo, hk]))⟩
  | goto l' =>
    obtain ⟨hm', s', hI', _⟩ := gts_odd hn l' ls hq
    obtain ⟨e₂, a₂, w₂, hq₂, harr₂⟩ := key _ l' s' a₁ w₁ hm' rfl hI'
    have hg : gotoIn l' (.inScope c :: k) = some (.code (.seq .skip (restAt c l')) :: .inScope c :: k) := by simp [gotoIn, labAt_eq (hl l' hm')]
    exact ⟨e₂, a₂, w₂, hq₂, .of_steps (.head step_scope (harr _ hg)) harr₂⟩
  | ret => exact ⟨.ret, a₁, w₁, hq, .of_steps (.one step_scope) harr⟩
  | panic ch => exact hq.elim
  | outgrown => exact hq.elim
/-- Two labels, the second one behind the first. -/
theorem wlabels2 {σ : Type} {c : Code} {nrm ret : Act → World → Prop} {exs : List (Nat × (Act → World → Prop))} (l0 l1 : Nat) (I : Nat → σ → Act → World → Prop) (μ : Nat → σ → Nat) (hn : noG exs = true) (h0 : labAt c l0 = true) (h1 : labAt c l1 = true)
    (p1 : ∀ s a w, I l1 s a w → (restAt c l1).wp P (qs nrm ret (gts I μ (fun x => x < μ l1 s) [l0, l1] ++ exs)) a w)
    (p0 : (∀ s a w, I l1 s a w → (restAt c l1).wp P (qs nrm ret (gts I μ (fun x => x < μ l1 s) [l0, l1] ++ exs)) a w) → ∀ s a w, I l0 s a w → (restAt c l0).wp P (qs nrm ret (gts I μ (fun x => x < μ l0 s) [l0, l1] ++ exs)) a w)
    (first : (∀ s a w, I l0 s a w → (restAt c l0).wp P (qs nrm ret (gts I μ (fun x => x < μ l0 s) [l0, l1] ++ exs)) a w) → (∀ s a w, I l1 s a w → (restAt c l1).wp P (qs nrm ret (gts I μ (fun x => x < μ l1 s) [l0, l1] ++ exs)) a w) → c.wp P (qs nrm ret (gts I μ (fun _ => True) [l0, l1] ++ exs)) a w) : (Code.scope c).wp P (qs nrm ret exs) a w :=
  wlabels [l0, l1] I μ hn (fun l h => by rcases mem2 h with rfl | rfl <;> assumption) (fun l h => by rcases mem2 h with rfl | rfl; exact p0 p1; exact p1) (first (p0 p1) p1)
theorem wlabels1 {σ : Type} {c : Code} {nrm ret : Act → World → Prop} {exs : List (Nat × (Act → World → Prop))} (l0 : Nat) (I : Nat → σ → Act → World → Prop) (μ : Nat → σ → Nat) (hn : noG exs = true) (h0 : labAt c l0 = true)
    (p0 : ∀ s a w, I l0 s a w → (restAt c l0).wp P (qs nrm ret (gts I μ (fun x => x < μ l0 s) [l0] ++ exs)) a w)
    (first : (∀ s a w, I l0 s a w → (restAt c l0).wp P (qs nrm ret (gts I μ (fun x => x < μ l0 s) [l0] ++ exs)) a w) → c.wp P (qs nrm ret (gts I μ (fun _ => True) [l0] ++ exs)) a w) : (Code.scope c).wp P (qs nrm ret exs) a w :=
  wlabels [l0] I μ hn (fun l h => by have := List.mem_singleton.mp h; subst this; exact h0) (fun l h => by have := List.mem_singleton.mp h; subst this; exact p0) (first p0)

/-! ### Strings -/
theorem bs_extract (s : List UInt8) (l h : Nat) : (bs s).extract l h = bs ((s.take h).drop l) := by
  apply ByteArray.ext
  apply Array.toList_inj.mp
  rw [ByteArray.data_extract]
  simp [bs, List.take_drop]
  by_cases hl : l ≤ h
  · rw [show l + (h - l) = h by omega]
  · rw [List.drop_eq_nil_of_le (by rw [List.length_take]; omega), List.drop_eq_nil_of_le (by rw [List.length_take]; omega)]
theorem bs_append (s t : List UInt8) : bs s ++ bs t = bs (s ++ t) := by
  apply ByteArray.ext
  apply Array.toList_inj.mp
  rw [ByteArray.data_append]
  simp [bs]
/-- 's[l:h]' of a string -/
theorem sslice2 (TT : TabOK P tab) {t : Nat} {x lo hi : Operand} {s : List UInt8} {kl kh : IntKind} {l hh : Int} (h : St n sy ρ a w χ) (hw : wantedS all sy g = true) (hd : Nat.blt d n = true)
    (hx : evo sy x = some (V (.string (bs s)))) (hlo : evo sy lo = some (V (.int kl l))) (hhi : evo sy hi = some (V (.int kh hh))) (ht : isStr tab t = true) (h0 : 0 ≤ l) (h1 : l ≤ hh) (h2 : hh ≤ s.length)
    (k : ∀ a', St n ⟨(d, V (.string (bs ((s.take hh.toNat).drop l.toNat)))) :: sy.regs, sy.boxes⟩ ρ a' w χ → K a' w) :
    wp1 P all.toArray Q ⟨some d, .slice t x (some lo) (some hi) none, ty, pos, af, g⟩ K a w := by
  refine stepV h hw hd (Ev.refl xnone w χ) (fun _ _ => rfl) (w' := w) ?_ (fun a' h' => k a' h')
  have ex : a.eval x = .string (bs s) := h.evo hx
  have el : a.eval lo = .int kl l := h.evo hlo
  have eh : a.eval hi = .int kh hh := h.evo hhi
  have e1 : (0 : Int) ≤ hh := by omega
  have e2 : hh ≤ ((bs s).size : Int) := by rw [bs_size]; omega
  have e3 : l ≤ ((hh.toNat : Nat) : Int) := by omega
  rw [← bs_extract]
  simp [execOp, ex, el, eh, Instr.sliceAt, Instr.slice, run_underlying (isStr_u TT ht), Instr.sliceBounds, Instr.sliceBound, asIntOf, e1, e2, h0]
  omega
theorem sslice1 (TT : TabOK P tab) {t : Nat} {x lo : Operand} {s : List UInt8} {kl : IntKind} {l : Int} (h : St n sy ρ a w χ) (hw : wantedS all sy g = true) (hd : Nat.blt d n = true)
    (hx : evo sy x = some (V (.string (bs s)))) (hlo : evo sy lo = some (V (.int kl l))) (ht : isStr tab t = true) (h0 : 0 ≤ l) (h1 : l ≤ s.length)
    (k : ∀ a', St n ⟨(d, V (.string (bs (s.drop l.toNat)))) :: sy.regs, sy.boxes⟩ ρ a' w χ → K a' w) :
    wp1 P all.toArray Q ⟨some d, .slice t x (some lo) none none, ty, pos, af, g⟩ K a w := by
  refine stepV h hw hd (Ev.refl xnone w χ) (fun _ _ => rfl) (w' := w) ?_ (fun a' h' => k a' h')
  have ex : a.eval x = .string (bs s) := h.evo hx
  have el : a.eval lo = .int kl l := h.evo hlo
  have e2 : l ≤ ((bs s).size : Int) := by rw [bs_size]; omega
  have hq : bs (s.drop l.toNat) = (bs s).extract l.toNat (bs s).size := by rw [bs_extract, bs_size, List.take_length]
  rw [hq]
  simp [execOp, ex, el, Instr.sliceAt, Instr.slice, run_underlying (isStr_u TT ht), Instr.sliceBounds, Instr.sliceBound, asIntOf, e2, h0]
theorem sslice0 (TT : TabOK P tab) {t : Nat} {x hi : Operand} {s : List UInt8} {kh : IntKind} {hh : Int} (h : St n sy ρ a w χ) (hw : wantedS all sy g = true) (hd : Nat.blt d n = true)
    (hx : evo sy x = some (V (.string (bs s)))) (hhi : evo sy hi = some (V (.int kh hh))) (ht : isStr tab t = true) (h1 : 0 ≤ hh) (h2 : hh ≤ s.length)
    (k : ∀ a', St n ⟨(d, V (.string (bs (s.take hh.toNat)))) :: sy.regs, sy.boxes⟩ ρ a' w χ → K a' w) :
    wp1 P all.toArray Q ⟨some d, .slice t x none (some hi) none, ty, pos, af, g⟩ K a w := by
  refine stepV h hw hd (Ev.refl xnone w χ) (fun _ _ => rfl) (w' := w) ?_ (fun a' h' => k a' h')
  have ex : a.eval x = .string (bs s) := h.evo hx
  have eh : a.eval hi = .int kh hh := h.evo hhi
  have e2 : hh ≤ ((bs s).size : Int) := by rw [bs_size]; omega
  have hq : bs (s.take hh.toNat) = (bs s).extract 0 hh.toNat := by rw [bs_extract, List.drop_zero]
  rw [hq]
  simp [execOp, ex, eh, Instr.sliceAt, Instr.slice, run_underlying (isStr_u TT ht), Instr.sliceBounds, Instr.sliceBound, asIntOf, e2, h1]
theorem dsslice2 {nrm ret : Act → World → Prop} {exs : List (Nat × (Act → World → Prop))} {S : World → Prop} {listed : Array Bool} {fuel : Nat} (TT : TabOK P tab) (q : Nat) {t : Nat} {x lo hi : Operand} {s : List UInt8} {kl kh : IntKind} {l hh : Int} (h : St n sy ρ a w χ) (hns : Region.noSelect all.toArray = true) (hd : Nat.blt d n = true) (hc : (Region.free .any all.toArray listed q && (Region.ready .any all.toArray listed).contains q) = true) (ho : all[q]? = some ⟨some d, .slice t x (some lo) (some hi) none, ty, pos, af, g⟩) (hw : wantedS all sy g = true) (H : S w)
    (hx : evo sy x = some (V (.string (bs s)))) (hlo : evo sy lo = some (V (.int kl l))) (hhi : evo sy hi = some (V (.int kh hh))) (ht : isStr tab t = true) (h0 : 0 ≤ l) (h1 : l ≤ hh) (h2 : hh ≤ s.length)
    (k : ∀ a', St n ⟨(d, V (.string (bs ((s.take hh.toNat).drop l.toNat)))) :: sy.regs, sy.boxes⟩ ρ a' w χ → Dr P all (qs nrm ret exs) S (listed.setIfInBounds q true) fuel a' w) : Dr P all (qs nrm ret exs) S listed (fuel + 1) a w := by
  refine takeV q h hns hd hc ho hw H (fun w1 _ => ?_) (fun a' h' => k a' h')
  have ex : a.eval x = .string (bs s) := h.evo hx
  have el : a.eval lo = .int kl l := h.evo hlo
  have eh : a.eval hi = .int kh hh := h.evo hhi
  have e1 : (0 : Int) ≤ hh := by omega
  have e2 : hh ≤ ((bs s).size : Int) := by rw [bs_size]; omega
  have e3 : l ≤ ((hh.toNat : Nat) : Int) := by omega
  rw [← bs_extract]
  simp [execOp, ex, el, eh, Instr.sliceAt, Instr.slice, run_underlying (isStr_u TT ht), Instr.sliceBounds, Instr.sliceBound, asIntOf, e1, e2, h0]
  omega
theorem dsslice1 {nrm ret : Act → World → Prop} {exs : List (Nat × (Act → World → Prop))} {S : World → Prop} {listed : Array Bool} {fuel : Nat} (TT : TabOK P tab) (q : Nat) {t : Nat} {x lo : Operand} {s : List UInt8} {kl : IntKind} {l : Int} (h : St n sy ρ a w χ) (hns : Region.noSelect all.toArray = true) (hd : Nat.blt d n = true) (hc : (Region.free .any all.toArray listed q && (Region.ready .any all.toArray listed).contains q) = true) (ho : all[q]? = some ⟨some d, .slice t x (some lo) none none, ty, pos, af, g⟩) (hw : wantedS all sy g = true) (H : S w)
    (hx : evo sy x = some (V (.string (bs s)))) (hlo : evo sy lo = some (V (.int kl l))) (ht : isStr tab t = true) (h0 : 0 ≤ l) (h1 : l ≤ s.length)
    (k : ∀ a', St n ⟨(d, V (.string (bs (s.drop l.toNat)))) :: sy.regs, sy.boxes⟩ ρ a' w χ → Dr P all (qs nrm ret exs) S (listed.setIfInBounds q true) fuel a' w) : Dr P all (qs nrm ret exs) S listed (fuel + 1) a w := by
  refine takeV q h hns hd hc ho hw H (fun w1 _ => ?_) (fun a' h' => k a' h')
  have ex : a.eval x = .string (bs s) := h.evo hx
  have el : a.eval lo = .int kl l := h.evo hlo
  have e2 : l ≤ ((bs s).size : Int) := by rw [bs_size]; omega
  have hq : bs (s.drop l.toNat) = (bs s).extract l.toNat (bs s).size := by rw [bs_extract, bs_size, List.take_length]
  rw [hq]
  simp [execOp, ex, el, Instr.sliceAt, Instr.slice, run_underlying (isStr_u TT ht), Instr.sliceBounds, Instr.sliceBound, asIntOf, e2, h0]
theorem dsslice0 {nrm ret : Act → World → Prop} {exs : List (Nat × (Act → World → Prop))} {S : World → Prop} {listed : Array Bool} {fuel : Nat} (TT : TabOK P tab) (q : Nat) {t : Nat} {x hi : Operand} {s : List UInt8} {kh : IntKind} {hh : Int} (h : St n sy ρ a w χ) (hns : Region.noSelect all.toArray = true) (hd : Nat.blt d n = true) (hc : (Region.free .any all.toArray listed q && (Region.ready .any all.toArray listed).contains q) = true) (ho : all[q]? = some ⟨some d, .slice t x none (some hi) none, ty, pos, af, g⟩) (hw : wantedS all sy g = true) (H : S w)
    (hx : evo sy x = some (V (.string (bs s)))) (hhi : evo sy hi = some (V (.int kh hh))) (ht : isStr tab t = true) (h1 : 0 ≤ hh) (h2 : hh ≤ s.length)
    (k : ∀ a', St n ⟨(d, V (.string (bs (s.take hh.toNat)))) :: sy.regs, sy.boxes⟩ ρ a' w χ → Dr P all (qs nrm ret exs) S (listed.setIfInBounds q true) fuel a' w) : Dr P all (qs nrm ret exs) S listed (fuel + 1) a w := by
  refine takeV q h hns hd hc ho hw H (fun w1 _ => ?_) (fun a' h' => k a' h')
  have ex : a.eval x = .string (bs s) := h.evo hx
  have eh : a.eval hi = .int kh hh := h.evo hhi
  have e2 : hh ≤ ((bs s).size : Int) := by rw [bs_size]; omega
  have hq : bs (s.take hh.toNat) = (bs s).extract 0 hh.toNat := by rw [bs_extract, List.drop_zero]
  rw [hq]
  simp [execOp, ex, eh, Instr.sliceAt, Instr.slice, run_underlying (isStr_u TT ht), Instr.sliceBounds, Instr.sliceBound, asIntOf, e2, h1]
theorem dsindex {nrm ret : Act → World → Prop} {exs : List (Nat × (Act → World → Prop))} {S : World → Prop} {listed : Array Bool} {fuel : Nat} (TT : TabOK P tab) (q : Nat) {t : Nat} {x y : Operand} {s : List UInt8} {k : IntKind} {i : Int} (h : St n sy ρ a w χ) (hns : Region.noSelect all.toArray = true) (hd : Nat.blt d n = true) (hc : (Region.free .any all.toArray listed q && (Region.ready .any all.toArray listed).contains q) = true) (ho : all[q]? = some ⟨some d, .index t x y, ty, pos, af, g⟩) (hw : wantedS all sy g = true) (H : S w)
    (hx : evo sy x = some (V (.string (bs s)))) (hy : evo sy y = some (V (.int k i))) (ht : isStr tab t = true) (h0 : 0 ≤ i) (h1 : i < s.length)
    (kk : ∀ a', St n ⟨(d, V (.int .u8 (gi s i).toNat)) :: sy.regs, sy.boxes⟩ ρ a' w χ → Dr P all (qs nrm ret exs) S (listed.setIfInBounds q true) fuel a' w) : Dr P all (qs nrm ret exs) S listed (fuel + 1) a w := by
  refine takeV q h hns hd hc ho hw H (fun w1 _ => ?_) (fun a' h' => kk a' h')
  have ex : a.eval x = .string (bs s) := h.evo hx
  have ey : a.eval y = .int k i := h.evo hy
  have hget : (bs s)[i.toNat]? = some (gi s i) := by rw [bs_get]; exact gi_some h0 h1
  simp [execOp, ex, ey, Instr.index, asIntOf, run_underlying (isStr_u TT ht), h0, hget]
/-- 's + t' -/
theorem sadd {x y : Operand} {t yt : Nat} {p q : List UInt8} (h : St n sy ρ a w χ) (hw : wantedS all sy g = true) (hd : Nat.blt d n = true) (hx : evo sy x = some (V (.string (bs p)))) (hy : evo sy y = some (V (.string (bs q)))) (hq : p.length + q.length ≤ 4611686018427387904)
    (kk : ∀ a', St n ⟨(d, V (.string (bs (p ++ q)))) :: sy.regs, sy.boxes⟩ ρ a' w χ → K a' w) : wp1 P all.toArray Q ⟨some d, .binOp .add t x y yt, ty, pos, af, g⟩ K a w := by
  refine stepV h hw hd (Ev.refl xnone w χ) (fun _ _ => rfl) (w' := w) ?_ (fun a' h' => kk a' h')
  have ex : a.eval x = .string (bs p) := h.evo hx
  have ey : a.eval y = .string (bs q) := h.evo hy
  have hg : (eqGuard .add t x y (.string (bs p)) (.string (bs q))).run P w = .ok () w := by rw [eqGuard_at_string]; rfl
  have e1 : ¬ ((((bs p).size + (bs q).size : Nat) : Int) > IntKind.i64.max) := by
    rw [bs_size, bs_size]; have : IntKind.i64.max = 9223372036854775807 := rfl; omega
  have hs : (Op.stringOp .add (bs p) (bs q)).run P w = .ok (.string (bs (p ++ q))) w := by
    unfold Op.stringOp
    rw [← bs_append]
    simp only [e1, if_false, Sem.run_pure]
  simp [execOp, ex, ey, hg, binOp, hs]
def isU8s (tab : Tab) (t : Nat) : Bool := match look tab t with | some ⟨_, _, _, _, .slice e⟩ => (match look tab e with | some ⟨_, _, _, _, .int .u8⟩ => true | _ => false) | _ => false
theorem isU8s_u (T : TabOK P tab) {t : Nat} (h : isU8s tab t = true) : ∃ e, P.underlying t = some (.slice e) ∧ P.underlying e = some (.int .u8) := by
  unfold isU8s at h
  split at h
  · rename_i e ht
    split at h
    · rename_i he
      obtain ⟨i, d, z, hi, hd, hz, hs, hby, hzc, hagg, _, _, _, hsl, _⟩ := tyS_parts (T _ _ ht)
      obtain ⟨i', d', z', hi', hd', hz', hs', hby', hzc', hagg', _, _, hk, _⟩ := tyS_parts (T _ _ he)
      exact ⟨e, by rw [hd, hsl _ rfl], by rw [hd', hk _ rfl]⟩
    · cases h
  · cases h
theorem push_bytes : ∀ (ns : List Int) (s : List UInt8), ns.foldl (fun (r : ByteArray) n => r.push (UInt8.ofNat n.toNat)) (bs s) = bs (s ++ ns.map (fun n => UInt8.ofNat n.toNat))
  | [], s => by simp
  | n :: ns, s => by
    have e : (bs s).push (UInt8.ofNat n.toNat) = bs (s ++ [UInt8.ofNat n.toNat]) := by
      apply ByteArray.ext
      apply Array.toList_inj.mp
      simp [bs, ByteArray.push]
    rw [List.foldl_cons, e, push_bytes ns]
    simp
/-- A text of bytes. -/
def ofBytes (l : List Int) : List UInt8 := l.map (fun n => UInt8.ofNat n.toNat)
theorem cvtS (TT : TabOK P tab) {x : Operand} {src dst b : Nat} {ad : Option Addr} {ys : List Int} {c : Nat} {news : List Value} (h : St n sy ρ a w χ) (hw : wantedS all sy g = true) (hd : Nat.blt d n = true) (hx : evo sy x = some (V (.slice ad ys.length c))) (hs : isU8s tab src = true) (ht : isStr tab dst = true)
    (hN : Src (tInt .u8 b) w χ ad ys c news)
    (kk : ∀ a', St n ⟨(d, V (.string (bs (ofBytes ys)))) :: sy.regs, sy.boxes⟩ ρ a' w χ → K a' w) : wp1 P all.toArray Q ⟨some d, .convert src dst x, ty, pos, af, g⟩ K a w := by
  refine stepV h hw hd (Ev.refl xnone w χ) (fun _ _ => rfl) (w' := w) ?_ (fun a' h' => kk a' h')
  obtain ⟨e, hu, hue⟩ := isU8s_u TT hs
  have ex : a.eval x = .slice ad ys.length c := h.evo hx
  have hnews : news = ys.map (Value.int .u8) := by
    have hl : news.length = ys.length := by have := hN.len; simpa [tInt] using this
    apply List.ext_getElem (by simp [hl])
    intro i h1 h2
    have hi : i < ys.length := by omega
    have := hN.el i ys[i] (List.getElem?_eq_getElem hi)
    have h3 : (news.drop (i * 1)).take 1 = [.int .u8 ys[i]] := this
    rw [Nat.mul_one, List.drop_eq_getElem_cons h1] at h3
    simp only [List.take_succ_cons, List.take_zero, List.cons.injEq, and_true] at h3
    rw [h3, List.getElem_map]
  have hb : (Conv.bytesToString (.slice ad ys.length c)).run P w = .ok (.string (bs (ofBytes ys))) w := by
    cases ad with
    | none =>
      obtain ⟨rfl, -⟩ := hN.nil rfl
      rfl
    | some A =>
      have hl := run_loadCells_list (P := P) w A news (hN.cell A rfl)
      rw [hnews] at hl
      simp only [List.length_map] at hl
      have := run_bytesToString w A ys.length c ys hl
      have e0 : ByteArray.empty = bs [] := rfl
      rw [this, e0, push_bytes]
      rfl
  simp [execOp, ex, convert, run_underlying hu, run_underlying hue, run_underlying (isStr_u TT ht), hb]
theorem wrest {c : Code} {l : Nat} {R : Code} {Q : Exit → Act → World → Prop} (e : some (Code.seq .skip R) = findLabel c l) (h : R.wp P Q a w) : (restAt c l).wp P Q a w := by
  unfold restAt; rw [← e]; exact h

/-! ### A strings.Builder of the call's own: its variable and its buffer bear one colour -/
def BL (T E : Nat) (w : World) (χ : Nat → Nat) (col b : Nat) (l : List UInt8) : Prop :=
  χ b = col ∧ ∃ p v, (p = .pointer none ∨ p = .pointer (some ⟨b, 0, none⟩)) ∧ w.heap[b]? = some (.cells #[p, v] T (0, 0)) ∧ w.ownsRow 0 E 1 v l.length (Lib.byteCells l) ∧
    ((v = .slice none 0 0 ∧ l = []) ∨ (∃ g cap, 1 ≤ cap ∧ v = .slice (some ⟨g, 0, none⟩) l.length cap ∧ g ≠ b ∧ χ g = col))
theorem ownsRow_same {w w' : World} {E : Nat} {v : Value} {n : Nat} {xs : List Value} (h : w.ownsRow 0 E 1 v n xs) (k : ∀ g cap, v = .slice (some ⟨g, 0, none⟩) n cap → w'.heap[g]? = w.heap[g]?) : w'.ownsRow 0 E 1 v n xs := by
  obtain ⟨h1, h2 | ⟨g, cap, cur, hv, hB, hg, r⟩⟩ := h
  · exact ⟨h1, .inl h2⟩
  · exact ⟨h1, .inr ⟨g, cap, cur, hv, hB, (k g cap hv).trans hg, r⟩⟩
theorem ownsRow_lt {w : World} {E : Nat} {v : Value} {n g cap : Nat} {xs : List Value} (h : w.ownsRow 0 E 1 v n xs) (hv : v = .slice (some ⟨g, 0, none⟩) n cap) : g < w.heap.size := by
  obtain ⟨_, ⟨h2, _⟩ | ⟨g', cap', cur, hv', _, hg, _⟩⟩ := h
  · rw [h2] at hv; cases hv
  · rw [hv'] at hv
    simp only [Value.slice.injEq, Option.some.injEq, Addr.mk.injEq] at hv
    rw [← hv.1.1]; exact lt_heap hg
theorem BL.mv {T E : Nat} {w w' : World} {χ χ' : Nat → Nat} {col b : Nat} {l : List UInt8} {p : Nat → Bool} (h : BL T E w χ col b l) (e : Ev p w χ w' χ') (hp : p col = false) (_ : p 0 = false) : BL T E w' χ' col b l := by
  obtain ⟨h1, q, v, hq, hb, hown, hv⟩ := h
  obtain ⟨k1, k2⟩ := e.keep b (lt_heap hb) (by rw [h1]; exact hp)
  refine ⟨k2.trans h1, q, v, hq, k1.trans hb, ownsRow_same hown (fun g cap hv' => ?_), ?_⟩
  · rcases hv with ⟨hv, _⟩ | ⟨g', cap', _, hv, _, hg⟩
    · rw [hv] at hv'; cases hv'
    · have hlt := ownsRow_lt hown hv'
      rw [hv] at hv'
      simp only [Value.slice.injEq, Option.some.injEq, Addr.mk.injEq] at hv'
      rw [← hv'.1.1]
      exact (e.keep g' (hv'.1.1 ▸ hlt) (by rw [hg]; exact hp)).1
  · rcases hv with hv | ⟨g, cap, hl, hv, hne, hg⟩
    · exact .inl hv
    · exact .inr ⟨g, cap, hl, hv, hne, (e.keep g (ownsRow_lt hown hv) (by rw [hg]; exact hp)).2.trans hg⟩
/-- 'var b strings.Builder' -/
theorem mkbld (TT : TabOK P tab) (T E col : Nat) (h : St n sy ρ a w χ) (hw : wantedS all sy g = true) (hd : Nat.blt d n = true) (hz : (match look tab T with | some s => some (s.zero, s.agg) | none => none) = some ([.pointer none, .slice none 0 0], true))
    (k : ∀ b a' w' χ', Ev xnone w χ w' χ' → BL T E w' χ' col b [] → St n ⟨(d, V (.pointer (some ⟨b, 0, none⟩))) :: sy.regs, sy.boxes⟩ ρ a' w' χ' → K a' w') :
    wp1 P all.toArray Q ⟨some d, .alloc T, ty, pos, af, g⟩ K a w := by
  have ev := ev_new0 w χ (.cells #[.pointer none, .slice none 0 0] T (0, 0)) col
  cases ht : look tab T with
  | none => rw [ht] at hz; cases hz
  | some s =>
    rw [ht] at hz
    simp only [Option.some.injEq, Prod.mk.injEq] at hz
    obtain ⟨i, dd, z, hi, hdd, hzz, hs, hby, hzc, hagg, _⟩ := tyS_parts (TT _ _ ht)
    have hcells : z.cells = #[.pointer none, .slice none 0 0] := by
      rw [← Array.toArray_toList (xs := z.cells), hzc, hz.1]
    refine stepV h hw hd ev (fun _ _ => rfl) (v := .pointer (some ⟨w.heap.size, 0, none⟩)) (w' := w.alloc (.cells #[.pointer none, .slice none 0 0] T (0, 0))) ?_ (fun a' h' => k _ a' _ _ ev ⟨by simp, .pointer none, .slice none 0 0, .inl rfl, heap_alloc_new w _, ⟨rfl, .inl ⟨rfl, rfl⟩⟩, .inl ⟨rfl, rfl⟩⟩ h')
    simp [execOp, Instr.alloc, newVar, newRow, zeroValue, typeInfo, hi, hzz, hcells]

/-- A Builder that nothing has been done with. -/
def BN (T : Nat) (w : World) (χ : Nat → Nat) (col b : Nat) : Prop := χ b = col ∧ w.heap[b]? = some (.cells #[.pointer none, .slice none 0 0] T (0, 0))
theorem BN.mv {T : Nat} {w w' : World} {χ χ' : Nat → Nat} {col b : Nat} {p : Nat → Bool} (h : BN T w χ col b) (e : Ev p w χ w' χ') (hp : p col = false) (_ : p 0 = false) : BN T w' χ' col b := by
  obtain ⟨k1, k2⟩ := e.keep b (lt_heap h.2) (by rw [h.1]; exact hp)
  exact ⟨k2.trans h.1, k1.trans h.2⟩
theorem BN.bl {T : Nat} (E : Nat) {w : World} {χ : Nat → Nat} {col b : Nat} (h : BN T w χ col b) : BL T E w χ col b [] :=
  ⟨h.1, .pointer none, .slice none 0 0, .inl rfl, h.2, ⟨rfl, .inl ⟨rfl, rfl⟩⟩, .inl ⟨rfl, rfl⟩⟩
theorem mkbldN (TT : TabOK P tab) (T col : Nat) (h : St n sy ρ a w χ) (hw : wantedS all sy g = true) (hd : Nat.blt d n = true) (hz : (match look tab T with | some s => some (s.zero, s.agg) | none => none) = some ([.pointer none, .slice none 0 0], true))
    (k : ∀ b a' w' χ', Ev xnone w χ w' χ' → BN T w' χ' col b → St n ⟨(d, V (.pointer (some ⟨b, 0, none⟩))) :: sy.regs, sy.boxes⟩ ρ a' w' χ' → K a' w') :
    wp1 P all.toArray Q ⟨some d, .alloc T, ty, pos, af, g⟩ K a w := by
  have ev := ev_new0 w χ (.cells #[.pointer none, .slice none 0 0] T (0, 0)) col
  cases ht : look tab T with
  | none => rw [ht] at hz; cases hz
  | some s =>
    rw [ht] at hz
    simp only [Option.some.injEq, Prod.mk.injEq] at hz
    obtain ⟨i, dd, z, hi, hdd, hzz, hs, hby, hzc, hagg, _⟩ := tyS_parts (TT _ _ ht)
    have hcells : z.cells = #[.pointer none, .slice none 0 0] := by
      rw [← Array.toArray_toList (xs := z.cells), hzc, hz.1]
    refine stepV h hw hd ev (fun _ _ => rfl) (v := .pointer (some ⟨w.heap.size, 0, none⟩)) (w' := w.alloc (.cells #[.pointer none, .slice none 0 0] T (0, 0))) ?_ (fun a' h' => k _ a' _ _ ev ⟨by simp, heap_alloc_new w _⟩ h')
    simp [execOp, Instr.alloc, newVar, newRow, zeroValue, typeInfo, hi, hzz, hcells]

/-- one plain operation, as an event -/
theorem plain1 (TT : TabOK P tab) {op : Op} {sv : SV} (h : St n sy ρ a w χ) (hw : wantedS all sy g = true) (hd : Nat.blt d n = true) (hn : Nat.ble n 999 = true) (e : symV tab sy ⟨some d, op, ty, pos, af, g⟩ = some sv)
    (k : ∀ a', St n ⟨(d, sv) :: sy.regs, sy.boxes⟩ ρ a' w χ → K a' w) : wp1 P all.toArray Q ⟨some d, op, ty, pos, af, g⟩ K a w := by
  refine wp1_wanted (wantedS_wanted h (o := ⟨some d, op, ty, pos, af, g⟩) hw) ?_
  refine symO_wp (mem := false) TT h (fun d' hd' => ?_) (Nat.le_of_ble_eq_true hn) (sy' := ⟨(d, sv) :: sy.regs, sy.boxes⟩) (by unfold symO; rw [e]) (fun ρ' a' w' χ' hS _ hm _ => ?_)
  · cases hd'; exact Nat.le_of_ble_eq_true hd
  · obtain ⟨rfl, rfl, rfl⟩ := hm.1 rfl
    exact k a' hS

/-! ### more of maps: a hint, the length -/
theorem mkmapH {κ α : Type} (R : KRep κ) (T : TRep α) (ag : Bool) (col : Nat) {t kt et : Nat} {x : Operand} {hk : IntKind} {hn : Int} (h : St n sy ρ a w χ) (hw : wantedS all sy g = true) (hd : Nat.blt d n = true)
    (hx : evo sy x = some (V (.int hk hn))) (hm : P.underlying t = some (.map kt et))
    (k : ∀ r a' w' χ', Ev xnone w χ w' χ' → OM R T ag w' χ' col r ([] : List (κ × α)) → St n ⟨(d, V (.map (some r))) :: sy.regs, sy.boxes⟩ ρ a' w' χ' → K a' w') :
    wp1 P all.toArray Q ⟨some d, .makeMap t (some x), ty, pos, af, g⟩ K a w := by
  have ev := ev_new0 w χ (.map #[] 0) col
  have ex : a.eval x = .int hk hn := h.evo hx
  refine stepV h hw hd ev (fun _ _ => rfl) (v := .map (some w.heap.size)) (w' := w.alloc (.map #[] 0)) ?_ (fun a' h' => k _ a' _ _ ev ⟨by simp, #[], 0, heap_alloc_new w _, trivial⟩ h')
  simp [execOp, Instr.makeMap, Result.andThen, ex, run_underlying hm, asInt, asIntOf]
theorem EL.len {κ α : Type} {R : KRep κ} {T : TRep α} {ag : Bool} : ∀ {es : List MapEntry} {m : List (κ × α)}, EL R T ag w χ es m → es.length = m.length
  | [], [], _ => rfl
  | e :: es, (k, x) :: m, h => by rw [List.length_cons, List.length_cons, EL.len h.2.2]
  | [], _ :: _, h => h.elim
  | _ :: _, [], h => h.elim
/-- 'len(m)' -/
theorem mlen {κ α : Type} {R : KRep κ} {T : TRep α} {ag : Bool} {t kt et col r : Nat} {x : Operand} {m : List (κ × α)} (h : St n sy ρ a w χ) (hw : wantedS all sy g = true) (hd : Nat.blt d n = true)
    (hx : evo sy x = some (V (.map (some r)))) (hm : P.underlying t = some (.map kt et)) (hO : OM R T ag w χ col r m)
    (k : ∀ a', St n ⟨(d, I ((m.length : Nat) : Int)) :: sy.regs, sy.boxes⟩ ρ a' w χ → K a' w) :
    wp1 P all.toArray Q ⟨some d, .call { callee := .builtin .len, args := #[x], argTypes := #[t] }, ty, pos, af, g⟩ K a w := by
  obtain ⟨h1, es, clock, h2, h3⟩ := hO
  have ex : a.eval x = .map (some r) := h.evo hx
  refine stepV h hw hd (Ev.refl xnone w χ) (fun _ _ => rfl) (v := .int .i64 ((m.length : Nat) : Int)) (w' := w) ?_ (fun a' h' => k a' h')
  have hl := EL.len h3
  simp [execOp, resolve, invoke, builtin, ex, Builtin.len_, run_underlying hm, MapKept.run_getObj_map h2, goInt]
  rw [← hl]; simp

/-! ### Bytes of a text behind the call's own, and a text as bytes -/
/-- A text's bytes as numbers. -/
def toI (s : List UInt8) : List Int := s.map (fun b => (b.toNat : Int))
theorem toI_length (s : List UInt8) : (toI s).length = s.length := List.length_map _
theorem strCells_bs (s : List UInt8) : Lib.strCells (bs s) = (toI s).map (Value.int .u8) := by
  simp [Lib.strCells, bs, toI]
theorem run_append_room_stringN (t u ty e : TypeId) (i : TypeInfo) (ht : P.underlying t = some (.slice e)) (hu : P.underlying u = some .string) (hi : P.info? e = some i) (hs1 : i.size = 1)
    (g sLen sCap : Nat) (cur : Array Value) (fz : Nat × Nat) (hg : w.heap[g]? = some (.cells cur e fz)) (hfz : noFz fz cur.size) (s : ByteArray)
    (hroom : sLen + s.size ≤ sCap) (hfit : sLen + s.size ≤ cur.size) :
    (Builtin.append_ #[t, u] ty #[.slice (some ⟨g, 0, none⟩) sLen sCap, .string s]).run P w =
      .ok (.slice (some ⟨g, 0, none⟩) (sLen + s.size) sCap) (w.setRow g (cur.toList.take sLen ++ Lib.strCells s ++ cur.toList.drop (sLen + s.size)).toArray) := by
  have hf := Lib.run_firstCells_string (P := P) w 1 s
  have hst := run_storeCells_atN P g sLen e fz (Lib.strCells s) 0 cur w hg hfz (by simpa [Lib.strCells_length] using hfit) (Lib.strCells_oneCell s)
  simp only [Nat.add_zero, Lib.strCells_length] at hst
  simp [Builtin.append_, run_underlying ht, run_underlying hu, sizeOf, typeInfo, hi, hs1, Builtin.lenOf, hroom, hf, Addr.add_lit, hst]

theorem run_append_str {E col : Nat} {inf : TypeInfo} {z : Value} {t t2 u : Nat} (hu : P.underlying t = some (.slice E)) (hu2 : P.underlying t2 = some .string) (hi : P.info? E = some inf) (hz : inf.zero = some z) (hsz : inf.size = 1) (hby : inf.bytes = 1) (hzc : z.cells.size = 1)
    {ad : Option Addr} {xs : List Int} {s : List UInt8} {c : Nat} (h : OS (tInt .u8 1) E w χ col ad xs c) (hcol : col ≠ 0) (hb : xs.length + s.length ≤ 140737488355328) :
    ∃ ad' c' w' χ', (Builtin.append_ #[t, t2] u #[.slice ad xs.length c, .string (bs s)]).run P w = .ok (.slice ad' (xs ++ toI s).length c') w' ∧ OS (tInt .u8 1) E w' χ' col ad' (xs ++ toI s) c' ∧ Ev (xone col) w χ w' χ' := by
  have hxy : (xs ++ toI s).length = xs.length + s.length := by simp [toI_length]
  have hn1 : (tInt IntKind.u8 1).n = 1 := rfl
  have evN : ∀ (w' : World), w'.os = w.os → w'.tape = w.tape → w'.output = w.output → w.heap.size ≤ w'.heap.size → (∀ b, b < w.heap.size → χ b ≠ col → w'.heap[b]? = w.heap[b]?) → Ev (xone col) w χ w' (fun b => if w.heap.size ≤ b then col else χ b) := by
    intro w' h1 h2 h3 h4 h5
    refine ⟨h1, h2, h3, h4, fun b hb hp => ⟨h5 b hb ?_, ?_⟩⟩
    · intro e; rw [e] at hp; simp [xone] at hp
    · have : ¬ w.heap.size ≤ b := by omega
      simp [this]
  have elN : ∀ (w' : World) (χ' : Nat → Nat) (cells' : Array Value) (olds : List Value), olds.length = xs.length → cells'.toList.take (xs.length + s.length) = olds ++ Lib.strCells (bs s) →
      (∀ (i : Nat) (x : Int), xs[i]? = some x → (olds.drop i).take 1 = [.int .u8 x]) → 
      ∀ (i : Nat) (x : Int), (xs ++ toI s)[i]? = some x → (tInt .u8 1).R w' χ' (chunk cells' 0 1 i) x := by
    intro w' χ' cells' olds hol htake helx i x hx
    have hi : i < xs.length + s.length := by have := (List.getElem?_eq_some_iff.1 hx).1; simpa [toI_length] using this
    show chunk cells' 0 1 i = [.int .u8 x]
    rw [chunk_take (L := xs.length + s.length) htake (by omega), Nat.mul_one]
    by_cases hlt : i < xs.length
    · rw [List.getElem?_append_left hlt] at hx
      rw [List.drop_append_of_le_length (by omega), List.take_append_of_le_length (by simp; omega)]
      exact helx i x hx
    · rw [List.getElem?_append_right (by omega)] at hx
      rw [List.drop_append, List.drop_eq_nil_of_le (by omega), List.nil_append, hol, strCells_bs]
      have hl := (List.getElem?_eq_some_iff.1 hx).1
      rw [List.drop_eq_getElem_cons (by simpa using hl)]
      simp only [List.take_succ_cons, List.take_zero, List.getElem_map, List.cons.injEq, and_true]
      rw [(List.getElem?_eq_some_iff.1 hx).2]
  rcases h.row with ⟨rfl, rfl, rfl⟩ | ⟨b, cells, rfl, hc, hh, hle, hcm, hcs, hel⟩
  · by_cases hm : s.length = 0
    · have : s = [] := List.eq_nil_of_length_eq_zero hm
      subst this
      refine ⟨none, 0, w, χ, ?_, OS.nil _ E w χ col, Ev.refl _ _ _⟩
      have e0 : (bs ([] : List UInt8)).size = 0 := rfl
      simp [Builtin.append_, run_underlying hu, run_underlying hu2, sizeOf, typeInfo, hi, Builtin.lenOf, Builtin.firstCells, e0, toI]
    · simp only [List.length_nil, Nat.zero_add] at hb
      have hr := run_append_nil_string (P := P) w t t2 u E inf z hu hu2 hi hz (bs s) (by rw [bs_size]; omega) (by rw [bs_size]; omega) (by rw [bs_size, hby]; omega)
      rw [bs_size] at hr
      have hge := grownCap_ge w s.length 0 E
      have hcm' := grownCap_le_maxLen w s.length 0 E (by unfold maxLen; omega)
      have ev := evN (w.drew.alloc (.cells ((bs s).data.map (fun b => Value.int .u8 b.toNat) ++ Builtin.zeroCells z.cells (grownCap w s.length 0 E - s.length)) E)) rfl rfl rfl (by simp) (fun b hb _ => heap_alloc_old w.drew _ hb)
      have hsz2 : (bs s).data.size = s.length := bs_size s
      refine ⟨_, _, _, fun b => if w.heap.size ≤ b then col else χ b, by simpa [toI_length] using hr, ⟨by simp only [List.nil_append, toI_length]; show s.length * 1 ≤ _; omega, .inr ⟨w.heap.size, _, rfl, by simp, .zero (heap_alloc_new w.drew _), by simpa [toI_length] using hge, hcm', ?_, ?_⟩⟩, ev⟩
      · simp only [Array.size_append, Array.size_map, size_zeroCells, hzc, hsz2]
        rw [hn1]; omega
      · refine elN _ _ _ [] rfl ?_ (by intro i x hx; simp at hx)
        simp only [List.length_nil, Nat.zero_add, Array.toList_append, List.nil_append]
        have e : ((bs s).data.map (fun b => Value.int IntKind.u8 (b.toNat : Int))).toList = Lib.strCells (bs s) := by simp [Lib.strCells]
        rw [e]
        have hl : s.length = (Lib.strCells (bs s)).length := by rw [Lib.strCells_length, bs_size]
        rw [hl]; exact List.take_left
  · have hrow := hh
    obtain ⟨fr, hh, hfz⟩ := hh
    have hcs' : cells.size = c := by simpa [hn1] using hcs
    have hll : (Lib.strCells (bs s)).length = s.length := by rw [Lib.strCells_length, bs_size]
    have holl : (cells.toList.take xs.length).length = xs.length := by simp; omega
    have helx : ∀ (i : Nat) (x : Int), xs[i]? = some x → ((cells.toList.take xs.length).drop i).take 1 = [.int .u8 x] := by
      intro i x hx
      have hi : i < xs.length := (List.getElem?_eq_some_iff.1 hx).1
      have h2 : chunk cells 0 1 i = [.int .u8 x] := hel i x hx
      rw [chunk_take (L := xs.length) (cells := cells) rfl (by omega), Nat.mul_one] at h2
      exact h2
    by_cases hroom : xs.length + s.length ≤ c
    · have hr := run_append_room_stringN (P := P) (w := w) t t2 u E inf hu hu2 hi hsz b xs.length c cells fr hh hfz (bs s) (by rw [bs_size]; exact hroom) (by rw [bs_size]; omega)
      rw [bs_size] at hr
      have ev := evN (w.setRow b (cells.toList.take xs.length ++ Lib.strCells (bs s) ++ cells.toList.drop (xs.length + s.length)).toArray) rfl rfl rfl (by simp) (fun k hk hne => setRow_other w b k _ (fun e => hne (e ▸ hc)))
      have hlt := lt_heap hh
      have hsize : (cells.toList.take xs.length ++ Lib.strCells (bs s) ++ cells.toList.drop (xs.length + s.length)).toArray.size = cells.size := by
        simp only [List.size_toArray, List.length_append, List.length_take, List.length_drop, Array.length_toList, hll]; omega
      refine ⟨_, _, _, fun b => if w.heap.size ≤ b then col else χ b, by rw [hr, hxy], ⟨by rw [hxy]; show _ * 1 ≤ _; omega, .inr ⟨b, _, rfl, ?_, hrow.set hsize, by rw [hxy]; exact hroom, hcm, ?_, ?_⟩⟩, ev⟩
      · have : ¬ w.heap.size ≤ b := by omega
        simp [this, hc]
      · rw [hsize]; exact hcs
      · refine elN _ _ _ _ holl ?_ helx
        show ((cells.toList.take xs.length ++ Lib.strCells (bs s)) ++ _).take _ = _
        rw [List.take_append_of_le_length (by simp only [List.length_append, holl, hll]; omega), List.take_of_length_le (by simp only [List.length_append, holl, hll]; omega)]
    · have hcellsO : ∀ j v, (cells.toList.take xs.length)[j]? = some v → w.cell? ((⟨b, 0, none⟩ : Addr).add j) = some v := by
        intro j v hj
        rw [Addr.add_lit]
        simp only [World.cell?, hh]
        rw [List.getElem?_take] at hj
        split at hj
        · simpa using hj
        · cases hj
      have hr := Lib.run_append_grow_string (P := P) w t t2 u E inf z hu hu2 hi hz ⟨b, 0, none⟩ xs.length c (cells.toList.take xs.length) (by rw [holl, hsz, Nat.mul_one]) hcellsO (bs s) (by rw [bs_size]; omega) (by rw [bs_size]; omega) (by rw [bs_size]; exact growslice_fits (by omega) (by rw [hby]; omega))
      rw [bs_size] at hr
      have hge := grownCap_ge w (xs.length + s.length) c E
      have hcm' := grownCap_le_maxLen w (xs.length + s.length) c E (by unfold maxLen; omega)
      have ev := evN (w.drew.alloc (.cells ((cells.toList.take xs.length).toArray ++ (Lib.strCells (bs s)).toArray ++ Builtin.zeroCells z.cells (grownCap w (xs.length + s.length) c E - (xs.length + s.length))) E)) rfl rfl rfl (by simp) (fun b hb _ => heap_alloc_old w.drew _ hb)
      refine ⟨_, _, _, fun b => if w.heap.size ≤ b then col else χ b, by rw [hr, hxy], ⟨by rw [hxy]; show _ * 1 ≤ _; omega, .inr ⟨w.heap.size, _, rfl, by simp, .zero (heap_alloc_new w.drew _), by rw [hxy]; exact hge, hcm', ?_, ?_⟩⟩, ev⟩
      · simp only [Array.size_append, List.size_toArray, size_zeroCells, hzc, hll, holl]
        rw [hn1]; omega
      · refine elN _ _ _ _ holl ?_ helx
        simp only [Array.toList_append]
        rw [List.take_append_of_le_length (by simp only [List.length_append, holl, hll]; omega), List.take_of_length_le (by simp only [List.length_append, holl, hll]; omega)]

/-- 'append(xs, s...)', xs the call's own bytes. -/
theorem appendS (TT : TabOK P tab) {t t2 E col : Nat} {x y : Operand} {ad : Option Addr} {xs : List Int} {s : List UInt8} {c : Nat} (h : St n sy ρ a w χ) (hw : wantedS all sy g = true) (hd : Nat.blt d n = true)
    (hx : evo sy x = some (V (.slice ad xs.length c))) (hy : evo sy y = some (V (.string (bs s)))) (hO : OS (tInt .u8 1) E w χ col ad xs c) (ht : isSl tab t E = true) (ht2 : isStr tab t2 = true) (he : elOf tab E 1 1 = true) (hcol : Nat.ble 1000 col = true)
    (hlim : xs.length + s.length ≤ 1099511627776)
    (k : ∀ ad' c' a' w' χ', Ev (xone col) w χ w' χ' → OS (tInt .u8 1) E w' χ' col ad' (xs ++ toI s) c' → St n ⟨(d, V (.slice ad' (xs ++ toI s).length c')) :: sy.regs, sy.boxes⟩ ρ a' w' χ' → K a' w') :
    wp1 P all.toArray Q ⟨some d, .call ⟨.builtin .append, #[x, y], #[t, t2]⟩, ty, pos, af, g⟩ K a w := by
  obtain ⟨inf, z, hi, hz, hsz, hby, hzc⟩ := elOf_i TT he
  have hc0 : col ≠ 0 := by have := Nat.le_of_ble_eq_true hcol; omega
  obtain ⟨ad', c', w', χ', hr, hO', ev⟩ := run_append_str (P := P) (s := s) (u := ty) (isSl_u TT ht) (isStr_u TT ht2) hi hz hsz hby hzc hO hc0 (by omega)
  refine stepV h hw hd ev (xone_box hcol) (v := .slice ad' (xs ++ toI s).length c') (w' := w') ?_ (fun a' h' => k ad' c' a' w' χ' ev hO' h')
  have ex : a.eval x = .slice ad xs.length c := h.evo hx
  have ey : a.eval y = .string (bs s) := h.evo hy
  simp [execOp, resolve, invoke, builtin, ex, ey, hr]

/-- '[]byte(s)'. -/
theorem cvtB (TT : TabOK P tab) {x : Operand} {src dst E col : Nat} {s : List UInt8} (h : St n sy ρ a w χ) (hw : wantedS all sy g = true) (hd : Nat.blt d n = true) (hx : evo sy x = some (V (.string (bs s)))) (hs : isStr tab src = true) (ht : isSl tab dst E = true) (ht8 : isU8s tab dst = true) (hcol : Nat.ble 1000 col = true)
    (hlim : s.length ≤ 1099511627776)
    (k : ∀ ad' c' a' w' χ', Ev xnone w χ w' χ' → OS (tInt .u8 1) E w' χ' col ad' (toI s) c' → St n ⟨(d, V (.slice ad' (toI s).length c')) :: sy.regs, sy.boxes⟩ ρ a' w' χ' → K a' w') :
    wp1 P all.toArray Q ⟨some d, .convert src dst x, ty, pos, af, g⟩ K a w := by
  obtain ⟨e, hue, hu8⟩ := isU8s_u TT ht8
  have hE : e = E := by have := (isSl_u TT ht).symm.trans hue; simpa using this.symm
  subst hE
  have hr := Lib.run_convert_string_bytes (P := P) w src dst e (bs s) (isStr_u TT hs) hue hu8
  rw [bs_size] at hr
  have hge := grownCap_ge w s.length 0 e
  have hcm' := grownCap_le_maxLen w s.length 0 e (by unfold maxLen; omega)
  have hbs : (bs s).data.size = s.length := bs_size s
  have hsz : (Lib.bytesCells w e (bs s)).size = grownCap w s.length 0 e := by simp only [Lib.bytesCells, Array.size_append, Array.size_map, Array.size_replicate, bs_size, hbs]; omega
  have ev : Ev xnone w χ (Lib.bytesWorld w e (bs s)) (fun b => if w.heap.size ≤ b then col else χ b) :=
    ⟨by rfl, by rfl, by rfl, by rw [Lib.bytesWorld_size]; omega, fun b hb _ => ⟨Lib.bytesWorld_at_old w e (bs s) b hb, by simp [Nat.not_le.2 hb]⟩⟩
  refine stepV h hw hd ev (fun _ _ => rfl) (v := .slice (some ⟨w.heap.size, 0, none⟩) (toI s).length (grownCap w s.length 0 e)) (w' := Lib.bytesWorld w e (bs s)) ?_ (fun a' h' => k _ _ a' _ _ ev ⟨by rw [toI_length]; show _ * 1 ≤ _; omega, .inr ⟨w.heap.size, _, rfl, by simp, ⟨_, Lib.bytesWorld_at_new w e (bs s), .inr (Nat.le_refl _)⟩, by rw [toI_length]; exact hge, hcm', by rw [hsz]; exact (Nat.mul_one _).symm, ?_⟩⟩ h')
  · have ex : a.eval x = .string (bs s) := h.evo hx
    rw [toI_length]
    simp [execOp, ex, hr]
  · intro i z hz
    show chunk _ 0 1 i = [.int .u8 z]
    have hl := (List.getElem?_eq_some_iff.1 hz).1
    rw [toI_length] at hl
    have e1 : (Lib.bytesCells w e (bs s)).toList.take s.length = Lib.strCells (bs s) := by
      simp only [Lib.bytesCells, Array.toList_append, Array.toList_map]
      have hl : s.length = (List.map (fun b : UInt8 => Value.int IntKind.u8 (b.toNat : Int)) (bs s).data.toList).length := by simp [hbs]
      rw [hl]; exact List.take_left
    rw [chunk_take e1 (by omega), Nat.mul_one, strCells_bs, List.drop_eq_getElem_cons (by simpa [toI_length] using hl)]
    simp only [List.take_succ_cons, List.take_zero, List.getElem_map, List.cons.injEq, and_true]
    rw [(List.getElem?_eq_some_iff.1 hz).2]

theorem ofBytes_toI (s : List UInt8) : ofBytes (toI s) = s := by
  simp only [ofBytes, toI, List.map_map]
  conv => rhs; rw [← List.map_id s]
  apply List.map_congr_left
  intro b _
  simp
/-- A box that holds a pointer to a box. -/
theorem Cell.ptr {w : World} {χ : Nat → Nat} {b i t id b' : Nat} {ρ : Nat → Nat} (h : Cell w χ b i t [.pointer (some ⟨ρ id, 0, none⟩)]) (e : ρ id = b') : Cell w χ b i t [.pointer (some ⟨b', 0, none⟩)] := by subst e; exact h
theorem OS.map {α : Type} {T : TRep α} {E i j : Nat} {ad : Option Addr} {xs : List α} {c : Nat} {f : Nat → Nat} (h : OS T E w χ i ad xs c) (hf : f i = j) (m0 : M0 w χ w (fun b => f (χ b))) : OS T E w (fun b => f (χ b)) j ad xs c :=
  h.recol m0 (fun b hb => by show f (χ b) = j; rw [hb, hf])

/-! ### Shorter forms, for the printed walks -/
theorem kr {p : Prop} (h : p := by kernel_rfl) : p := h
@[reducible] def Sl {α : Type} (a : Option Addr) (xs : List α) (c : Nat) : SV := V (.slice a xs.length c)
@[reducible] def Z (s : List UInt8) : SV := V (.string (bs s))
def rks (sy : Sy) : List Nat := sy.regs.map (fun q => q.1)
def rbs (sy : Sy) : List Nat := sy.boxes.map (fun q => q.1)
theorem oP {all l : List Oper} {Q : Exit → Act → World → Prop} (T : TabOK P tab) (h : St n sy ρ a w χ) (m : Nat) (sy' : Sy) (k : ∀ a, St n sy' ρ a w χ → wpList P all.toArray Q (l.drop m) a w) (sp : List Nat := [])
    (e : run tab false sp n all (l.take m) (rks sy') (rbs sy') sy = some sy' := by kernel_rfl) : wpList P all.toArray Q l a w := opsP T h m e k
theorem oM {all l : List Oper} {Q : Exit → Act → World → Prop} (T : TabOK P tab) (h : St n sy ρ a w χ) (m : Nat) (sy' : Sy) (k : ∀ ρ' a' w' χ', St n sy' ρ' a' w' χ' → Ev xbox w χ w' χ' → (∀ id, n < id → ρ' id = ρ id) → wpList P all.toArray Q (l.drop m) a' w') (sp : List Nat := [])
    (e : run tab true sp n all (l.take m) (rks sy') (rbs sy') sy = some sy' := by kernel_rfl) : wpList P all.toArray Q l a w := opsM T h m e k
section
variable {nrm ret : Act → World → Prop} {exs : List (Nat × (Act → World → Prop))}
theorem eP {all l : List Oper} {K : Act → World → Prop} (T : TabOK P tab) (h : St n sy ρ a w χ) (sy' : Sy) (k : ∀ a, St n sy' ρ a w χ → K a w) (sp : List Nat := [])
    (e : run tab false sp n all l (rks sy') (rbs sy') sy = some sy' := by kernel_rfl) : wpList P all.toArray (qs K ret exs) l a w := endP T h e k
theorem eM {all l : List Oper} {K : Act → World → Prop} (T : TabOK P tab) (h : St n sy ρ a w χ) (sy' : Sy) (k : ∀ ρ' a' w' χ', St n sy' ρ' a' w' χ' → Ev xbox w χ w' χ' → (∀ id, n < id → ρ' id = ρ id) → K a' w') (sp : List Nat := [])
    (e : run tab true sp n all l (rks sy') (rbs sy') sy = some sy' := by kernel_rfl) : wpList P all.toArray (qs K ret exs) l a w := endM T h e k
theorem rP {id : Nat} {l : List Oper} {y : Code} (T : TabOK P tab) (h : St n sy ρ a w χ) (sy' : Sy) (k : ∀ a, St n sy' ρ a w χ → y.wp P (qs nrm ret exs) a w) (sp : List Nat := [])
    (e : run tab false sp n l l (rks sy') (rbs sy') sy = some sy' := by kernel_rfl) : (Code.seq (Code.region id l.toArray false) y).wp P (qs nrm ret exs) a w := regP T h e k
theorem rM {id : Nat} {l : List Oper} {y : Code} (T : TabOK P tab) (h : St n sy ρ a w χ) (sy' : Sy) (k : ∀ ρ' a' w' χ', St n sy' ρ' a' w' χ' → Ev xbox w χ w' χ' → (∀ id, n < id → ρ' id = ρ id) → y.wp P (qs nrm ret exs) a' w') (sp : List Nat := [])
    (e : run tab true sp n l l (rks sy') (rbs sy') sy = some sy' := by kernel_rfl) : (Code.seq (Code.region id l.toArray false) y).wp P (qs nrm ret exs) a w := regM T h e k
theorem St.sl (h : St n sy ρ a w χ) (sy' : Sy) (e : Sv.keep (rks sy') (rbs sy') sy = sy' := by kernel_rfl) : St n sy' ρ a w χ := h.sel _ _ e
theorem tk {w0 : World} {χ0 : Nat → Nat} {bxs : List (Nat × (Nat × List SV))} {listed : Array Bool} {m : Nat} (TT : TabOK P tab) (is bks : List Nat) (h : St n sy ρ a w χ) (H : Hold w0 χ0 bxs ρ w) (listed' : Array Bool) (fuel : Nat) (sy' : Sy)
    (k : ∀ a', St n sy' ρ a' w χ → Dr P all (qs nrm ret exs) (Hold w0 χ0 bxs ρ) listed' fuel a' w)
    (hns : Region.noSelect all.toArray = true := by kernel_rfl) (hn : Nat.ble n 999 = true := by kernel_rfl) (hb : filt bks sy = bxs := by kernel_rfl)
    (e : (match symTake tab n all bks is listed sy with | some (l, s) => some (l, (⟨(keep (rks sy') [] s).regs, sy.boxes⟩ : Sy)) | none => none) = some (listed', sy') := by kernel_rfl) (hf : m = fuel + is.length := by rfl) :
    Dr P all (qs nrm ret exs) (Hold w0 χ0 bxs ρ) listed m a w := take TT is bks (rks sy') h hns hn hb H e hf k
end

/-! ### 'slices.Grow(nil, n)': room, and nothing in it -/
theorem OS.take {α : Type} {T : TRep α} {E col : Nat} {ad : Option Addr} {xs : List α} {c : Nat} (h : OS T E w χ col ad xs c) (m : Nat) : OS T E w χ col ad (xs.take m) c := by
  have hl : (xs.take m).length ≤ xs.length := by rw [List.length_take]; exact Nat.min_le_right _ _
  refine ⟨Nat.le_trans (Nat.mul_le_mul_right _ hl) h.bnd, ?_⟩
  rcases h.row with ⟨rfl, rfl, rfl⟩ | ⟨b, cells, h1, h2, h3, h4, h5, h6, h7⟩
  · exact .inl ⟨rfl, by simp, rfl⟩
  · refine .inr ⟨b, cells, h1, h2, h3, Nat.le_trans hl h4, h5, h6, fun i x hx => ?_⟩
    rw [List.getElem?_take] at hx
    split at hx
    · exact h7 i x hx
    · cases hx

/-- 'xs[:h]', xs the call's own, and still so. -/
theorem sliceH {α : Type} {T : TRep α} (TT : TabOK P tab) {t E col : Nat} {x hi : Operand} {ad : Option Addr} {xs : List α} {c : Nat} {k : IntKind} {l : Int} (h : St n sy ρ a w χ) (hw : wantedS all sy g = true) (hd : Nat.blt d n = true)
    (hx : evo sy x = some (V (.slice ad xs.length c))) (hlo : evo sy hi = some (V (.int k l))) (hO : OS T E w χ col ad xs c) (ht : isSl tab t E = true) (hs : szIs tab E T.n = true) (h0 : 0 ≤ l) (h1 : l ≤ xs.length)
    (kk : ∀ a', OS T E w χ col ad (xs.take l.toNat) c → St n ⟨(d, V (.slice ad (xs.take l.toNat).length c)) :: sy.regs, sy.boxes⟩ ρ a' w χ → K a' w) :
    wp1 P all.toArray Q ⟨some d, .slice t x none (some hi) none, ty, pos, af, g⟩ K a w := by
  obtain ⟨inf, hi', hm⟩ := szIs_i TT hs
  have hu := isSl_u TT ht
  have hcap : xs.length ≤ c := by
    rcases hO.row with ⟨rfl, rfl, rfl⟩ | ⟨b, cells, rfl, hc, hh, hle, hcm, hsz, hel⟩
    · simp
    · exact hle
  have ex : a.eval x = .slice ad xs.length c := h.evo hx
  have el : a.eval hi = .int k l := h.evo hlo
  have e2 : l ≤ (c : Int) := by omega
  have hlen : (xs.take l.toNat).length = l.toNat := by simp; omega
  refine stepV h hw hd (Ev.refl xnone w χ) (fun _ _ => rfl) (v := .slice ad (xs.take l.toNat).length c) (w' := w) ?_ (fun a' h' => kk a' (hO.take _) h')
  rw [hlen]
  simp [execOp, ex, el, Instr.sliceAt, Instr.slice, run_underlying hu, Instr.sliceBounds, Instr.sliceBound, asIntOf, h0, e2, run_sizeOf hi', hm]
  intro hcz
  have hzz := adAt_zero hO
  unfold adAt at hzz
  rw [if_neg hcz] at hzz
  simpa using hzz.symm

theorem capN (TT : TabOK P tab) {x : Operand} {t E : Nat} (h : St n sy ρ a w χ) (hw : wantedS all sy g = true) (hd : Nat.blt d n = true) (hx : evo sy x = some (V (.slice none 0 0))) (ht : isSl tab t E = true)
    (k : ∀ a', St n ⟨(d, I 0) :: sy.regs, sy.boxes⟩ ρ a' w χ → K a' w) :
    wp1 P all.toArray Q ⟨some d, .call ⟨.builtin .cap, #[x], #[t]⟩, ty, pos, af, g⟩ K a w := by
  refine stepV h hw hd (Ev.refl xnone w χ) (fun _ _ => rfl) (v := .int .i64 0) (w' := w) ?_ (fun a' h' => k a' h')
  have ex : a.eval x = .slice none 0 0 := h.evo hx
  simp [execOp, resolve, invoke, builtin, ex, Builtin.cap_, run_underlying (isSl_u TT ht), goInt]

theorem zeroCells_at (z : Array Value) (n i : Nat) (hi : i < n * z.size) : (Builtin.zeroCells z n)[i]? = some (z[i % z.size]!) := by
  simp [Builtin.zeroCells, hi]

theorem appendZ {α : Type} {T : TRep α} (TT : TabOK P tab) {t t2 E col : Nat} {x y : Operand} {kn : IntKind} {m : Int} (zz : α) (h : St n sy ρ a w χ) (hw : wantedS all sy g = true) (hd : Nat.blt d n = true)
    (hx : evo sy x = some (V (.slice none 0 0))) (hy : evo sy y = some (V (.int kn m))) (ht : isSl tab t E = true) (ht2 : (match look tab t2 with | some ⟨_, _, _, _, .int _⟩ => true | _ => false) = true) (he : elOf tab E T.n T.bytes = true) (hcol : Nat.ble 1000 col = true)
    (hbt : Nat.ble T.bytes 128 = true) (h0 : 0 < m) (hlim : m ≤ 1099511627776)
    (hz : ∀ w' χ', (match look tab E with | some s => T.R w' χ' s.zero zz | none => False))
    (k : ∀ ad' c' a' w' χ', Ev xnone w χ w' χ' → OS T E w' χ' col ad' (List.replicate m.toNat zz) c' → St n ⟨(d, V (.slice ad' (List.replicate m.toNat zz).length c')) :: sy.regs, sy.boxes⟩ ρ a' w' χ' → K a' w') :
    wp1 P all.toArray Q ⟨some d, .call ⟨.builtin .append, #[x, y], #[t, t2]⟩, ty, pos, af, g⟩ K a w := by
  have he' := he
  unfold elOf at he'
  obtain ⟨kq, hkq⟩ : ∃ kq, P.underlying t2 = some (.int kq) := by
    split at ht2
    · rename_i k' hl
      obtain ⟨i', d', z', hi', hd', hz', hs', hby', hzc', hagg', _, _, hk, _⟩ := tyS_parts (TT _ _ hl)
      exact ⟨_, by rw [hd', hk _ rfl]⟩
    · cases ht2
  cases hE : look tab E with
  | none => rw [hE] at he'; cases he'
  | some s =>
    obtain ⟨i, dd, z, hi, hdd, hzz, hs, hby, hzc, _⟩ := tyS_parts (TT _ _ hE)
    rw [hE] at he'
    simp only [Bool.and_eq_true] at he'
    have e1 := Nat.eq_of_beq_eq_true he'.1.1
    have e2 := Nat.eq_of_beq_eq_true he'.1.2
    have e3 := Nat.eq_of_beq_eq_true he'.2
    have hisz : i.size = T.n := hs.trans e1
    have hzsz : z.cells.size = T.n := by rw [← Array.length_toList, hzc, e3]
    have hp := T.pos
    obtain ⟨q, rfl⟩ : ∃ q : Nat, m = (q : Int) := ⟨m.toNat, by omega⟩
    have hbt' := Nat.le_of_ble_eq_true hbt
    have hroom := room (len := q) (by omega) hbt
    have hr := Lib.run_append_nil_zeros (P := P) w t t2 ty E i z kn kq (isSl_u TT ht) hkq hi hzz q (by omega) (by omega) (by omega) (by rw [hby, e2]; omega)
    have hge := grownCap_ge w q 0 E
    have hcm' := grownCap_le_maxLen w q 0 E (by unfold maxLen; omega)
    have ev := ev_new0 w.drew χ (.cells (Builtin.zeroCells z.cells q ++ Builtin.zeroCells z.cells (grownCap w q 0 E - q)) E) col
    have ev' : Ev xnone w χ (w.drew.alloc (.cells (Builtin.zeroCells z.cells q ++ Builtin.zeroCells z.cells (grownCap w q 0 E - q)) E)) (fun b => if w.heap.size ≤ b then col else χ b) :=
      ⟨rfl, rfl, rfl, by simp, fun b hb _ => ⟨heap_alloc_old w.drew _ hb, by have : ¬ w.heap.size ≤ b := by omega
                                                                             simp [this]⟩⟩
    refine stepV h hw hd ev' (fun _ _ => rfl) (v := .slice (some ⟨w.heap.size, 0, none⟩) (List.replicate ((q : Int)).toNat zz).length (grownCap w q 0 E)) (w' := w.drew.alloc (.cells (Builtin.zeroCells z.cells q ++ Builtin.zeroCells z.cells (grownCap w q 0 E - q)) E)) ?_ (fun a' h' => k _ _ a' _ _ ev' ⟨by rw [List.length_replicate]; exact hroom, .inr ⟨w.heap.size, _, rfl, by simp, .zero (heap_alloc_new w.drew _), by rw [List.length_replicate]; exact hge, hcm', ?_, ?_⟩⟩ h')
    · have ex : a.eval x = .slice none 0 0 := h.evo hx
      have ey : a.eval y = .int kn q := h.evo hy
      simp [execOp, resolve, invoke, builtin, ex, ey, hr]
    · simp only [Array.size_append, size_zeroCells, hzsz, ← Nat.add_mul]
      congr 1; omega
    · intro j x' hx'
      have hj : j < q := by have := (List.getElem?_eq_some_iff.1 hx').1; simpa using this
      have hq' : x' = zz := by
        simp [List.getElem?_replicate] at hx'; exact hx'.2.symm
      subst hq'
      have hzr := hz (w.drew.alloc (.cells (Builtin.zeroCells z.cells q ++ Builtin.zeroCells z.cells (grownCap w q 0 E - q)) E)) (fun b => if w.heap.size ≤ b then col else χ b)
      rw [hE] at hzr
      simp only [] at hzr
      have : chunk (Builtin.zeroCells z.cells q ++ Builtin.zeroCells z.cells (grownCap w q 0 E - q)) 0 T.n j = s.zero := by
        rw [← hzc]
        have hjc : (j + 1) * T.n ≤ q * T.n := Nat.mul_le_mul_right _ (by omega)
        rw [Nat.add_mul, Nat.one_mul] at hjc
        apply List.ext_getElem?
        intro p
        unfold chunk
        rw [List.getElem?_take, Nat.zero_add]
        by_cases hp2 : p < T.n
        · rw [if_pos hp2, List.getElem?_drop]
          have hlt : j * T.n + p < q * z.cells.size := by rw [hzsz]; omega
          have hmod : (j * T.n + p) % z.cells.size = p := by rw [hzsz, Nat.mul_comm, Nat.mul_add_mod, Nat.mod_eq_of_lt hp2]
          have hq2 : p < z.cells.size := by omega
          rw [Array.getElem?_toList, Array.getElem?_append_left (by rw [size_zeroCells]; exact hlt), zeroCells_at _ _ _ hlt, hmod]
          simp [hq2]
        · rw [if_neg hp2]
          symm
          rw [List.getElem?_eq_none_iff]
          simp; omega
      show T.R _ _ (chunk _ 0 T.n j) x'
      rw [this]
      exact hzr

/-! ### Rows of the call's own: the last one may still be written -/
/-- A value as it lies there. -/
def tRaw : TRep Value where
  n := 1
  bytes := 24
  R := fun _ _ cs v => cs = [v] ∧ v.oneCell' = true
  pos := Nat.le_refl _
  len := by rintro _ _ _ _ ⟨rfl, _⟩; rfl
  one := by rintro _ _ _ _ ⟨rfl, h⟩ u hu; simp at hu; subst hu; exact h
  mono := by intro _ _ _ _ _ _ _ h; exact h
/-- Headers and rows: all but the last stay, the last is the call's own, of colour col2. -/
def RW {α : Type} (T : TRep α) (E1 : Nat) (w : World) (χ : Nat → Nat) (col2 : Nat) : List Value → List (List α) → Prop
  | [], [] => True
  | v :: vs, x :: xs => (match xs with | [] => ∃ a c, v = .slice a x.length c ∧ OS T E1 w χ col2 a x c | _ :: _ => ∃ a c, v = .slice a x.length c ∧ RS T w χ a x c) ∧ RW T E1 w χ col2 vs xs
  | [], _ :: _ => False
  | _ :: _, [] => False
/-- Headers and rows that all stay. -/
def RF {α : Type} (T : TRep α) (w : World) (χ : Nat → Nat) : List Value → List (List α) → Prop
  | [], [] => True
  | v :: vs, x :: xs => (∃ a c, v = .slice a x.length c ∧ RS T w χ a x c) ∧ RF T w χ vs xs
  | [], _ :: _ => False
  | _ :: _, [] => False
theorem RF.m0 {α : Type} {T : TRep α} {w w' : World} {χ χ' : Nat → Nat} (m : M0 w χ w' χ') : ∀ {vs : List Value} {xs : List (List α)}, RF T w χ vs xs → RF T w' χ' vs xs
  | [], [], _ => trivial
  | _ :: _, _ :: _, ⟨⟨a, c, h1, h2⟩, h3⟩ => ⟨⟨a, c, h1, h2.m0 m⟩, RF.m0 m h3⟩
theorem RF.mv {α : Type} {T : TRep α} {w w' : World} {χ χ' : Nat → Nat} {p : Nat → Bool} {vs : List Value} {xs : List (List α)} (h : RF T w χ vs xs) (e : Ev p w χ w' χ') (hp : p 0 = false) : RF T w' χ' vs xs := h.m0 (e.m0 hp)
theorem RF.len {α : Type} {T : TRep α} {w : World} {χ : Nat → Nat} : ∀ {vs : List Value} {xs : List (List α)}, RF T w χ vs xs → vs.length = xs.length
  | [], [], _ => rfl
  | _ :: _, _ :: _, ⟨_, h⟩ => by simp [RF.len h]
theorem RW.len {α : Type} {T : TRep α} {E1 col2 : Nat} {w : World} {χ : Nat → Nat} : ∀ {vs : List Value} {xs : List (List α)}, RW T E1 w χ col2 vs xs → vs.length = xs.length
  | [], [], _ => rfl
  | _ :: _, _ :: _, ⟨_, h⟩ => by simp [RW.len h]
theorem RW.mvE {α : Type} {T : TRep α} {E1 col2 : Nat} {w w' : World} {χ χ' : Nat → Nat} {p : Nat → Bool} (e : Ev p w χ w' χ') (hp : p col2 = false) (h0 : p 0 = false) : ∀ {vs : List Value} {xs : List (List α)}, RW T E1 w χ col2 vs xs → RW T E1 w' χ' col2 vs xs
  | [], [], _ => trivial
  | _ :: _, [_], ⟨⟨a, c, h1, h2⟩, h3⟩ => ⟨⟨a, c, h1, h2.mv e hp h0⟩, RW.mvE e hp h0 h3⟩
  | _ :: _, _ :: _ :: _, ⟨⟨a, c, h1, h2⟩, h3⟩ => ⟨⟨a, c, h1, h2.mv e h0⟩, RW.mvE e hp h0 h3⟩
/-- Where no row is: any colour will do. -/
theorem RW.nil {α : Type} (T : TRep α) (E1 : Nat) (w : World) (χ : Nat → Nat) (col2 : Nat) : RW T E1 w χ col2 [] ([] : List (List α)) := trivial
/-- The rows without the last, and the last. -/
theorem RW.last {α : Type} {T : TRep α} {E1 col2 : Nat} {w : World} {χ : Nat → Nat} : ∀ {vs : List Value} {xs : List (List α)}, RW T E1 w χ col2 vs xs → xs ≠ [] → ∃ vs' v xs' x a c, vs = vs' ++ [v] ∧ xs = xs' ++ [x] ∧ RF T w χ vs' xs' ∧ v = .slice a x.length c ∧ OS T E1 w χ col2 a x c
  | [], [], _, h => absurd rfl h
  | v :: vs, [x], ⟨⟨a, c, h1, h2⟩, h3⟩, _ => by
    have : vs = [] := by cases vs with | nil => rfl | cons _ _ => exact h3.elim
    subst this
    exact ⟨[], v, [], x, a, c, rfl, rfl, trivial, h1, h2⟩
  | v :: vs, x :: y :: xs, ⟨⟨a, c, h1, h2⟩, h3⟩, _ => by
    obtain ⟨vs', v', xs', x', a', c', e1, e2, r, e3, o⟩ := RW.last h3 (by simp)
    refine ⟨v :: vs', v', x :: xs', x', a', c', by rw [e1]; rfl, by rw [e2]; rfl, ⟨⟨a, c, h1, h2⟩, r⟩, e3, o⟩
theorem RF.push {α : Type} {T : TRep α} {E1 col2 : Nat} {w : World} {χ : Nat → Nat} {v : Value} {x : List α} {a : Option Addr} {c : Nat} (hv : v = .slice a x.length c) (ho : OS T E1 w χ col2 a x c) : ∀ {vs : List Value} {xs : List (List α)}, RF T w χ vs xs → RW T E1 w χ col2 (vs ++ [v]) (xs ++ [x])
  | [], [], _ => ⟨⟨a, c, hv, ho⟩, trivial⟩
  | [_], [_], ⟨h, _⟩ => ⟨h, ⟨a, c, hv, ho⟩, trivial⟩
  | _ :: _ :: _, _ :: _ :: _, ⟨h, k⟩ => ⟨h, RF.push hv ho k⟩
  | [_], _ :: _ :: _, ⟨_, k⟩ => k.elim
  | _ :: _ :: _, [_], ⟨_, k⟩ => k.elim
/-- The last row is written no more. -/
theorem RW.freeze {α : Type} {T : TRep α} {E1 col2 : Nat} {w : World} {χ : Nat → Nat} (hcol : col2 ≠ 0) {vs : List Value} {xs : List (List α)} (h : RW T E1 w χ col2 vs xs) : ∃ χ', Ev (xone col2) w χ w χ' ∧ RF T w χ' vs xs := by
  have key : ∀ {vs : List Value} {xs : List (List α)}, RW T E1 w χ col2 vs xs → RF T w (fun b => if χ b = col2 then 0 else χ b) vs xs := by
    have m : M0 w χ w (fun b => if χ b = col2 then 0 else χ b) := ⟨Nat.le_refl _, fun b _ h0 => ⟨rfl, by simp [h0]⟩⟩
    intro vs
    induction vs with
    | nil => intro xs h; cases xs with | nil => trivial | cons _ _ => exact h.elim
    | cons v vs ih =>
      intro xs h
      match xs, h with
      | [x], ⟨⟨a, c, h1, h2⟩, h3⟩ => exact ⟨⟨a, c, h1, h2.lend⟩, ih h3⟩
      | x :: y :: xs, ⟨⟨a, c, h1, h2⟩, h3⟩ => exact ⟨⟨a, c, h1, h2.m0 m⟩, ih h3⟩
  have ev : Ev (xone col2) w χ w (fun b => if χ b = col2 then 0 else χ b) := ⟨rfl, rfl, rfl, Nat.le_refl _, fun b _ hp => ⟨rfl, by
    have : χ b ≠ col2 := by intro e; rw [e] at hp; simp [xone] at hp
    simp [this]⟩⟩
  exact ⟨_, ev, key h⟩
theorem RF.at {α : Type} {T : TRep α} {w : World} {χ : Nat → Nat} : ∀ {vs : List Value} {xs : List (List α)}, RF T w χ vs xs → ∀ (i : Nat) (x : List α), xs[i]? = some x → ∃ v a c, vs[i]? = some v ∧ v = .slice a x.length c ∧ RS T w χ a x c
  | [], [], _, i, x, h => by simp at h
  | v :: vs, y :: xs, ⟨⟨a, c, h1, h2⟩, k⟩, 0, x, h => by simp at h; subst h; exact ⟨v, a, c, rfl, h1, h2⟩
  | v :: vs, y :: xs, ⟨_, k⟩, i + 1, x, h => RF.at k i x (by simpa using h)
/-- An outer row of headers, all rows stay: a row of rows. -/
theorem RF.rows {α : Type} {T : TRep α} {E2 col : Nat} {w : World} {χ : Nat → Nat} {ad : Option Addr} {vs : List Value} {xs : List (List α)} {c : Nat} (hO : OS tRaw E2 w χ col ad vs c) (h : RF T w χ vs xs) : OS (tSlice T) E2 w χ col ad xs c := by
  have hl := h.len
  refine ⟨by rw [← hl]; exact hO.bnd, ?_⟩
  rcases hO.row with ⟨h1, h2, h3⟩ | ⟨b, cells, h1, h2, h3, h4, h5, h6, h7⟩
  · subst h2; exact .inl ⟨h1, List.eq_nil_of_length_eq_zero (by simpa using hl.symm), h3⟩
  · refine .inr ⟨b, cells, h1, h2, h3, by rw [← hl]; exact h4, h5, h6, fun i x hx => ?_⟩
    obtain ⟨v, a, c', e1, e2, r⟩ := h.at i x hx
    have := (h7 i v e1).1
    exact ⟨a, c', by rw [← e2]; exact this, r⟩

theorem RW.mv {α : Type} {T : TRep α} {E1 col2 : Nat} {w w' : World} {χ χ' : Nat → Nat} {p : Nat → Bool} {vs : List Value} {xs : List (List α)} (h : RW T E1 w χ col2 vs xs) (e : Ev p w χ w' χ') (hp : p col2 = false) (h0 : p 0 = false) : RW T E1 w' χ' col2 vs xs := RW.mvE e hp h0 h
/-- The last row, looked at. -/
theorem RW.openAt {α : Type} {T : TRep α} {E1 col2 : Nat} {w : World} {χ : Nat → Nat} {vs : List Value} {xs : List (List α)} {k : Int} (h : RW T E1 w χ col2 vs xs) (h0 : 0 ≤ k) (hk : k + 1 = xs.length) :
    ∃ vs' a c, vs = vs' ++ [.slice a (gi xs k).length c] ∧ RF T w χ vs' xs.dropLast ∧ OS T E1 w χ col2 a (gi xs k) c ∧ gi vs k = .slice a (gi xs k).length c := by
  obtain ⟨vs', v, xs', x, a, c, rfl, rfl, r, rfl, o⟩ := h.last (by intro e; subst e; simp at hk; omega)
  have hl := r.len
  have e1 : k.toNat = xs'.length := by simp at hk; omega
  have e2 : gi (xs' ++ [x]) k = x := by unfold gi; rw [e1]; simp
  rw [e2]
  refine ⟨vs', a, c, rfl, by simpa using r, o, ?_⟩
  unfold gi; rw [e1, ← hl]; simp
theorem set_last {vs : List Value} {v v' : Value} {k : Nat} (h : k = vs.length) : (vs ++ [v]).set k v' = vs ++ [v'] := by subst h; simp

end ops
end
end Go.Sv
