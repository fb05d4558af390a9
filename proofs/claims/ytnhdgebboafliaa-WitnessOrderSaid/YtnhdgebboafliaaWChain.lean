/- The walks chained: what the law returns, in terms of the specification. No condition. -/
import Derived.WalkKit
import Derived.ProofKit
import Derived.OpenShut
import Derived.ShutString
import Derived.ChangeOld
import Derived.Below
import Derived.Test.YtnhdgebboafliaaRows
import Derived.Test.YtnhdgebboafliaaWWalksD
import Derived.Test.YtnhdgebboafliaaWV9
import Derived.Test.YtnhdgebboafliaaOp
set_option linter.all false
namespace Go.Proofs.Ytnhdgebboafliaa
open Go Go.Sv Go.Op Go.ChangeShapes Go.WideShapes Go.ChangeAt Go.RowKit
def vApi_Row (x : Api_Row) : Prop := inR .i64 x.State ∧ inR .i64 x.Kind ∧ inR .i64 x.Next ∧ inR .i64 x.Result
theorem oApi_Row : Opens Try.prog tApi_Row vApi_Row 102 := by
  intro H enc w base spare held fuel cs d ps h hw
  obtain ⟨hl, hf⟩ := o_fields Try.underlying102 h hw
  have hl : cs.length = 4 := hl.trans (by kernel_rfl)
  obtain ⟨c0, c1, c2, c3, rfl⟩ := len4 hl
  clear hf
  obtain ⟨_, _, _, g0, w0⟩ := o_field Try.underlying102 h hw 0 (off := 0) (ft := 3) (k := 1) rfl rfl rfl (by kernel_rfl)
  obtain ⟨y0, r0, u0⟩ := (o_int (bytes := 8) Try.underlying3) _ _ _ _ _ _ _ _ _ g0 w0
  have r0 : tI.R w z0 [c0] y0 := r0
  cases r0
  obtain ⟨_, _, _, g1, w1⟩ := o_field Try.underlying102 h hw 1 (off := 1) (ft := 3) (k := 1) rfl rfl rfl (by kernel_rfl)
  obtain ⟨y1, r1, u1⟩ := (o_int (bytes := 8) Try.underlying3) _ _ _ _ _ _ _ _ _ g1 w1
  have r1 : tI.R w z0 [c1] y1 := r1
  cases r1
  obtain ⟨_, _, _, g2, w2⟩ := o_field Try.underlying102 h hw 2 (off := 2) (ft := 3) (k := 1) rfl rfl rfl (by kernel_rfl)
  obtain ⟨y2, r2, u2⟩ := (o_int (bytes := 8) Try.underlying3) _ _ _ _ _ _ _ _ _ g2 w2
  have r2 : tI.R w z0 [c2] y2 := r2
  cases r2
  obtain ⟨_, _, _, g3, w3⟩ := o_field Try.underlying102 h hw 3 (off := 3) (ft := 3) (k := 1) rfl rfl rfl (by kernel_rfl)
  obtain ⟨y3, r3, u3⟩ := (o_int (bytes := 8) Try.underlying3) _ _ _ _ _ _ _ _ _ g3 w3
  have r3 : tI.R w z0 [c3] y3 := r3
  cases r3
  exact ⟨⟨y0, y1, y2, y3⟩, rfl, u0, u1, u2, u3⟩
def vApi_Object (x : Api_Object) : Prop := inR .i64 x.States ∧ inR .i64 x.Kinds ∧ inR .i64 x.Init ∧ (∀ x6 ∈ x.Rows, vApi_Row x6)
theorem oApi_Object : Opens Try.prog tApi_Object vApi_Object 24 := by
  intro H enc w base spare held fuel cs d ps h hw
  obtain ⟨hl, hf⟩ := o_fields Try.underlying24 h hw
  have hl : cs.length = 4 := hl.trans (by kernel_rfl)
  obtain ⟨c0, c1, c2, c3, rfl⟩ := len4 hl
  clear hf
  obtain ⟨_, _, _, g0, w0⟩ := o_field Try.underlying24 h hw 0 (off := 0) (ft := 3) (k := 1) rfl rfl rfl (by kernel_rfl)
  obtain ⟨y0, r0, u0⟩ := (o_int (bytes := 8) Try.underlying3) _ _ _ _ _ _ _ _ _ g0 w0
  have r0 : tI.R w z0 [c0] y0 := r0
  cases r0
  obtain ⟨_, _, _, g1, w1⟩ := o_field Try.underlying24 h hw 1 (off := 1) (ft := 3) (k := 1) rfl rfl rfl (by kernel_rfl)
  obtain ⟨y1, r1, u1⟩ := (o_int (bytes := 8) Try.underlying3) _ _ _ _ _ _ _ _ _ g1 w1
  have r1 : tI.R w z0 [c1] y1 := r1
  cases r1
  obtain ⟨_, _, _, g2, w2⟩ := o_field Try.underlying24 h hw 2 (off := 2) (ft := 3) (k := 1) rfl rfl rfl (by kernel_rfl)
  obtain ⟨y2, r2, u2⟩ := (o_int (bytes := 8) Try.underlying3) _ _ _ _ _ _ _ _ _ g2 w2
  have r2 : tI.R w z0 [c2] y2 := r2
  cases r2
  obtain ⟨_, _, _, g3, w3⟩ := o_field Try.underlying24 h hw 3 (off := 3) (ft := 22) (k := 1) rfl rfl rfl (by kernel_rfl)
  obtain ⟨y3, r3, u3⟩ := (o_slice Try.underlying22 (by kernel_rfl) (by kernel_rfl) oApi_Row) _ _ _ _ _ _ _ _ _ g3 w3
  have r3 : (tSlice tApi_Row).R w z0 [c3] y3 := r3
  obtain ⟨a3, k3, e3, q3⟩ := r3
  cases e3
  exact ⟨⟨y0, y1, y2, y3⟩, ⟨a3, k3, rfl, q3⟩, u0, u1, u2, u3⟩
def vApi_Oper (x : Api_Oper) : Prop := inR .i64 x.Prc ∧ inR .i64 x.Kind ∧ inR .i64 x.Start ∧ inR .i64 x.End ∧ inR .i64 x.Result
theorem oApi_Oper : Opens Try.prog tApi_Oper vApi_Oper 54 := by
  intro H enc w base spare held fuel cs d ps h hw
  obtain ⟨hl, hf⟩ := o_fields Try.underlying54 h hw
  have hl : cs.length = 5 := hl.trans (by kernel_rfl)
  obtain ⟨c0, c1, c2, c3, c4, rfl⟩ := len5 hl
  clear hf
  obtain ⟨_, _, _, g0, w0⟩ := o_field Try.underlying54 h hw 0 (off := 0) (ft := 3) (k := 1) rfl rfl rfl (by kernel_rfl)
  obtain ⟨y0, r0, u0⟩ := (o_int (bytes := 8) Try.underlying3) _ _ _ _ _ _ _ _ _ g0 w0
  have r0 : tI.R w z0 [c0] y0 := r0
  cases r0
  obtain ⟨_, _, _, g1, w1⟩ := o_field Try.underlying54 h hw 1 (off := 1) (ft := 3) (k := 1) rfl rfl rfl (by kernel_rfl)
  obtain ⟨y1, r1, u1⟩ := (o_int (bytes := 8) Try.underlying3) _ _ _ _ _ _ _ _ _ g1 w1
  have r1 : tI.R w z0 [c1] y1 := r1
  cases r1
  obtain ⟨_, _, _, g2, w2⟩ := o_field Try.underlying54 h hw 2 (off := 2) (ft := 3) (k := 1) rfl rfl rfl (by kernel_rfl)
  obtain ⟨y2, r2, u2⟩ := (o_int (bytes := 8) Try.underlying3) _ _ _ _ _ _ _ _ _ g2 w2
  have r2 : tI.R w z0 [c2] y2 := r2
  cases r2
  obtain ⟨_, _, _, g3, w3⟩ := o_field Try.underlying54 h hw 3 (off := 3) (ft := 3) (k := 1) rfl rfl rfl (by kernel_rfl)
  obtain ⟨y3, r3, u3⟩ := (o_int (bytes := 8) Try.underlying3) _ _ _ _ _ _ _ _ _ g3 w3
  have r3 : tI.R w z0 [c3] y3 := r3
  cases r3
  obtain ⟨_, _, _, g4, w4⟩ := o_field Try.underlying54 h hw 4 (off := 4) (ft := 3) (k := 1) rfl rfl rfl (by kernel_rfl)
  obtain ⟨y4, r4, u4⟩ := (o_int (bytes := 8) Try.underlying3) _ _ _ _ _ _ _ _ _ g4 w4
  have r4 : tI.R w z0 [c4] y4 := r4
  cases r4
  exact ⟨⟨y0, y1, y2, y3, y4⟩, rfl, u0, u1, u2, u3, u4⟩
def vApi_Pick (x : Api_Pick) : Prop := inR .i64 x.Oper ∧ inR .i64 x.Result
theorem oApi_Pick : Opens Try.prog tApi_Pick vApi_Pick 52 := by
  intro H enc w base spare held fuel cs d ps h hw
  obtain ⟨hl, hf⟩ := o_fields Try.underlying52 h hw
  have hl : cs.length = 2 := hl.trans (by kernel_rfl)
  obtain ⟨c0, c1, rfl⟩ := len2 hl
  clear hf
  obtain ⟨_, _, _, g0, w0⟩ := o_field Try.underlying52 h hw 0 (off := 0) (ft := 3) (k := 1) rfl rfl rfl (by kernel_rfl)
  obtain ⟨y0, r0, u0⟩ := (o_int (bytes := 8) Try.underlying3) _ _ _ _ _ _ _ _ _ g0 w0
  have r0 : tI.R w z0 [c0] y0 := r0
  cases r0
  obtain ⟨_, _, _, g1, w1⟩ := o_field Try.underlying52 h hw 1 (off := 1) (ft := 3) (k := 1) rfl rfl rfl (by kernel_rfl)
  obtain ⟨y1, r1, u1⟩ := (o_int (bytes := 8) Try.underlying3) _ _ _ _ _ _ _ _ _ g1 w1
  have r1 : tI.R w z0 [c1] y1 := r1
  cases r1
  exact ⟨⟨y0, y1⟩, rfl, u0, u1⟩
theorem s12 : S12 := C12 v12
theorem s54 : S54 := C54 v54
theorem s81 : S81 := C81 v81
theorem s84 : S84 := C84 v84
theorem s82 : S82 := C82 s84 v82
theorem s72 : S72 := C72 s81 s82 v72
theorem s55 : S55 := C55 s54 s72 v55
theorem s31 : S31 := C31 s54 s55 v31
theorem s44 : S44 := C44 s31 v44
theorem s45 : S45 := C45 v45
theorem s69 : S69 := C69 v69
theorem s70_69 : S70_69 := C70_69 s69 v70_69
theorem s48 : S48 := C48 s70_69 v48
theorem s46 : S46 := C46 s48 v46
theorem s17 : S17 := C17 s46 v17
theorem s68 : S68 := C68 s17 v68
theorem s16 : S16 := C16 s44 s45 s68 v16
theorem s14 : S14 := C14 s16 v14
theorem s71 : S71 := C71 v71
theorem s80 : S80 := C80 v80
theorem s52 : S52 := C52 s71 s80 v52
theorem s27 : S27 := C27 s52 v27
theorem s53 : S53 := C53 v53
theorem s28 : S28 := C28 s53 v28
theorem s73 : S73 := C73 v73
theorem s56 : S56 := C56 s73 v56
theorem s32 : S32 := C32 s53 s56 v32
theorem s49 : S49 := C49 s14 s27 s28 s31 s32 v49
theorem s25 : S25 := C25 s49 v25
theorem s19 : S19 := C19 v19
theorem s29 : S29 := C29 s52 v29
theorem s50 : S50 := C50 (fun _ => v50)
theorem s51 : S51 := C51 (fun _ => v51)
theorem s26 : S26 := C26 s19 s25 s27 s28 s29 s49 s50 s51 (fun _ => v26)
theorem s30 : S30 := C30 v30
theorem s47 : S47 := C47 v47
theorem s18 : S18 := C18 s47 v18
theorem s43 : S43 := C43 v43
theorem s15 : S15 := C15 s18 s43 v15
theorem s57 : S57 := C57 v57
theorem s33 : S33 := C33 s15 s30 s57 v33
theorem own : ownKnob Try.prog.godebug = none := by kernel_rfl
theorem laidOut : laidOutB Try.prog = true := by kernel_rfl
end Go.Proofs.Ytnhdgebboafliaa
