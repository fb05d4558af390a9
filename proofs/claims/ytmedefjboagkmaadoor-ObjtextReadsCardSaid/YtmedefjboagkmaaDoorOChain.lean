/- The walks chained: what the law returns, in terms of the specification. No condition. -/
import Derived.WalkKit
import Derived.ProofKit
import Derived.OpenShut
import Derived.ShutString
import Derived.ChangeOld
import Derived.Below
import Derived.Test.YtmedefjboagkmaaDoorRows
import Derived.Test.YtmedefjboagkmaaDoorOWalksC
import Derived.Test.YtmedefjboagkmaaDoorOV19
import Derived.Test.YtmedefjboagkmaaDoorOp
import Derived.Test.YtmedefjboagkmaaDoorOXS
set_option linter.all false
namespace Go.Proofs.YtmedefjboagkmaaDoor
open Go Go.Sv Go.Op Go.ChangeShapes Go.WideShapes Go.ChangeAt Go.RowKit
def vToken_Token (x : Token_Token) : Prop := inR .i64 x.Line ∧ inR .i64 x.At ∧ x.Text.length ≤ 140737488355328
theorem oToken_Token : Opens Tryd.prog tToken_Token vToken_Token 60 := by
  intro H enc w base spare held fuel cs d ps h hw
  obtain ⟨hl, hf⟩ := o_fields Tryd.underlying60 h hw
  have hl : cs.length = 3 := hl.trans (by kernel_rfl)
  obtain ⟨c0, c1, c2, rfl⟩ := len3 hl
  clear hf
  obtain ⟨_, _, _, g0, w0⟩ := o_field Tryd.underlying60 h hw 0 (off := 0) (ft := 3) (k := 1) rfl rfl rfl (by kernel_rfl)
  obtain ⟨y0, r0, u0⟩ := (o_int (bytes := 8) Tryd.underlying3) _ _ _ _ _ _ _ _ _ g0 w0
  have r0 : tI.R w z0 [c0] y0 := r0
  cases r0
  obtain ⟨_, _, _, g1, w1⟩ := o_field Tryd.underlying60 h hw 1 (off := 1) (ft := 3) (k := 1) rfl rfl rfl (by kernel_rfl)
  obtain ⟨y1, r1, u1⟩ := (o_int (bytes := 8) Tryd.underlying3) _ _ _ _ _ _ _ _ _ g1 w1
  have r1 : tI.R w z0 [c1] y1 := r1
  cases r1
  obtain ⟨_, _, _, g2, w2⟩ := o_field Tryd.underlying60 h hw 2 (off := 2) (ft := 9) (k := 1) rfl rfl rfl (by kernel_rfl)
  obtain ⟨y2, r2, u2⟩ := (o_str Tryd.underlying9) _ _ _ _ _ _ _ _ _ g2 w2
  have r2 : tStr.R w z0 [c2] y2 := r2
  cases r2
  exact ⟨⟨y0, y1, y2⟩, rfl, u0, u1, u2⟩
def vRef05_Token (x : Ref05_Token) : Prop := inR .i64 x.Line ∧ inR .i64 x.At ∧ x.Text.length ≤ 140737488355328
theorem oRef05_Token : Opens Tryd.prog tRef05_Token vRef05_Token 69 := by
  intro H enc w base spare held fuel cs d ps h hw
  obtain ⟨hl, hf⟩ := o_fields Tryd.underlying69 h hw
  have hl : cs.length = 3 := hl.trans (by kernel_rfl)
  obtain ⟨c0, c1, c2, rfl⟩ := len3 hl
  clear hf
  obtain ⟨_, _, _, g0, w0⟩ := o_field Tryd.underlying69 h hw 0 (off := 0) (ft := 3) (k := 1) rfl rfl rfl (by kernel_rfl)
  obtain ⟨y0, r0, u0⟩ := (o_int (bytes := 8) Tryd.underlying3) _ _ _ _ _ _ _ _ _ g0 w0
  have r0 : tI.R w z0 [c0] y0 := r0
  cases r0
  obtain ⟨_, _, _, g1, w1⟩ := o_field Tryd.underlying69 h hw 1 (off := 1) (ft := 3) (k := 1) rfl rfl rfl (by kernel_rfl)
  obtain ⟨y1, r1, u1⟩ := (o_int (bytes := 8) Tryd.underlying3) _ _ _ _ _ _ _ _ _ g1 w1
  have r1 : tI.R w z0 [c1] y1 := r1
  cases r1
  obtain ⟨_, _, _, g2, w2⟩ := o_field Tryd.underlying69 h hw 2 (off := 2) (ft := 9) (k := 1) rfl rfl rfl (by kernel_rfl)
  obtain ⟨y2, r2, u2⟩ := (o_str Tryd.underlying9) _ _ _ _ _ _ _ _ _ g2 w2
  have r2 : tStr.R w z0 [c2] y2 := r2
  cases r2
  exact ⟨⟨y0, y1, y2⟩, rfl, u0, u1, u2⟩
def vApi_Row (x : Api_Row) : Prop := inR .i64 x.State ∧ inR .i64 x.Kind ∧ inR .i64 x.Next ∧ inR .i64 x.Result
theorem oApi_Row : Opens Tryd.prog tApi_Row vApi_Row 66 := by
  intro H enc w base spare held fuel cs d ps h hw
  obtain ⟨hl, hf⟩ := o_fields Tryd.underlying66 h hw
  have hl : cs.length = 4 := hl.trans (by kernel_rfl)
  obtain ⟨c0, c1, c2, c3, rfl⟩ := len4 hl
  clear hf
  obtain ⟨_, _, _, g0, w0⟩ := o_field Tryd.underlying66 h hw 0 (off := 0) (ft := 3) (k := 1) rfl rfl rfl (by kernel_rfl)
  obtain ⟨y0, r0, u0⟩ := (o_int (bytes := 8) Tryd.underlying3) _ _ _ _ _ _ _ _ _ g0 w0
  have r0 : tI.R w z0 [c0] y0 := r0
  cases r0
  obtain ⟨_, _, _, g1, w1⟩ := o_field Tryd.underlying66 h hw 1 (off := 1) (ft := 3) (k := 1) rfl rfl rfl (by kernel_rfl)
  obtain ⟨y1, r1, u1⟩ := (o_int (bytes := 8) Tryd.underlying3) _ _ _ _ _ _ _ _ _ g1 w1
  have r1 : tI.R w z0 [c1] y1 := r1
  cases r1
  obtain ⟨_, _, _, g2, w2⟩ := o_field Tryd.underlying66 h hw 2 (off := 2) (ft := 3) (k := 1) rfl rfl rfl (by kernel_rfl)
  obtain ⟨y2, r2, u2⟩ := (o_int (bytes := 8) Tryd.underlying3) _ _ _ _ _ _ _ _ _ g2 w2
  have r2 : tI.R w z0 [c2] y2 := r2
  cases r2
  obtain ⟨_, _, _, g3, w3⟩ := o_field Tryd.underlying66 h hw 3 (off := 3) (ft := 3) (k := 1) rfl rfl rfl (by kernel_rfl)
  obtain ⟨y3, r3, u3⟩ := (o_int (bytes := 8) Tryd.underlying3) _ _ _ _ _ _ _ _ _ g3 w3
  have r3 : tI.R w z0 [c3] y3 := r3
  cases r3
  exact ⟨⟨y0, y1, y2, y3⟩, rfl, u0, u1, u2, u3⟩
def vApi_Object (x : Api_Object) : Prop := inR .i64 x.States ∧ inR .i64 x.Kinds ∧ inR .i64 x.Init ∧ (∀ x6 ∈ x.Rows, vApi_Row x6)
theorem oApi_Object : Opens Tryd.prog tApi_Object vApi_Object 25 := by
  intro H enc w base spare held fuel cs d ps h hw
  obtain ⟨hl, hf⟩ := o_fields Tryd.underlying25 h hw
  have hl : cs.length = 4 := hl.trans (by kernel_rfl)
  obtain ⟨c0, c1, c2, c3, rfl⟩ := len4 hl
  clear hf
  obtain ⟨_, _, _, g0, w0⟩ := o_field Tryd.underlying25 h hw 0 (off := 0) (ft := 3) (k := 1) rfl rfl rfl (by kernel_rfl)
  obtain ⟨y0, r0, u0⟩ := (o_int (bytes := 8) Tryd.underlying3) _ _ _ _ _ _ _ _ _ g0 w0
  have r0 : tI.R w z0 [c0] y0 := r0
  cases r0
  obtain ⟨_, _, _, g1, w1⟩ := o_field Tryd.underlying25 h hw 1 (off := 1) (ft := 3) (k := 1) rfl rfl rfl (by kernel_rfl)
  obtain ⟨y1, r1, u1⟩ := (o_int (bytes := 8) Tryd.underlying3) _ _ _ _ _ _ _ _ _ g1 w1
  have r1 : tI.R w z0 [c1] y1 := r1
  cases r1
  obtain ⟨_, _, _, g2, w2⟩ := o_field Tryd.underlying25 h hw 2 (off := 2) (ft := 3) (k := 1) rfl rfl rfl (by kernel_rfl)
  obtain ⟨y2, r2, u2⟩ := (o_int (bytes := 8) Tryd.underlying3) _ _ _ _ _ _ _ _ _ g2 w2
  have r2 : tI.R w z0 [c2] y2 := r2
  cases r2
  obtain ⟨_, _, _, g3, w3⟩ := o_field Tryd.underlying25 h hw 3 (off := 3) (ft := 23) (k := 1) rfl rfl rfl (by kernel_rfl)
  obtain ⟨y3, r3, u3⟩ := (o_slice Tryd.underlying23 (by kernel_rfl) (by kernel_rfl) oApi_Row) _ _ _ _ _ _ _ _ _ g3 w3
  have r3 : (tSlice tApi_Row).R w z0 [c3] y3 := r3
  obtain ⟨a3, k3, e3, q3⟩ := r3
  cases e3
  exact ⟨⟨y0, y1, y2, y3⟩, ⟨a3, k3, rfl, q3⟩, u0, u1, u2, u3⟩
theorem s47 : S47 := x47
theorem s56 : S56 := x56
theorem s59 : S59 := x59
theorem s31 : S31 := C31 v31
theorem s57 : S57 := C57 v57
theorem s46 : S46 := C46 s57 v46
theorem s72 : S72 := C72 s57 v72
theorem s61 : S61 := C61 s72 v61
theorem s45 : S45 := C45 s56 v45
theorem s29 : S29 := C29 s45 v29
theorem s30 : S30 := C30 s46 s47 v30
theorem s53 : S53 := C53 s61 v53
theorem s12 : S12 := C12 s29 s30 v12
theorem s14 : S14 := C14 s31 v14
theorem s38 : S38 := C38 s53 v38
theorem s48 : S48 := C48 s59 v48
theorem s52 : S52 := C52 v52
theorem s39 : S39 := C39 s52 v39
theorem s36 : S36 := C36 v36
theorem s16 : S16 := C16 v16
theorem s17 : S17 := C17 v17
theorem s40 : S40 := C40 v40
theorem s73 : S73 := C73 v73
theorem s63 : S63 := C63 s73 v63
theorem s62 : S62 := C62 v62
theorem s54 : S54 := C54 s62 s63 v54
theorem s41 : S41 := C41 s40 s54 v41
theorem s24 : S24 := C24 s40 s41 v24
theorem s42 : S42 := C42 v42
theorem s25 : S25 := C25 s42 v25
theorem s33 : S33 := C33 v33
theorem s27 : S27 := C27 v27
theorem s10 : S10 := C10 s27 v10
theorem s23 : S23 := C23 v23
theorem s18 : S18 := C18 v18
theorem s65 : S65 := C65 v65
theorem s55 : S55 := C55 s65 v55
theorem s44 : S44 := C44 s55 v44
theorem s43 : S43 := C43 s44 v43
theorem s28 : S28 := C28 s43 v28
theorem s21 : S21 := C21 s38 v21
theorem s22 : S22 := C22 s39 v22
theorem s26 : S26 := C26 v26
theorem s11 : S11 := C11 s21 s24 s26 s28 v11
theorem s8 : S8 := C8 s11 s12 s26 v8
theorem s13 : S13 := C13 v13
theorem s32 : S32 := C32 s22 v32
theorem s15 : S15 := C15 s32 s33 v15
theorem s9 : S9 := C9 s13 s14 s15 v9
theorem s35 : S35 := C35 s48 v35
theorem s34 : S34 := C34 s35 v34
theorem s19 : S19 := C19 s24 s34 s35 s36 v19
theorem s37 : S37 := C37 s52 v37
theorem s20 : S20 := C20 s33 s37 v20
theorem s7 : S7 := C7 s10 s11 s12 s19 s21 s23 s8 (fun _ => v7)
theorem own : ownKnob Tryd.prog.godebug = none := by kernel_rfl
theorem laidOut : laidOutB Tryd.prog = true := by kernel_rfl
end Go.Proofs.YtmedefjboagkmaaDoor
