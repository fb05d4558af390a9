/- The walks chained: what the law returns, in terms of the specification. No condition. -/
import Derived.WalkKit
import Derived.ProofKit
import Derived.OpenShut
import Derived.ShutString
import Derived.ChangeOld
import Derived.Below
import Derived.Test.YtcjldfbgccmpkaaDoorRows
import Derived.Test.YtcjldfbgccmpkaaDoorHWalksAa
import Derived.Test.YtcjldfbgccmpkaaDoorHWalksAb
import Derived.Test.YtcjldfbgccmpkaaDoorHWalksAc
import Derived.Test.YtcjldfbgccmpkaaDoorHWalksAd
import Derived.Test.YtcjldfbgccmpkaaDoorHWalksL3a
import Derived.Test.YtcjldfbgccmpkaaDoorHWalksL3b
import Derived.Test.YtcjldfbgccmpkaaDoorHWalksL3x4
import Derived.Test.YtcjldfbgccmpkaaDoorHWalksL3x5
import Derived.Test.YtcjldfbgccmpkaaDoorHV25
import Derived.Test.YtcjldfbgccmpkaaDoorOp
import Derived.Test.YtcjldfbgccmpkaaDoorHXS
set_option linter.all false
namespace Go.Proofs.YtcjldfbgccmpkaaDoor
open Go Go.Sv Go.Op Go.ChangeShapes Go.WideShapes Go.ChangeAt Go.RowKit
def vToken_Token (x : Token_Token) : Prop := inR .i64 x.Line ∧ inR .i64 x.At ∧ x.Text.length ≤ 140737488355328
theorem oToken_Token : Opens Tryd.prog tToken_Token vToken_Token 49 := by
  intro H enc w base spare held fuel cs d ps h hw
  obtain ⟨hl, hf⟩ := o_fields Tryd.underlying49 h hw
  have hl : cs.length = 3 := hl.trans (by kernel_rfl)
  obtain ⟨c0, c1, c2, rfl⟩ := len3 hl
  clear hf
  obtain ⟨_, _, _, g0, w0⟩ := o_field Tryd.underlying49 h hw 0 (off := 0) (ft := 3) (k := 1) rfl rfl rfl (by kernel_rfl)
  obtain ⟨y0, r0, u0⟩ := (o_int (bytes := 8) Tryd.underlying3) _ _ _ _ _ _ _ _ _ g0 w0
  have r0 : tI.R w z0 [c0] y0 := r0
  cases r0
  obtain ⟨_, _, _, g1, w1⟩ := o_field Tryd.underlying49 h hw 1 (off := 1) (ft := 3) (k := 1) rfl rfl rfl (by kernel_rfl)
  obtain ⟨y1, r1, u1⟩ := (o_int (bytes := 8) Tryd.underlying3) _ _ _ _ _ _ _ _ _ g1 w1
  have r1 : tI.R w z0 [c1] y1 := r1
  cases r1
  obtain ⟨_, _, _, g2, w2⟩ := o_field Tryd.underlying49 h hw 2 (off := 2) (ft := 9) (k := 1) rfl rfl rfl (by kernel_rfl)
  obtain ⟨y2, r2, u2⟩ := (o_str Tryd.underlying9) _ _ _ _ _ _ _ _ _ g2 w2
  have r2 : tStr.R w z0 [c2] y2 := r2
  cases r2
  exact ⟨⟨y0, y1, y2⟩, rfl, u0, u1, u2⟩
def vRef05_Token (x : Ref05_Token) : Prop := inR .i64 x.Line ∧ inR .i64 x.At ∧ x.Text.length ≤ 140737488355328
theorem oRef05_Token : Opens Tryd.prog tRef05_Token vRef05_Token 102 := by
  intro H enc w base spare held fuel cs d ps h hw
  obtain ⟨hl, hf⟩ := o_fields Tryd.underlying102 h hw
  have hl : cs.length = 3 := hl.trans (by kernel_rfl)
  obtain ⟨c0, c1, c2, rfl⟩ := len3 hl
  clear hf
  obtain ⟨_, _, _, g0, w0⟩ := o_field Tryd.underlying102 h hw 0 (off := 0) (ft := 3) (k := 1) rfl rfl rfl (by kernel_rfl)
  obtain ⟨y0, r0, u0⟩ := (o_int (bytes := 8) Tryd.underlying3) _ _ _ _ _ _ _ _ _ g0 w0
  have r0 : tI.R w z0 [c0] y0 := r0
  cases r0
  obtain ⟨_, _, _, g1, w1⟩ := o_field Tryd.underlying102 h hw 1 (off := 1) (ft := 3) (k := 1) rfl rfl rfl (by kernel_rfl)
  obtain ⟨y1, r1, u1⟩ := (o_int (bytes := 8) Tryd.underlying3) _ _ _ _ _ _ _ _ _ g1 w1
  have r1 : tI.R w z0 [c1] y1 := r1
  cases r1
  obtain ⟨_, _, _, g2, w2⟩ := o_field Tryd.underlying102 h hw 2 (off := 2) (ft := 9) (k := 1) rfl rfl rfl (by kernel_rfl)
  obtain ⟨y2, r2, u2⟩ := (o_str Tryd.underlying9) _ _ _ _ _ _ _ _ _ g2 w2
  have r2 : tStr.R w z0 [c2] y2 := r2
  cases r2
  exact ⟨⟨y0, y1, y2⟩, rfl, u0, u1, u2⟩
def vApi_Row (x : Api_Row) : Prop := inR .i64 x.State ∧ inR .i64 x.Kind ∧ inR .i64 x.Next ∧ inR .i64 x.Result
theorem oApi_Row : Opens Tryd.prog tApi_Row vApi_Row 99 := by
  intro H enc w base spare held fuel cs d ps h hw
  obtain ⟨hl, hf⟩ := o_fields Tryd.underlying99 h hw
  have hl : cs.length = 4 := hl.trans (by kernel_rfl)
  obtain ⟨c0, c1, c2, c3, rfl⟩ := len4 hl
  clear hf
  obtain ⟨_, _, _, g0, w0⟩ := o_field Tryd.underlying99 h hw 0 (off := 0) (ft := 3) (k := 1) rfl rfl rfl (by kernel_rfl)
  obtain ⟨y0, r0, u0⟩ := (o_int (bytes := 8) Tryd.underlying3) _ _ _ _ _ _ _ _ _ g0 w0
  have r0 : tI.R w z0 [c0] y0 := r0
  cases r0
  obtain ⟨_, _, _, g1, w1⟩ := o_field Tryd.underlying99 h hw 1 (off := 1) (ft := 3) (k := 1) rfl rfl rfl (by kernel_rfl)
  obtain ⟨y1, r1, u1⟩ := (o_int (bytes := 8) Tryd.underlying3) _ _ _ _ _ _ _ _ _ g1 w1
  have r1 : tI.R w z0 [c1] y1 := r1
  cases r1
  obtain ⟨_, _, _, g2, w2⟩ := o_field Tryd.underlying99 h hw 2 (off := 2) (ft := 3) (k := 1) rfl rfl rfl (by kernel_rfl)
  obtain ⟨y2, r2, u2⟩ := (o_int (bytes := 8) Tryd.underlying3) _ _ _ _ _ _ _ _ _ g2 w2
  have r2 : tI.R w z0 [c2] y2 := r2
  cases r2
  obtain ⟨_, _, _, g3, w3⟩ := o_field Tryd.underlying99 h hw 3 (off := 3) (ft := 3) (k := 1) rfl rfl rfl (by kernel_rfl)
  obtain ⟨y3, r3, u3⟩ := (o_int (bytes := 8) Tryd.underlying3) _ _ _ _ _ _ _ _ _ g3 w3
  have r3 : tI.R w z0 [c3] y3 := r3
  cases r3
  exact ⟨⟨y0, y1, y2, y3⟩, rfl, u0, u1, u2, u3⟩
def vApi_Object (x : Api_Object) : Prop := inR .i64 x.States ∧ inR .i64 x.Kinds ∧ inR .i64 x.Init ∧ (∀ x6 ∈ x.Rows, vApi_Row x6)
theorem oApi_Object : Opens Tryd.prog tApi_Object vApi_Object 25 := by
  intro H enc w base spare held fuel cs d ps h hw
  obtain ⟨hl, hf⟩ := o_fields Tryd.underlying25 h hw
  have hl : cs.length = 4 := hl.trans (by kernel_rfl)
  obtain ⟨c0, c1, c2, c3, rfl⟩ := len4 hl
  clear hf
  obtain ⟨_, _, _, g0, w0⟩ := o_field Tryd.underlying25 h hw 0 (off := 0) (ft := 3) (k := 1) rfl rfl rfl (by kernel_rfl)
  obtain ⟨y0, r0, u0⟩ := (o_int (bytes := 8) Tryd.underlying3) _ _ _ _ _ _ _ _ _ g0 w0
  have r0 : tI.R w z0 [c0] y0 := r0
  cases r0
  obtain ⟨_, _, _, g1, w1⟩ := o_field Tryd.underlying25 h hw 1 (off := 1) (ft := 3) (k := 1) rfl rfl rfl (by kernel_rfl)
  obtain ⟨y1, r1, u1⟩ := (o_int (bytes := 8) Tryd.underlying3) _ _ _ _ _ _ _ _ _ g1 w1
  have r1 : tI.R w z0 [c1] y1 := r1
  cases r1
  obtain ⟨_, _, _, g2, w2⟩ := o_field Tryd.underlying25 h hw 2 (off := 2) (ft := 3) (k := 1) rfl rfl rfl (by kernel_rfl)
  obtain ⟨y2, r2, u2⟩ := (o_int (bytes := 8) Tryd.underlying3) _ _ _ _ _ _ _ _ _ g2 w2
  have r2 : tI.R w z0 [c2] y2 := r2
  cases r2
  obtain ⟨_, _, _, g3, w3⟩ := o_field Tryd.underlying25 h hw 3 (off := 3) (ft := 23) (k := 1) rfl rfl rfl (by kernel_rfl)
  obtain ⟨y3, r3, u3⟩ := (o_slice Tryd.underlying23 (by kernel_rfl) (by kernel_rfl) oApi_Row) _ _ _ _ _ _ _ _ _ g3 w3
  have r3 : (tSlice tApi_Row).R w z0 [c3] y3 := r3
  obtain ⟨a3, k3, e3, q3⟩ := r3
  cases e3
  exact ⟨⟨y0, y1, y2, y3⟩, ⟨a3, k3, rfl, q3⟩, u0, u1, u2, u3⟩
def vApi_Event (x : Api_Event) : Prop := inR .i64 x.What ∧ inR .i64 x.Prc ∧ inR .i64 x.N
theorem oApi_Event : Opens Tryd.prog tApi_Event vApi_Event 51 := by
  intro H enc w base spare held fuel cs d ps h hw
  obtain ⟨hl, hf⟩ := o_fields Tryd.underlying51 h hw
  have hl : cs.length = 3 := hl.trans (by kernel_rfl)
  obtain ⟨c0, c1, c2, rfl⟩ := len3 hl
  clear hf
  obtain ⟨_, _, _, g0, w0⟩ := o_field Tryd.underlying51 h hw 0 (off := 0) (ft := 3) (k := 1) rfl rfl rfl (by kernel_rfl)
  obtain ⟨y0, r0, u0⟩ := (o_int (bytes := 8) Tryd.underlying3) _ _ _ _ _ _ _ _ _ g0 w0
  have r0 : tI.R w z0 [c0] y0 := r0
  cases r0
  obtain ⟨_, _, _, g1, w1⟩ := o_field Tryd.underlying51 h hw 1 (off := 1) (ft := 3) (k := 1) rfl rfl rfl (by kernel_rfl)
  obtain ⟨y1, r1, u1⟩ := (o_int (bytes := 8) Tryd.underlying3) _ _ _ _ _ _ _ _ _ g1 w1
  have r1 : tI.R w z0 [c1] y1 := r1
  cases r1
  obtain ⟨_, _, _, g2, w2⟩ := o_field Tryd.underlying51 h hw 2 (off := 2) (ft := 3) (k := 1) rfl rfl rfl (by kernel_rfl)
  obtain ⟨y2, r2, u2⟩ := (o_int (bytes := 8) Tryd.underlying3) _ _ _ _ _ _ _ _ _ g2 w2
  have r2 : tI.R w z0 [c2] y2 := r2
  cases r2
  exact ⟨⟨y0, y1, y2⟩, rfl, u0, u1, u2⟩
theorem s63 : S63 := x63
theorem s74 : S74 := x74
theorem s55 : S55 := x55
theorem s44 : S44 := C44 v44
theorem s75 : S75 := C75 v75
theorem s62 : S62 := C62 s75 v62
theorem s97 : S97 := C97 s75 v97
theorem s89 : S89 := C89 s97 v89
theorem s61 : S61 := C61 s74 v61
theorem s38 : S38 := C38 s61 v38
theorem s39 : S39 := C39 s62 s63 v39
theorem s78 : S78 := C78 s89 v78
theorem s16 : S16 := C16 s38 s39 v16
theorem s20 : S20 := C20 s44 v20
theorem s66 : S66 := C66 s78 v66
theorem s28 : S28 := C28 s55 v28
theorem s56 : S56 := C56 v56
theorem s67 : S67 := C67 s56 v67
theorem s52 : S52 := C52 v52
theorem s57 : S57 := C57 v57
theorem s95 : S95 := C95 v95
theorem s82 : S82 := C82 s95 v82
theorem s81 : S81 := C81 v81
theorem s73 : S73 := C73 s81 s82 v73
theorem s58 : S58 := C58 s57 s73 v58
theorem s32 : S32 := C32 s57 s58 v32
theorem s35 : S35 := C35 v35
theorem s49 : S49 := C49 v49
theorem s23 : S23 := C23 s49 v23
theorem s88 : S88 := C88 v88
theorem s77 : S77 := C77 s88 v77
theorem s65 : S65 := C65 s77 v65
theorem s64 : S64 := C64 s65 v64
theorem s40 : S40 := C40 s64 v40
theorem s42 : S42 := C42 s66 v42
theorem s46 : S46 := C46 s67 v46
theorem s41 : S41 := C41 v41
theorem s17 : S17 := C17 s32 s40 s41 s42 v17
theorem s19 : S19 := C19 v19
theorem s45 : S45 := C45 s46 v45
theorem s21 : S21 := C21 s35 s45 v21
theorem s51 : S51 := C51 s28 v51
theorem s50 : S50 := C50 s51 v50
theorem s25 : S25 := C25 s32 s50 s51 s52 v25
theorem s59 : S59 := C59 v59
theorem s33 : S33 := C33 s59 v33
theorem s34 : S34 := C34 v34
theorem s68 : S68 := C68 v68
theorem s48 : S48 := C48 s68 v48
theorem s24 : S24 := C24 v24
theorem s47 : S47 := C47 v47
theorem s14 : S14 := C14 s32 s33 s34 v14
theorem s43 : S43 := C43 s42 v43
theorem s18 : S18 := C18 v18
theorem s8 : S8 := C8 s16 s17 s18 s43 v8
theorem s22 : S22 := C22 s46 s47 s48 v22
theorem s9 : S9 := C9 s19 s20 s21 s22 v9
theorem s54 : S54 := C54 v54
theorem s27 : S27 := C27 s54 v27
theorem s12 : S12 := C12 s14 s25 s27 s28 v12
theorem s10 : S10 := C10 s23 s24 v10
theorem s7 : S7 := C7 s12 s14 s8 (fun _ => v7)
theorem own : ownKnob Tryd.prog.godebug = none := by kernel_rfl
theorem laidOut : laidOutB Tryd.prog = true := by kernel_rfl
end Go.Proofs.YtcjldfbgccmpkaaDoor
