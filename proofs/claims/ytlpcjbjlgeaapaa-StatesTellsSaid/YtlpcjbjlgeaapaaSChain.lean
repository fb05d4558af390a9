/- The walks chained: what the law returns, in terms of the specification. No condition. -/
import Derived.WalkKit
import Derived.ProofKit
import Derived.OpenShut
import Derived.ShutString
import Derived.ChangeOld
import Derived.Below
import Derived.Test.YtlpcjbjlgeaapaaRows
import Derived.Test.YtlpcjbjlgeaapaaSWalksB
import Derived.Test.YtlpcjbjlgeaapaaSV9
import Derived.Test.YtlpcjbjlgeaapaaOp
set_option linter.all false
namespace Go.Proofs.Ytlpcjbjlgeaapaa
open Go Go.Sv Go.Op Go.ChangeShapes Go.WideShapes Go.ChangeAt Go.RowKit
def vNumbering_Size (x : Numbering_Size) : Prop := inR .i64 x.Ops ∧ inR .i64 x.States
theorem oNumbering_Size : Opens Try.prog tNumbering_Size vNumbering_Size 23 := by
  intro H enc w base spare held fuel cs d ps h hw
  obtain ⟨hl, hf⟩ := o_fields Try.underlying23 h hw
  have hl : cs.length = 2 := hl.trans (by kernel_rfl)
  obtain ⟨c0, c1, rfl⟩ := len2 hl
  clear hf
  obtain ⟨_, _, _, g0, w0⟩ := o_field Try.underlying23 h hw 0 (off := 0) (ft := 3) (k := 1) rfl rfl rfl (by kernel_rfl)
  obtain ⟨y0, r0, u0⟩ := (o_int (bytes := 8) Try.underlying3) _ _ _ _ _ _ _ _ _ g0 w0
  have r0 : tI.R w z0 [c0] y0 := r0
  cases r0
  obtain ⟨_, _, _, g1, w1⟩ := o_field Try.underlying23 h hw 1 (off := 1) (ft := 3) (k := 1) rfl rfl rfl (by kernel_rfl)
  obtain ⟨y1, r1, u1⟩ := (o_int (bytes := 8) Try.underlying3) _ _ _ _ _ _ _ _ _ g1 w1
  have r1 : tI.R w z0 [c1] y1 := r1
  cases r1
  exact ⟨⟨y0, y1⟩, rfl, u0, u1⟩
def vNumbering_Name (x : Numbering_Name) : Prop := inR .i64 x.Kind ∧ inR .i64 x.A ∧ inR .i64 x.B
theorem oNumbering_Name : Opens Try.prog tNumbering_Name vNumbering_Name 25 := by
  intro H enc w base spare held fuel cs d ps h hw
  obtain ⟨hl, hf⟩ := o_fields Try.underlying25 h hw
  have hl : cs.length = 3 := hl.trans (by kernel_rfl)
  obtain ⟨c0, c1, c2, rfl⟩ := len3 hl
  clear hf
  obtain ⟨_, _, _, g0, w0⟩ := o_field Try.underlying25 h hw 0 (off := 0) (ft := 3) (k := 1) rfl rfl rfl (by kernel_rfl)
  obtain ⟨y0, r0, u0⟩ := (o_int (bytes := 8) Try.underlying3) _ _ _ _ _ _ _ _ _ g0 w0
  have r0 : tI.R w z0 [c0] y0 := r0
  cases r0
  obtain ⟨_, _, _, g1, w1⟩ := o_field Try.underlying25 h hw 1 (off := 1) (ft := 3) (k := 1) rfl rfl rfl (by kernel_rfl)
  obtain ⟨y1, r1, u1⟩ := (o_int (bytes := 8) Try.underlying3) _ _ _ _ _ _ _ _ _ g1 w1
  have r1 : tI.R w z0 [c1] y1 := r1
  cases r1
  obtain ⟨_, _, _, g2, w2⟩ := o_field Try.underlying25 h hw 2 (off := 2) (ft := 3) (k := 1) rfl rfl rfl (by kernel_rfl)
  obtain ⟨y2, r2, u2⟩ := (o_int (bytes := 8) Try.underlying3) _ _ _ _ _ _ _ _ _ g2 w2
  have r2 : tI.R w z0 [c2] y2 := r2
  cases r2
  exact ⟨⟨y0, y1, y2⟩, rfl, u0, u1, u2⟩
def vRef31_Name (x : Ref31_Name) : Prop := inR .i64 x.Kind ∧ inR .i64 x.A ∧ inR .i64 x.B
theorem oRef31_Name : Opens Try.prog tRef31_Name vRef31_Name 32 := by
  intro H enc w base spare held fuel cs d ps h hw
  obtain ⟨hl, hf⟩ := o_fields Try.underlying32 h hw
  have hl : cs.length = 3 := hl.trans (by kernel_rfl)
  obtain ⟨c0, c1, c2, rfl⟩ := len3 hl
  clear hf
  obtain ⟨_, _, _, g0, w0⟩ := o_field Try.underlying32 h hw 0 (off := 0) (ft := 3) (k := 1) rfl rfl rfl (by kernel_rfl)
  obtain ⟨y0, r0, u0⟩ := (o_int (bytes := 8) Try.underlying3) _ _ _ _ _ _ _ _ _ g0 w0
  have r0 : tI.R w z0 [c0] y0 := r0
  cases r0
  obtain ⟨_, _, _, g1, w1⟩ := o_field Try.underlying32 h hw 1 (off := 1) (ft := 3) (k := 1) rfl rfl rfl (by kernel_rfl)
  obtain ⟨y1, r1, u1⟩ := (o_int (bytes := 8) Try.underlying3) _ _ _ _ _ _ _ _ _ g1 w1
  have r1 : tI.R w z0 [c1] y1 := r1
  cases r1
  obtain ⟨_, _, _, g2, w2⟩ := o_field Try.underlying32 h hw 2 (off := 2) (ft := 3) (k := 1) rfl rfl rfl (by kernel_rfl)
  obtain ⟨y2, r2, u2⟩ := (o_int (bytes := 8) Try.underlying3) _ _ _ _ _ _ _ _ _ g2 w2
  have r2 : tI.R w z0 [c2] y2 := r2
  cases r2
  exact ⟨⟨y0, y1, y2⟩, rfl, u0, u1, u2⟩
def vApi_Formula (x : Api_Formula) : Prop := inR .i64 x.Vars ∧ (∀ x9 ∈ x.Clauses, ∀ x9y ∈ x9, inR .i64 x9y)
theorem oApi_Formula : Opens Try.prog tApi_Formula vApi_Formula 58 := by
  intro H enc w base spare held fuel cs d ps h hw
  obtain ⟨hl, hf⟩ := o_fields Try.underlying58 h hw
  have hl : cs.length = 2 := hl.trans (by kernel_rfl)
  obtain ⟨c0, c1, rfl⟩ := len2 hl
  clear hf
  obtain ⟨_, _, _, g0, w0⟩ := o_field Try.underlying58 h hw 0 (off := 0) (ft := 3) (k := 1) rfl rfl rfl (by kernel_rfl)
  obtain ⟨y0, r0, u0⟩ := (o_int (bytes := 8) Try.underlying3) _ _ _ _ _ _ _ _ _ g0 w0
  have r0 : tI.R w z0 [c0] y0 := r0
  cases r0
  obtain ⟨_, _, _, g1, w1⟩ := o_field Try.underlying58 h hw 1 (off := 1) (ft := 50) (k := 1) rfl rfl rfl (by kernel_rfl)
  obtain ⟨y1, r1, u1⟩ := (o_slice Try.underlying50 (by kernel_rfl) (by kernel_rfl) (o_slice Try.underlying42 (by kernel_rfl) (by kernel_rfl) (o_int (bytes := 8) Try.underlying3))) _ _ _ _ _ _ _ _ _ g1 w1
  have r1 : (tSlice (tSlice tI)).R w z0 [c1] y1 := r1
  obtain ⟨a1, k1, e1, q1⟩ := r1
  cases e1
  exact ⟨⟨y0, y1⟩, ⟨a1, k1, rfl, q1⟩, u0, u1⟩
theorem s21 : S21 := C21 v21
theorem s22 : S22 := C22 v22
theorem s56 : S56 := C56 v56
theorem s23 : S23 := C23 s21 s56 v23
theorem s24 : S24 := C24 s21 s56 v24
theorem s59 : S59 := C59 s24 v59
theorem s58 : S58 := C58 s59 v58
theorem s57_58 : S57_58 := C57_58 s58 v57_58
theorem s27 : S27 := C27 s21 s23 s57_58 v27
theorem s61 : S61 := C61 s59 v61
theorem s57_61 : S57_61 := C57_61 s61 v57_61
theorem s49 : S49 := C49 v49
theorem s32 : S32 := C32 s21 s49 s57_61 s59 v32
theorem s60 : S60 := C60 v60
theorem s28 : S28 := C28 s22 s60 v28
theorem s29 : S29 := C29 s21 s23 s59 v29
theorem s30 : S30 := C30 s22 v30
theorem s34 : S34 := C34 v34
theorem s31 : S31 := C31 s34 v31
theorem s50 : S50 := C50 v50
theorem s33 : S33 := C33 s22 s50 s60 v33
theorem s35 : S35 := C35 v35
theorem s79 : S79 := C79 v79
theorem s62 : S62 := C62 s79 v62
theorem s36 : S36 := C36 s62 v36
theorem s26 : S26 := C26 s27 s29 s31 s32 s34 s35 (fun _ => v26)
theorem own : ownKnob Try.prog.godebug = none := by kernel_rfl
theorem laidOut : laidOutB Try.prog = true := by kernel_rfl
end Go.Proofs.Ytlpcjbjlgeaapaa
