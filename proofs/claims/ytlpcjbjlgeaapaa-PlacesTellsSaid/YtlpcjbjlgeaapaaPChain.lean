/- The walks chained: what the law returns, in terms of the specification. No condition. -/
import Derived.WalkKit
import Derived.ProofKit
import Derived.OpenShut
import Derived.ShutString
import Derived.ChangeOld
import Derived.Below
import Derived.Test.YtlpcjbjlgeaapaaRows
import Derived.Test.YtlpcjbjlgeaapaaPWalksB
import Derived.Test.YtlpcjbjlgeaapaaPV9
import Derived.Test.YtlpcjbjlgeaapaaOp
set_option linter.all false
namespace Go.Proofs.Ytlpcjbjlgeaapaa
open Go Go.Sv Go.Op Go.ChangeShapes Go.WideShapes Go.ChangeAt Go.RowKit
def vNumbering_Size (x : Numbering_Size) : Prop := inR .i64 x.Ops ∧ inR .i64 x.States
theorem oNumbering_Size : Opens Try.prog tNumbering_Size vNumbering_Size 23 := by
  intro H enc w base spare held fuel cs d ps h hw
  obtain ⟨hl, hf⟩ := o_fields Try.underlying23 h hw
  have hl : cs.length = 2 := hl.trans (by kernel_rfl)
  obtain ⟨c0, c1, rfl⟩ := len2 hl
  clear hf
  obtain ⟨_, _, _, g0, w0⟩ := o_field Try.underlying23 h hw 0 (off := 0) (ft := 3) (k := 1) rfl rfl rfl (by kernel_rfl)
  obtain ⟨y0, r0, u0⟩ := (o_int (bytes := 8) Try.underlying3) _ _ _ _ _ _ _ _ _ g0 w0
  have r0 : tI.R w z0 [c0] y0 := r0
  cases r0
  obtain ⟨_, _, _, g1, w1⟩ := o_field Try.underlying23 h hw 1 (off := 1) (ft := 3) (k := 1) rfl rfl rfl (by kernel_rfl)
  obtain ⟨y1, r1, u1⟩ := (o_int (bytes := 8) Try.underlying3) _ _ _ _ _ _ _ _ _ g1 w1
  have r1 : tI.R w z0 [c1] y1 := r1
  cases r1
  exact ⟨⟨y0, y1⟩, rfl, u0, u1⟩
def vNumbering_Name (x : Numbering_Name) : Prop := inR .i64 x.Kind ∧ inR .i64 x.A ∧ inR .i64 x.B
theorem oNumbering_Name : Opens Try.prog tNumbering_Name vNumbering_Name 25 := by
  intro H enc w base spare held fuel cs d ps h hw
  obtain ⟨hl, hf⟩ := o_fields Try.underlying25 h hw
  have hl : cs.length = 3 := hl.trans (by kernel_rfl)
  obtain ⟨c0, c1, c2, rfl⟩ := len3 hl
  clear hf
  obtain ⟨_, _, _, g0, w0⟩ := o_field Try.underlying25 h hw 0 (off := 0) (ft := 3) (k := 1) rfl rfl rfl (by kernel_rfl)
  obtain ⟨y0, r0, u0⟩ := (o_int (bytes := 8) Try.underlying3) _ _ _ _ _ _ _ _ _ g0 w0
  have r0 : tI.R w z0 [c0] y0 := r0
  cases r0
  obtain ⟨_, _, _, g1, w1⟩ := o_field Try.underlying25 h hw 1 (off := 1) (ft := 3) (k := 1) rfl rfl rfl (by kernel_rfl)
  obtain ⟨y1, r1, u1⟩ := (o_int (bytes := 8) Try.underlying3) _ _ _ _ _ _ _ _ _ g1 w1
  have r1 : tI.R w z0 [c1] y1 := r1
  cases r1
  obtain ⟨_, _, _, g2, w2⟩ := o_field Try.underlying25 h hw 2 (off := 2) (ft := 3) (k := 1) rfl rfl rfl (by kernel_rfl)
  obtain ⟨y2, r2, u2⟩ := (o_int (bytes := 8) Try.underlying3) _ _ _ _ _ _ _ _ _ g2 w2
  have r2 : tI.R w z0 [c2] y2 := r2
  cases r2
  exact ⟨⟨y0, y1, y2⟩, rfl, u0, u1, u2⟩
def vRef31_Name (x : Ref31_Name) : Prop := inR .i64 x.Kind ∧ inR .i64 x.A ∧ inR .i64 x.B
theorem oRef31_Name : Opens Try.prog tRef31_Name vRef31_Name 32 := by
  intro H enc w base spare held fuel cs d ps h hw
  obtain ⟨hl, hf⟩ := o_fields Try.underlying32 h hw
  have hl : cs.length = 3 := hl.trans (by kernel_rfl)
  obtain ⟨c0, c1, c2, rfl⟩ := len3 hl
  clear hf
  obtain ⟨_, _, _, g0, w0⟩ := o_field Try.underlying32 h hw 0 (off := 0) (ft := 3) (k := 1) rfl rfl rfl (by kernel_rfl)
  obtain ⟨y0, r0, u0⟩ := (o_int (bytes := 8) Try.underlying3) _ _ _ _ _ _ _ _ _ g0 w0
  have r0 : tI.R w z0 [c0] y0 := r0
  cases r0
  obtain ⟨_, _, _, g1, w1⟩ := o_field Try.underlying32 h hw 1 (off := 1) (ft := 3) (k := 1) rfl rfl rfl (by kernel_rfl)
  obtain ⟨y1, r1, u1⟩ := (o_int (bytes := 8) Try.underlying3) _ _ _ _ _ _ _ _ _ g1 w1
  have r1 : tI.R w z0 [c1] y1 := r1
  cases r1
  obtain ⟨_, _, _, g2, w2⟩ := o_field Try.underlying32 h hw 2 (off := 2) (ft := 3) (k := 1) rfl rfl rfl (by kernel_rfl)
  obtain ⟨y2, r2, u2⟩ := (o_int (bytes := 8) Try.underlying3) _ _ _ _ _ _ _ _ _ g2 w2
  have r2 : tI.R w z0 [c2] y2 := r2
  cases r2
  exact ⟨⟨y0, y1, y2⟩, rfl, u0, u1, u2⟩
def vApi_Formula (x : Api_Formula) : Prop := inR .i64 x.Vars ∧ (∀ x9 ∈ x.Clauses, ∀ x9y ∈ x9, inR .i64 x9y)
theorem oApi_Formula : Opens Try.prog tApi_Formula vApi_Formula 58 := by
  intro H enc w base spare held fuel cs d ps h hw
  obtain ⟨hl, hf⟩ := o_fields Try.underlying58 h hw
  have hl : cs.length = 2 := hl.trans (by kernel_rfl)
  obtain ⟨c0, c1, rfl⟩ := len2 hl
  clear hf
  obtain ⟨_, _, _, g0, w0⟩ := o_field Try.underlying58 h hw 0 (off := 0) (ft := 3) (k := 1) rfl rfl rfl (by kernel_rfl)
  obtain ⟨y0, r0, u0⟩ := (o_int (bytes := 8) Try.underlying3) _ _ _ _ _ _ _ _ _ g0 w0
  have r0 : tI.R w z0 [c0] y0 := r0
  cases r0
  obtain ⟨_, _, _, g1, w1⟩ := o_field Try.underlying58 h hw 1 (off := 1) (ft := 50) (k := 1) rfl rfl rfl (by kernel_rfl)
  obtain ⟨y1, r1, u1⟩ := (o_slice Try.underlying50 (by kernel_rfl) (by kernel_rfl) (o_slice Try.underlying42 (by kernel_rfl) (by kernel_rfl) (o_int (bytes := 8) Try.underlying3))) _ _ _ _ _ _ _ _ _ g1 w1
  have r1 : (tSlice (tSlice tI)).R w z0 [c1] y1 := r1
  obtain ⟨a1, k1, e1, q1⟩ := r1
  cases e1
  exact ⟨⟨y0, y1⟩, ⟨a1, k1, rfl, q1⟩, u0, u1⟩
theorem s21 : S21 := C21 v21
theorem s22 : S22 := C22 v22
theorem s56 : S56 := C56 v56
theorem s23 : S23 := C23 s21 s56 v23
theorem s24 : S24 := C24 s21 s56 v24
theorem s64 : S64 := C64 v64
theorem s68 : S68 := C68 s64 v68
theorem s71 : S71 := C71 v71
theorem s34 : S34 := C34 v34
theorem s35 : S35 := C35 v35
theorem s31 : S31 := C31 s34 v31
theorem s79 : S79 := C79 v79
theorem s62 : S62 := C62 s79 v62
theorem s36 : S36 := C36 s62 v36
theorem s84 : S84 := C84 v84
theorem s81 : S81 := C81 s84 v81
theorem s76 : S76 := C76 s81 v76
theorem s45 : S45 := C45 s21 s23 s24 s68 v45
theorem s53 : S53 := C53 s22 v53
theorem s51 : S51 := C51 s21 s23 s24 s76 v51
theorem s52 : S52 := C52 s22 s71 v52
theorem s49 : S49 := C49 v49
theorem s50 : S50 := C50 v50
theorem s74 : S74 := C74 v74
theorem s75 : S75 := C75 v75
theorem s73_74 : S73_74 := C73_74 s24 s74 v73_74
theorem s73_75 : S73_75 := C73_75 s24 s75 v73_75
theorem s47 : S47 := C47 s21 s49 s73_74 s73_75 v47
theorem s48 : S48 := C48 s22 s50 s71 v48
theorem s72 : S72 := C72 (fun _ => v72)
theorem s46 : S46 := C46 s31 s34 s45 s47 s49 s51 s72 (fun _ => v46)
theorem own : ownKnob Try.prog.godebug = none := by kernel_rfl
theorem laidOut : laidOutB Try.prog = true := by kernel_rfl
end Go.Proofs.Ytlpcjbjlgeaapaa
