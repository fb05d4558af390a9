/- The walks chained: what the law returns, in terms of the specification. No condition. -/
import Derived.WalkKit
import Derived.ProofKit
import Derived.OpenShut
import Derived.ShutString
import Derived.ChangeOld
import Derived.Below
import Derived.Test.YtlpcjbjlgeaapaaRows
import Derived.Test.YtlpcjbjlgeaapaaTWalksB
import Derived.Test.YtlpcjbjlgeaapaaTV9
import Derived.Test.YtlpcjbjlgeaapaaOp
set_option linter.all false
namespace Go.Proofs.Ytlpcjbjlgeaapaa
open Go Go.Sv Go.Op Go.ChangeShapes Go.WideShapes Go.ChangeAt Go.RowKit
def vNumbering_Size (x : Numbering_Size) : Prop := inR .i64 x.Ops ∧ inR .i64 x.States
theorem oNumbering_Size : Opens Try.prog tNumbering_Size vNumbering_Size 23 := by
  intro H enc w base spare held fuel cs d ps h hw
  obtain ⟨hl, hf⟩ := o_fields Try.underlying23 h hw
  have hl : cs.length = 2 := hl.trans (by kernel_rfl)
  obtain ⟨c0, c1, rfl⟩ := len2 hl
  clear hf
  obtain ⟨_, _, _, g0, w0⟩ := o_field Try.underlying23 h hw 0 (off := 0) (ft := 3) (k := 1) rfl rfl rfl (by kernel_rfl)
  obtain ⟨y0, r0, u0⟩ := (o_int (bytes := 8) Try.underlying3) _ _ _ _ _ _ _ _ _ g0 w0
  have r0 : tI.R w z0 [c0] y0 := r0
  cases r0
  obtain ⟨_, _, _, g1, w1⟩ := o_field Try.underlying23 h hw 1 (off := 1) (ft := 3) (k := 1) rfl rfl rfl (by kernel_rfl)
  obtain ⟨y1, r1, u1⟩ := (o_int (bytes := 8) Try.underlying3) _ _ _ _ _ _ _ _ _ g1 w1
  have r1 : tI.R w z0 [c1] y1 := r1
  cases r1
  exact ⟨⟨y0, y1⟩, rfl, u0, u1⟩
def vNumbering_Name (x : Numbering_Name) : Prop := inR .i64 x.Kind ∧ inR .i64 x.A ∧ inR .i64 x.B
theorem oNumbering_Name : Opens Try.prog tNumbering_Name vNumbering_Name 25 := by
  intro H enc w base spare held fuel cs d ps h hw
  obtain ⟨hl, hf⟩ := o_fields Try.underlying25 h hw
  have hl : cs.length = 3 := hl.trans (by kernel_rfl)
  obtain ⟨c0, c1, c2, rfl⟩ := len3 hl
  clear hf
  obtain ⟨_, _, _, g0, w0⟩ := o_field Try.underlying25 h hw 0 (off := 0) (ft := 3) (k := 1) rfl rfl rfl (by kernel_rfl)
  obtain ⟨y0, r0, u0⟩ := (o_int (bytes := 8) Try.underlying3) _ _ _ _ _ _ _ _ _ g0 w0
  have r0 : tI.R w z0 [c0] y0 := r0
  cases r0
  obtain ⟨_, _, _, g1, w1⟩ := o_field Try.underlying25 h hw 1 (off := 1) (ft := 3) (k := 1) rfl rfl rfl (by kernel_rfl)
  obtain ⟨y1, r1, u1⟩ := (o_int (bytes := 8) Try.underlying3) _ _ _ _ _ _ _ _ _ g1 w1
  have r1 : tI.R w z0 [c1] y1 := r1
  cases r1
  obtain ⟨_, _, _, g2, w2⟩ := o_field Try.underlying25 h hw 2 (off := 2) (ft := 3) (k := 1) rfl rfl rfl (by kernel_rfl)
  obtain ⟨y2, r2, u2⟩ := (o_int (bytes := 8) Try.underlying3) _ _ _ _ _ _ _ _ _ g2 w2
  have r2 : tI.R w z0 [c2] y2 := r2
  cases r2
  exact ⟨⟨y0, y1, y2⟩, rfl, u0, u1, u2⟩
def vRef31_Name (x : Ref31_Name) : Prop := inR .i64 x.Kind ∧ inR .i64 x.A ∧ inR .i64 x.B
theorem oRef31_Name : Opens Try.prog tRef31_Name vRef31_Name 32 := by
  intro H enc w base spare held fuel cs d ps h hw
  obtain ⟨hl, hf⟩ := o_fields Try.underlying32 h hw
  have hl : cs.length = 3 := hl.trans (by kernel_rfl)
  obtain ⟨c0, c1, c2, rfl⟩ := len3 hl
  clear hf
  obtain ⟨_, _, _, g0, w0⟩ := o_field Try.underlying32 h hw 0 (off := 0) (ft := 3) (k := 1) rfl rfl rfl (by kernel_rfl)
  obtain ⟨y0, r0, u0⟩ := (o_int (bytes := 8) Try.underlying3) _ _ _ _ _ _ _ _ _ g0 w0
  have r0 : tI.R w z0 [c0] y0 := r0
  cases r0
  obtain ⟨_, _, _, g1, w1⟩ := o_field Try.underlying32 h hw 1 (off := 1) (ft := 3) (k := 1) rfl rfl rfl (by kernel_rfl)
  obtain ⟨y1, r1, u1⟩ := (o_int (bytes := 8) Try.underlying3) _ _ _ _ _ _ _ _ _ g1 w1
  have r1 : tI.R w z0 [c1] y1 := r1
  cases r1
  obtain ⟨_, _, _, g2, w2⟩ := o_field Try.underlying32 h hw 2 (off := 2) (ft := 3) (k := 1) rfl rfl rfl (by kernel_rfl)
  obtain ⟨y2, r2, u2⟩ := (o_int (bytes := 8) Try.underlying3) _ _ _ _ _ _ _ _ _ g2 w2
  have r2 : tI.R w z0 [c2] y2 := r2
  cases r2
  exact ⟨⟨y0, y1, y2⟩, rfl, u0, u1, u2⟩
def vApi_Formula (x : Api_Formula) : Prop := inR .i64 x.Vars ∧ (∀ x9 ∈ x.Clauses, ∀ x9y ∈ x9, inR .i64 x9y)
theorem oApi_Formula : Opens Try.prog tApi_Formula vApi_Formula 58 := by
  intro H enc w base spare held fuel cs d ps h hw
  obtain ⟨hl, hf⟩ := o_fields Try.underlying58 h hw
  have hl : cs.length = 2 := hl.trans (by kernel_rfl)
  obtain ⟨c0, c1, rfl⟩ := len2 hl
  clear hf
  obtain ⟨_, _, _, g0, w0⟩ := o_field Try.underlying58 h hw 0 (off := 0) (ft := 3) (k := 1) rfl rfl rfl (by kernel_rfl)
  obtain ⟨y0, r0, u0⟩ := (o_int (bytes := 8) Try.underlying3) _ _ _ _ _ _ _ _ _ g0 w0
  have r0 : tI.R w z0 [c0] y0 := r0
  cases r0
  obtain ⟨_, _, _, g1, w1⟩ := o_field Try.underlying58 h hw 1 (off := 1) (ft := 50) (k := 1) rfl rfl rfl (by kernel_rfl)
  obtain ⟨y1, r1, u1⟩ := (o_slice Try.underlying50 (by kernel_rfl) (by kernel_rfl) (o_slice Try.underlying42 (by kernel_rfl) (by kernel_rfl) (o_int (bytes := 8) Try.underlying3))) _ _ _ _ _ _ _ _ _ g1 w1
  have r1 : (tSlice (tSlice tI)).R w z0 [c1] y1 := r1
  obtain ⟨a1, k1, e1, q1⟩ := r1
  cases e1
  exact ⟨⟨y0, y1⟩, ⟨a1, k1, rfl, q1⟩, u0, u1⟩
theorem s21 : S21 := C21 v21
theorem s22 : S22 := C22 v22
theorem s56 : S56 := C56 v56
theorem s23 : S23 := C23 s21 s56 v23
theorem s24 : S24 := C24 s21 s56 v24
theorem s64 : S64 := C64 v64
theorem s68 : S68 := C68 s64 v68
theorem s67 : S67 := C67 v67
theorem s66 : S66 := C66 s67 s68 v66
theorem s80_66 : S80_66 := C80_66 s66 v80_66
theorem s69_66 : S69_66 := C69_66 s80_66 v69_66
theorem s65 : S65 := C65 s68 s69_66 v65
theorem s40 : S40 := C40 s65 v40
theorem s44 : S44 := C44 v44
theorem s41 : S41 := C41 s44 v41
theorem s63 : S63 := C63 s64 v63
theorem s38 : S38 := C38 s63 v38
theorem s39 : S39 := C39 s44 v39
theorem s70 : S70 := C70 s24 v70
theorem s42 : S42 := C42 s21 s67 s70 v42
theorem s71 : S71 := C71 v71
theorem s43 : S43 := C43 s22 s71 v43
theorem s34 : S34 := C34 v34
theorem s79 : S79 := C79 v79
theorem s62 : S62 := C62 s79 v62
theorem s36 : S36 := C36 s62 v36
theorem s31 : S31 := C31 s34 v31
theorem s37 : S37 := C37 s31 s34 s38 s40 s42 (fun _ => v37)
theorem s45 : S45 := C45 s21 s23 s24 s68 v45
theorem own : ownKnob Try.prog.godebug = none := by kernel_rfl
theorem laidOut : laidOutB Try.prog = true := by kernel_rfl
end Go.Proofs.Ytlpcjbjlgeaapaa
