/- The walks chained: what the law returns, in terms of the specification. No condition. -/
import Derived.WalkKit
import Derived.ProofKit
import Derived.OpenShut
import Derived.ShutString
import Derived.ChangeOld
import Derived.Below
import Derived.Test.YtancoeikfkebfaaDoorRows
import Derived.Test.YtancoeikfkebfaaDoorMWalksAa
import Derived.Test.YtancoeikfkebfaaDoorMWalksAb
import Derived.Test.YtancoeikfkebfaaDoorMWalksL3
import Derived.Test.YtancoeikfkebfaaDoorMWalksL3x4
import Derived.Test.YtancoeikfkebfaaDoorMV17
import Derived.Test.YtancoeikfkebfaaDoorOp
import Derived.Test.YtancoeikfkebfaaDoorMXS
set_option linter.all false
namespace Go.Proofs.YtancoeikfkebfaaDoor
open Go Go.Sv Go.Op Go.ChangeShapes Go.WideShapes Go.ChangeAt Go.RowKit
def vToken_Token (x : Token_Token) : Prop := inR .i64 x.Line ∧ inR .i64 x.At ∧ x.Text.length ≤ 140737488355328
theorem oToken_Token : Opens Tryd.prog tToken_Token vToken_Token 44 := by
  intro H enc w base spare held fuel cs d ps h hw
  obtain ⟨hl, hf⟩ := o_fields Tryd.underlying44 h hw
  have hl : cs.length = 3 := hl.trans (by kernel_rfl)
  obtain ⟨c0, c1, c2, rfl⟩ := len3 hl
  clear hf
  obtain ⟨_, _, _, g0, w0⟩ := o_field Tryd.underlying44 h hw 0 (off := 0) (ft := 3) (k := 1) rfl rfl rfl (by kernel_rfl)
  obtain ⟨y0, r0, u0⟩ := (o_int (bytes := 8) Tryd.underlying3) _ _ _ _ _ _ _ _ _ g0 w0
  have r0 : tI.R w z0 [c0] y0 := r0
  cases r0
  obtain ⟨_, _, _, g1, w1⟩ := o_field Tryd.underlying44 h hw 1 (off := 1) (ft := 3) (k := 1) rfl rfl rfl (by kernel_rfl)
  obtain ⟨y1, r1, u1⟩ := (o_int (bytes := 8) Tryd.underlying3) _ _ _ _ _ _ _ _ _ g1 w1
  have r1 : tI.R w z0 [c1] y1 := r1
  cases r1
  obtain ⟨_, _, _, g2, w2⟩ := o_field Tryd.underlying44 h hw 2 (off := 2) (ft := 9) (k := 1) rfl rfl rfl (by kernel_rfl)
  obtain ⟨y2, r2, u2⟩ := (o_str Tryd.underlying9) _ _ _ _ _ _ _ _ _ g2 w2
  have r2 : tStr.R w z0 [c2] y2 := r2
  cases r2
  exact ⟨⟨y0, y1, y2⟩, rfl, u0, u1, u2⟩
def vRef05_Token (x : Ref05_Token) : Prop := inR .i64 x.Line ∧ inR .i64 x.At ∧ x.Text.length ≤ 140737488355328
theorem oRef05_Token : Opens Tryd.prog tRef05_Token vRef05_Token 64 := by
  intro H enc w base spare held fuel cs d ps h hw
  obtain ⟨hl, hf⟩ := o_fields Tryd.underlying64 h hw
  have hl : cs.length = 3 := hl.trans (by kernel_rfl)
  obtain ⟨c0, c1, c2, rfl⟩ := len3 hl
  clear hf
  obtain ⟨_, _, _, g0, w0⟩ := o_field Tryd.underlying64 h hw 0 (off := 0) (ft := 3) (k := 1) rfl rfl rfl (by kernel_rfl)
  obtain ⟨y0, r0, u0⟩ := (o_int (bytes := 8) Tryd.underlying3) _ _ _ _ _ _ _ _ _ g0 w0
  have r0 : tI.R w z0 [c0] y0 := r0
  cases r0
  obtain ⟨_, _, _, g1, w1⟩ := o_field Tryd.underlying64 h hw 1 (off := 1) (ft := 3) (k := 1) rfl rfl rfl (by kernel_rfl)
  obtain ⟨y1, r1, u1⟩ := (o_int (bytes := 8) Tryd.underlying3) _ _ _ _ _ _ _ _ _ g1 w1
  have r1 : tI.R w z0 [c1] y1 := r1
  cases r1
  obtain ⟨_, _, _, g2, w2⟩ := o_field Tryd.underlying64 h hw 2 (off := 2) (ft := 9) (k := 1) rfl rfl rfl (by kernel_rfl)
  obtain ⟨y2, r2, u2⟩ := (o_str Tryd.underlying9) _ _ _ _ _ _ _ _ _ g2 w2
  have r2 : tStr.R w z0 [c2] y2 := r2
  cases r2
  exact ⟨⟨y0, y1, y2⟩, rfl, u0, u1, u2⟩
def vApi_Formula (x : Api_Formula) : Prop := inR .i64 x.Vars ∧ (∀ x9 ∈ x.Clauses, ∀ x9y ∈ x9, inR .i64 x9y)
theorem oApi_Formula : Opens Tryd.prog tApi_Formula vApi_Formula 25 := by
  intro H enc w base spare held fuel cs d ps h hw
  obtain ⟨hl, hf⟩ := o_fields Tryd.underlying25 h hw
  have hl : cs.length = 2 := hl.trans (by kernel_rfl)
  obtain ⟨c0, c1, rfl⟩ := len2 hl
  clear hf
  obtain ⟨_, _, _, g0, w0⟩ := o_field Tryd.underlying25 h hw 0 (off := 0) (ft := 3) (k := 1) rfl rfl rfl (by kernel_rfl)
  obtain ⟨y0, r0, u0⟩ := (o_int (bytes := 8) Tryd.underlying3) _ _ _ _ _ _ _ _ _ g0 w0
  have r0 : tI.R w z0 [c0] y0 := r0
  cases r0
  obtain ⟨_, _, _, g1, w1⟩ := o_field Tryd.underlying25 h hw 1 (off := 1) (ft := 23) (k := 1) rfl rfl rfl (by kernel_rfl)
  obtain ⟨y1, r1, u1⟩ := (o_slice Tryd.underlying23 (by kernel_rfl) (by kernel_rfl) (o_slice Tryd.underlying49 (by kernel_rfl) (by kernel_rfl) (o_int (bytes := 8) Tryd.underlying3))) _ _ _ _ _ _ _ _ _ g1 w1
  have r1 : (tSlice (tSlice tI)).R w z0 [c1] y1 := r1
  obtain ⟨a1, k1, e1, q1⟩ := r1
  cases e1
  exact ⟨⟨y0, y1⟩, ⟨a1, k1, rfl, q1⟩, u0, u1⟩
def vDimacs_fault (x : Dimacs_fault) : Prop := inR .i64 x.at_ ∧ inR .i64 x.e
theorem oDimacs_fault : Opens Tryd.prog tDimacs_fault vDimacs_fault 56 := by
  intro H enc w base spare held fuel cs d ps h hw
  obtain ⟨hl, hf⟩ := o_fields Tryd.underlying56 h hw
  have hl : cs.length = 2 := hl.trans (by kernel_rfl)
  obtain ⟨c0, c1, rfl⟩ := len2 hl
  clear hf
  obtain ⟨_, _, _, g0, w0⟩ := o_field Tryd.underlying56 h hw 0 (off := 0) (ft := 3) (k := 1) rfl rfl rfl (by kernel_rfl)
  obtain ⟨y0, r0, u0⟩ := (o_int (bytes := 8) Tryd.underlying3) _ _ _ _ _ _ _ _ _ g0 w0
  have r0 : tI.R w z0 [c0] y0 := r0
  cases r0
  obtain ⟨_, _, _, g1, w1⟩ := o_field Tryd.underlying56 h hw 1 (off := 1) (ft := 26) (k := 1) rfl rfl rfl (by kernel_rfl)
  obtain ⟨y1, r1, u1⟩ := (o_int (bytes := 8) Tryd.underlying26) _ _ _ _ _ _ _ _ _ g1 w1
  have r1 : tI.R w z0 [c1] y1 := r1
  cases r1
  exact ⟨⟨y0, y1⟩, rfl, u0, u1⟩
def vDimacs_reader (x : Dimacs_reader) : Prop := vDimacs_fault x.fault ∧ (∀ x6 ∈ x.rest, vToken_Token x6) ∧ inR .i64 x.end_
theorem oDimacs_reader : Opens Tryd.prog tDimacs_reader vDimacs_reader 58 := by
  intro H enc w base spare held fuel cs d ps h hw
  obtain ⟨hl, hf⟩ := o_fields Tryd.underlying58 h hw
  have hl : cs.length = 4 := hl.trans (by kernel_rfl)
  obtain ⟨c0, c1, c2, c3, rfl⟩ := len4 hl
  clear hf
  obtain ⟨_, _, _, g0, w0⟩ := o_field Tryd.underlying58 h hw 0 (off := 0) (ft := 56) (k := 2) rfl rfl rfl (by kernel_rfl)
  obtain ⟨y0, r0, u0⟩ := oDimacs_fault _ _ _ _ _ _ _ _ _ g0 w0
  have r0 : tDimacs_fault.R w z0 [c0, c1] y0 := r0
  cases r0
  obtain ⟨_, _, _, g1, w1⟩ := o_field Tryd.underlying58 h hw 1 (off := 2) (ft := 42) (k := 1) rfl rfl rfl (by kernel_rfl)
  obtain ⟨y1, r1, u1⟩ := (o_slice Tryd.underlying42 (by kernel_rfl) (by kernel_rfl) oToken_Token) _ _ _ _ _ _ _ _ _ g1 w1
  have r1 : (tSlice tToken_Token).R w z0 [c2] y1 := r1
  obtain ⟨a1, k1, e1, q1⟩ := r1
  cases e1
  obtain ⟨_, _, _, g2, w2⟩ := o_field Tryd.underlying58 h hw 2 (off := 3) (ft := 3) (k := 1) rfl rfl rfl (by kernel_rfl)
  obtain ⟨y2, r2, u2⟩ := (o_int (bytes := 8) Tryd.underlying3) _ _ _ _ _ _ _ _ _ g2 w2
  have r2 : tI.R w z0 [c3] y2 := r2
  cases r2
  exact ⟨⟨y0, y1, y2⟩, ⟨a1, k1, rfl, q1⟩, u0, u1, u2⟩
theorem s49 : S49 := x49
theorem s61 : S61 := x61
theorem s44 : S44 := x44
theorem s56 : S56 := C56 v56
theorem s62 : S62 := C62 v62
theorem s48 : S48 := C48 s62 v48
theorem s77 : S77 := C77 s62 v77
theorem s67 : S67 := C67 s77 v67
theorem s47 : S47 := C47 s61 v47
theorem s31 : S31 := C31 s47 v31
theorem s32 : S32 := C32 s48 s49 v32
theorem s16 : S16 := C16 s31 s32 v16
theorem s42 : S42 := C42 s56 v42
theorem s55 : S55 := C55 s67 v55
theorem s40 : S40 := C40 s55 v40
theorem s30 : S30 := C30 v30
theorem s28 : S28 := C28 s44 v28
theorem s25 : S25 := C25 s30 v25
theorem s64 : S64 := C64 v64
theorem s76 : S76 := C76 s64 v76
theorem s65 : S65 := C65 s76 v65
theorem s50 : S50 := C50 s64 v50
theorem s26 : S26 := C26 v26
theorem s43 : S43 := C43 v43
theorem s51 : S51 := C51 s65 v51
theorem s53 : S53 := C53 v53
theorem s66_53 : S66_53 := C66_53 s53 v66_53
theorem s52_53 : S52_53 := C52_53 s66_53 v52_53
theorem s34 : S34 := C34 s51 s52_53 v34
theorem s33 : S33 := C33 s50 s51 v33
theorem s17 : S17 := C17 s33 s34 v17
theorem s27 : S27 := C27 s43 v27
theorem s10 : S10 := C10 s27 v10
theorem s23 : S23 := C23 v23
theorem s39 : S39 := C39 v39
theorem s20 : S20 := C20 s23 s39 v20
theorem s21 : S21 := C21 s23 s39 s40 v21
theorem s41 : S41 := C41 s23 v41
theorem s22 : S22 := C22 s21 s41 v22
theorem s54 : S54 := C54 v54
theorem s38 : S38 := C38 s54 v38
theorem s19 : S19 := C19 s16 s38 v19
theorem s8 : S8 := C8 s19 s20 s21 s22 s23 v8
theorem s24 : S24 := C24 s42 v24
theorem s9 : S9 := C9 s24 s25 s26 v9
theorem s14 : S14 := C14 s28 v14
theorem s12 : S12 := C12 s14 s17 s28 v12
theorem s7 : S7 := C7 s10 s12 s14 s8 (fun _ => v7)
theorem own : ownKnob Tryd.prog.godebug = none := by kernel_rfl
theorem laidOut : laidOutB Tryd.prog = true := by kernel_rfl
end Go.Proofs.YtancoeikfkebfaaDoor
