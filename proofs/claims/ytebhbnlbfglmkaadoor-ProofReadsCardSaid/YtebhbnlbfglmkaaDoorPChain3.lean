/- The walks chained: what the law returns, in terms of the specification. No condition. -/
import Derived.WalkKit
import Derived.ProofKit
import Derived.OpenShut
import Derived.ShutString
import Derived.ChangeOld
import Derived.Below
import Derived.Test.YtebhbnlbfglmkaaDoorRows
import Derived.Test.YtebhbnlbfglmkaaDoorPWalksAa
import Derived.Test.YtebhbnlbfglmkaaDoorPWalksAb
import Derived.Test.YtebhbnlbfglmkaaDoorPWalksAc
import Derived.Test.YtebhbnlbfglmkaaDoorPWalksL3a
import Derived.Test.YtebhbnlbfglmkaaDoorPWalksL3b
import Derived.Test.YtebhbnlbfglmkaaDoorPWalksL3x4
import Derived.Test.YtebhbnlbfglmkaaDoorPWalksL3x4x5
import Derived.Test.YtebhbnlbfglmkaaDoorPV18
import Derived.Test.YtebhbnlbfglmkaaDoorOp
import Derived.Test.YtebhbnlbfglmkaaDoorPXS
set_option linter.all false
namespace Go.Proofs.YtebhbnlbfglmkaaDoor
open Go Go.Sv Go.Op Go.ChangeShapes Go.WideShapes Go.ChangeAt Go.RowKit
def vToken_Token (x : Token_Token) : Prop := inR .i64 x.Line ∧ inR .i64 x.At ∧ x.Text.length ≤ 140737488355328
theorem oToken_Token : Opens Tryd.prog tToken_Token vToken_Token 55 := by
  intro H enc w base spare held fuel cs d ps h hw
  obtain ⟨hl, hf⟩ := o_fields Tryd.underlying55 h hw
  have hl : cs.length = 3 := hl.trans (by kernel_rfl)
  obtain ⟨c0, c1, c2, rfl⟩ := len3 hl
  clear hf
  obtain ⟨_, _, _, g0, w0⟩ := o_field Tryd.underlying55 h hw 0 (off := 0) (ft := 3) (k := 1) rfl rfl rfl (by kernel_rfl)
  obtain ⟨y0, r0, u0⟩ := (o_int (bytes := 8) Tryd.underlying3) _ _ _ _ _ _ _ _ _ g0 w0
  have r0 : tI.R w z0 [c0] y0 := r0
  cases r0
  obtain ⟨_, _, _, g1, w1⟩ := o_field Tryd.underlying55 h hw 1 (off := 1) (ft := 3) (k := 1) rfl rfl rfl (by kernel_rfl)
  obtain ⟨y1, r1, u1⟩ := (o_int (bytes := 8) Tryd.underlying3) _ _ _ _ _ _ _ _ _ g1 w1
  have r1 : tI.R w z0 [c1] y1 := r1
  cases r1
  obtain ⟨_, _, _, g2, w2⟩ := o_field Tryd.underlying55 h hw 2 (off := 2) (ft := 9) (k := 1) rfl rfl rfl (by kernel_rfl)
  obtain ⟨y2, r2, u2⟩ := (o_str Tryd.underlying9) _ _ _ _ _ _ _ _ _ g2 w2
  have r2 : tStr.R w z0 [c2] y2 := r2
  cases r2
  exact ⟨⟨y0, y1, y2⟩, rfl, u0, u1, u2⟩
def vRef05_Token (x : Ref05_Token) : Prop := inR .i64 x.Line ∧ inR .i64 x.At ∧ x.Text.length ≤ 140737488355328
theorem oRef05_Token : Opens Tryd.prog tRef05_Token vRef05_Token 63 := by
  intro H enc w base spare held fuel cs d ps h hw
  obtain ⟨hl, hf⟩ := o_fields Tryd.underlying63 h hw
  have hl : cs.length = 3 := hl.trans (by kernel_rfl)
  obtain ⟨c0, c1, c2, rfl⟩ := len3 hl
  clear hf
  obtain ⟨_, _, _, g0, w0⟩ := o_field Tryd.underlying63 h hw 0 (off := 0) (ft := 3) (k := 1) rfl rfl rfl (by kernel_rfl)
  obtain ⟨y0, r0, u0⟩ := (o_int (bytes := 8) Tryd.underlying3) _ _ _ _ _ _ _ _ _ g0 w0
  have r0 : tI.R w z0 [c0] y0 := r0
  cases r0
  obtain ⟨_, _, _, g1, w1⟩ := o_field Tryd.underlying63 h hw 1 (off := 1) (ft := 3) (k := 1) rfl rfl rfl (by kernel_rfl)
  obtain ⟨y1, r1, u1⟩ := (o_int (bytes := 8) Tryd.underlying3) _ _ _ _ _ _ _ _ _ g1 w1
  have r1 : tI.R w z0 [c1] y1 := r1
  cases r1
  obtain ⟨_, _, _, g2, w2⟩ := o_field Tryd.underlying63 h hw 2 (off := 2) (ft := 9) (k := 1) rfl rfl rfl (by kernel_rfl)
  obtain ⟨y2, r2, u2⟩ := (o_str Tryd.underlying9) _ _ _ _ _ _ _ _ _ g2 w2
  have r2 : tStr.R w z0 [c2] y2 := r2
  cases r2
  exact ⟨⟨y0, y1, y2⟩, rfl, u0, u1, u2⟩
def vApi_Step (x : Api_Step) : Prop := inR .i64 x.Kind ∧ inR .i64 x.Id ∧ (∀ x6 ∈ x.Lits, inR .i64 x6) ∧ (∀ x7 ∈ x.Hints, inR .i64 x7)
theorem oApi_Step : Opens Tryd.prog tApi_Step vApi_Step 52 := by
  intro H enc w base spare held fuel cs d ps h hw
  obtain ⟨hl, hf⟩ := o_fields Tryd.underlying52 h hw
  have hl : cs.length = 4 := hl.trans (by kernel_rfl)
  obtain ⟨c0, c1, c2, c3, rfl⟩ := len4 hl
  clear hf
  obtain ⟨_, _, _, g0, w0⟩ := o_field Tryd.underlying52 h hw 0 (off := 0) (ft := 3) (k := 1) rfl rfl rfl (by kernel_rfl)
  obtain ⟨y0, r0, u0⟩ := (o_int (bytes := 8) Tryd.underlying3) _ _ _ _ _ _ _ _ _ g0 w0
  have r0 : tI.R w z0 [c0] y0 := r0
  cases r0
  obtain ⟨_, _, _, g1, w1⟩ := o_field Tryd.underlying52 h hw 1 (off := 1) (ft := 3) (k := 1) rfl rfl rfl (by kernel_rfl)
  obtain ⟨y1, r1, u1⟩ := (o_int (bytes := 8) Tryd.underlying3) _ _ _ _ _ _ _ _ _ g1 w1
  have r1 : tI.R w z0 [c1] y1 := r1
  cases r1
  obtain ⟨_, _, _, g2, w2⟩ := o_field Tryd.underlying52 h hw 2 (off := 2) (ft := 31) (k := 1) rfl rfl rfl (by kernel_rfl)
  obtain ⟨y2, r2, u2⟩ := (o_slice Tryd.underlying31 (by kernel_rfl) (by kernel_rfl) (o_int (bytes := 8) Tryd.underlying3)) _ _ _ _ _ _ _ _ _ g2 w2
  have r2 : (tSlice tI).R w z0 [c2] y2 := r2
  obtain ⟨a2, k2, e2, q2⟩ := r2
  cases e2
  obtain ⟨_, _, _, g3, w3⟩ := o_field Tryd.underlying52 h hw 3 (off := 3) (ft := 31) (k := 1) rfl rfl rfl (by kernel_rfl)
  obtain ⟨y3, r3, u3⟩ := (o_slice Tryd.underlying31 (by kernel_rfl) (by kernel_rfl) (o_int (bytes := 8) Tryd.underlying3)) _ _ _ _ _ _ _ _ _ g3 w3
  have r3 : (tSlice tI).R w z0 [c3] y3 := r3
  obtain ⟨a3, k3, e3, q3⟩ := r3
  cases e3
  exact ⟨⟨y0, y1, y2, y3⟩, ⟨a2, k2, a3, k3, rfl, q2, q3⟩, u0, u1, u2, u3⟩
def vProof_line (x : Proof_line) : Prop := (∀ x6 ∈ x.rest, vToken_Token x6) ∧ inR .i64 x.at_ ∧ inR .i64 x.e
theorem oProof_line : Opens Tryd.prog tProof_line vProof_line 58 := by
  intro H enc w base spare held fuel cs d ps h hw
  obtain ⟨hl, hf⟩ := o_fields Tryd.underlying58 h hw
  have hl : cs.length = 3 := hl.trans (by kernel_rfl)
  obtain ⟨c0, c1, c2, rfl⟩ := len3 hl
  clear hf
  obtain ⟨_, _, _, g0, w0⟩ := o_field Tryd.underlying58 h hw 0 (off := 0) (ft := 53) (k := 1) rfl rfl rfl (by kernel_rfl)
  obtain ⟨y0, r0, u0⟩ := (o_slice Tryd.underlying53 (by kernel_rfl) (by kernel_rfl) oToken_Token) _ _ _ _ _ _ _ _ _ g0 w0
  have r0 : (tSlice tToken_Token).R w z0 [c0] y0 := r0
  obtain ⟨a0, k0, e0, q0⟩ := r0
  cases e0
  obtain ⟨_, _, _, g1, w1⟩ := o_field Tryd.underlying58 h hw 1 (off := 1) (ft := 3) (k := 1) rfl rfl rfl (by kernel_rfl)
  obtain ⟨y1, r1, u1⟩ := (o_int (bytes := 8) Tryd.underlying3) _ _ _ _ _ _ _ _ _ g1 w1
  have r1 : tI.R w z0 [c1] y1 := r1
  cases r1
  obtain ⟨_, _, _, g2, w2⟩ := o_field Tryd.underlying58 h hw 2 (off := 2) (ft := 24) (k := 1) rfl rfl rfl (by kernel_rfl)
  obtain ⟨y2, r2, u2⟩ := (o_int (bytes := 8) Tryd.underlying24) _ _ _ _ _ _ _ _ _ g2 w2
  have r2 : tI.R w z0 [c2] y2 := r2
  cases r2
  exact ⟨⟨y0, y1, y2⟩, ⟨a0, k0, rfl, q0⟩, u0, u1, u2⟩
def vRef10_Row (x : Ref10_Row) : Prop := (∀ x3 ∈ x.L, inR .i64 x3) ∧ inR .i64 x.Taken ∧ inR .i64 x.At ∧ inR .i64 x.E
theorem oRef10_Row : Opens Tryd.prog tRef10_Row vRef10_Row 87 := by
  intro H enc w base spare held fuel cs d ps h hw
  obtain ⟨hl, hf⟩ := o_fields Tryd.underlying87 h hw
  have hl : cs.length = 4 := hl.trans (by kernel_rfl)
  obtain ⟨c0, c1, c2, c3, rfl⟩ := len4 hl
  clear hf
  obtain ⟨_, _, _, g0, w0⟩ := o_field Tryd.underlying87 h hw 0 (off := 0) (ft := 31) (k := 1) rfl rfl rfl (by kernel_rfl)
  obtain ⟨y0, r0, u0⟩ := (o_slice Tryd.underlying31 (by kernel_rfl) (by kernel_rfl) (o_int (bytes := 8) Tryd.underlying3)) _ _ _ _ _ _ _ _ _ g0 w0
  have r0 : (tSlice tI).R w z0 [c0] y0 := r0
  obtain ⟨a0, k0, e0, q0⟩ := r0
  cases e0
  obtain ⟨_, _, _, g1, w1⟩ := o_field Tryd.underlying87 h hw 1 (off := 1) (ft := 3) (k := 1) rfl rfl rfl (by kernel_rfl)
  obtain ⟨y1, r1, u1⟩ := (o_int (bytes := 8) Tryd.underlying3) _ _ _ _ _ _ _ _ _ g1 w1
  have r1 : tI.R w z0 [c1] y1 := r1
  cases r1
  obtain ⟨_, _, _, g2, w2⟩ := o_field Tryd.underlying87 h hw 2 (off := 2) (ft := 3) (k := 1) rfl rfl rfl (by kernel_rfl)
  obtain ⟨y2, r2, u2⟩ := (o_int (bytes := 8) Tryd.underlying3) _ _ _ _ _ _ _ _ _ g2 w2
  have r2 : tI.R w z0 [c2] y2 := r2
  cases r2
  obtain ⟨_, _, _, g3, w3⟩ := o_field Tryd.underlying87 h hw 3 (off := 3) (ft := 3) (k := 1) rfl rfl rfl (by kernel_rfl)
  obtain ⟨y3, r3, u3⟩ := (o_int (bytes := 8) Tryd.underlying3) _ _ _ _ _ _ _ _ _ g3 w3
  have r3 : tI.R w z0 [c3] y3 := r3
  cases r3
  exact ⟨⟨y0, y1, y2, y3⟩, ⟨a0, k0, rfl, q0⟩, u0, u1, u2, u3⟩
theorem s53 : S53 := x53
theorem s63 : S63 := x63
theorem s62 : S62 := x62
theorem s41 : S41 := C41 v41
theorem s64 : S64 := C64 v64
theorem s52 : S52 := C52 s64 v52
theorem s80 : S80 := C80 s64 v80
theorem s76 : S76 := C76 s80 v76
theorem s51 : S51 := C51 s63 v51
theorem s36 : S36 := C36 s51 v36
theorem s37 : S37 := C37 s52 s53 v37
theorem s21 : S21 := C21 s36 s37 v21
theorem s23 : S23 := C23 s41 v23
theorem s66 : S66 := C66 s76 v66
theorem s54 : S54 := C54 s66 v54
theorem s31 : S31 := C31 v31
theorem s50 : S50 := C50 s62 v50
theorem s42 : S42 := C42 s31 v42
theorem s68 : S68 := C68 v68
theorem s77 : S77 := C77 s68 v77
theorem s69 : S69 := C69 s77 v69
theorem s57 : S57 := C57 s68 v57
theorem s48 : S48 := C48 v48
theorem s19 : S19 := C19 v19
theorem s58 : S58 := C58 s69 v58
theorem s45 : S45 := C45 s57 s58 v45
theorem s35 : S35 := C35 v35
theorem s59 : S59 := C59 v59
theorem s70_59 : S70_59 := C70_59 s59 v70_59
theorem s60_59 : S60_59 := C60_59 s70_59 v60_59
theorem s46 : S46 := C46 s60_59 v46
theorem s27 : S27 := C27 s45 s46 v27
theorem s26 : S26 := C26 s27 v26
theorem s25_26 : S25_26 := C25_26 s26 v25_26
theorem s12 : S12 := C12 s25_26 v12
theorem s40 : S40 := C40 v40
theorem s38 : S38 := C38 s40 s54 v38
theorem s67 : S67 := C67 v67
theorem s56 : S56 := C56 s67 v56
theorem s55 : S55 := C55 s40 s56 v55
theorem s39 : S39 := C39 s38 s55 v39
theorem s22 : S22 := C22 s38 s39 s40 v22
theorem s8 : S8 := C8 s21 s22 v8
theorem s44 : S44 := C44 v44
theorem s43 : S43 := C43 s42 s48 v43
theorem s24 : S24 := C24 s42 s43 s44 v24
theorem s9 : S9 := C9 s23 s24 v9
theorem s49 : S49 := C49 s50 v49
theorem s30 : S30 := C30 s49 s50 v30
theorem s14 : S14 := C14 s12 s30 v14
theorem s34 : S34 := C34 s35 v34
theorem s33_34 : S33_34 := C33_34 s34 v33_34
theorem s18 : S18 := C18 s33_34 v18
theorem s10 : S10 := C10 s19 v10
theorem s16 : S16 := C16 v16
theorem s7 : S7 := C7 s12 s14 s16 s18 s19 s8 (fun _ => v7)
theorem own : ownKnob Tryd.prog.godebug = none := by kernel_rfl
theorem laidOut : laidOutB Tryd.prog = true := by kernel_rfl
end Go.Proofs.YtebhbnlbfglmkaaDoor
