/- The walks chained: what the law returns, in terms of the specification. No condition. -/
import Derived.WalkKit
import Derived.ProofKit
import Derived.OpenShut
import Derived.ShutString
import Derived.ChangeOld
import Derived.Below
import Derived.Test.YtkgcdoeldilhaaaDoorRows
import Derived.Test.YtkgcdoeldilhaaaDoorNWalksAa
import Derived.Test.YtkgcdoeldilhaaaDoorNWalksAb
import Derived.Test.YtkgcdoeldilhaaaDoorNWalksAc
import Derived.Test.YtkgcdoeldilhaaaDoorNWalksAd
import Derived.Test.YtkgcdoeldilhaaaDoorNWalksL4
import Derived.Test.YtkgcdoeldilhaaaDoorNV29
import Derived.Test.YtkgcdoeldilhaaaDoorOp
import Derived.Test.YtkgcdoeldilhaaaDoorNXS
set_option linter.all false
namespace Go.Proofs.YtkgcdoeldilhaaaDoor
open Go Go.Sv Go.Op Go.ChangeShapes Go.WideShapes Go.ChangeAt Go.RowKit
def vToken_Token (x : Token_Token) : Prop := inR .i64 x.Line ∧ inR .i64 x.At ∧ x.Text.length ≤ 140737488355328
theorem oToken_Token : Opens Tryd.prog tToken_Token vToken_Token 61 := by
  intro H enc w base spare held fuel cs d ps h hw
  obtain ⟨hl, hf⟩ := o_fields Tryd.underlying61 h hw
  have hl : cs.length = 3 := hl.trans (by kernel_rfl)
  obtain ⟨c0, c1, c2, rfl⟩ := len3 hl
  clear hf
  obtain ⟨_, _, _, g0, w0⟩ := o_field Tryd.underlying61 h hw 0 (off := 0) (ft := 3) (k := 1) rfl rfl rfl (by kernel_rfl)
  obtain ⟨y0, r0, u0⟩ := (o_int (bytes := 8) Tryd.underlying3) _ _ _ _ _ _ _ _ _ g0 w0
  have r0 : tI.R w z0 [c0] y0 := r0
  cases r0
  obtain ⟨_, _, _, g1, w1⟩ := o_field Tryd.underlying61 h hw 1 (off := 1) (ft := 3) (k := 1) rfl rfl rfl (by kernel_rfl)
  obtain ⟨y1, r1, u1⟩ := (o_int (bytes := 8) Tryd.underlying3) _ _ _ _ _ _ _ _ _ g1 w1
  have r1 : tI.R w z0 [c1] y1 := r1
  cases r1
  obtain ⟨_, _, _, g2, w2⟩ := o_field Tryd.underlying61 h hw 2 (off := 2) (ft := 9) (k := 1) rfl rfl rfl (by kernel_rfl)
  obtain ⟨y2, r2, u2⟩ := (o_str Tryd.underlying9) _ _ _ _ _ _ _ _ _ g2 w2
  have r2 : tStr.R w z0 [c2] y2 := r2
  cases r2
  exact ⟨⟨y0, y1, y2⟩, rfl, u0, u1, u2⟩
def vProof_line (x : Proof_line) : Prop := (∀ x6 ∈ x.rest, vToken_Token x6) ∧ inR .i64 x.at_ ∧ inR .i64 x.e
theorem oProof_line : Opens Tryd.prog tProof_line vProof_line 83 := by
  intro H enc w base spare held fuel cs d ps h hw
  obtain ⟨hl, hf⟩ := o_fields Tryd.underlying83 h hw
  have hl : cs.length = 3 := hl.trans (by kernel_rfl)
  obtain ⟨c0, c1, c2, rfl⟩ := len3 hl
  clear hf
  obtain ⟨_, _, _, g0, w0⟩ := o_field Tryd.underlying83 h hw 0 (off := 0) (ft := 58) (k := 1) rfl rfl rfl (by kernel_rfl)
  obtain ⟨y0, r0, u0⟩ := (o_slice Tryd.underlying58 (by kernel_rfl) (by kernel_rfl) oToken_Token) _ _ _ _ _ _ _ _ _ g0 w0
  have r0 : (tSlice tToken_Token).R w z0 [c0] y0 := r0
  obtain ⟨a0, k0, e0, q0⟩ := r0
  cases e0
  obtain ⟨_, _, _, g1, w1⟩ := o_field Tryd.underlying83 h hw 1 (off := 1) (ft := 3) (k := 1) rfl rfl rfl (by kernel_rfl)
  obtain ⟨y1, r1, u1⟩ := (o_int (bytes := 8) Tryd.underlying3) _ _ _ _ _ _ _ _ _ g1 w1
  have r1 : tI.R w z0 [c1] y1 := r1
  cases r1
  obtain ⟨_, _, _, g2, w2⟩ := o_field Tryd.underlying83 h hw 2 (off := 2) (ft := 22) (k := 1) rfl rfl rfl (by kernel_rfl)
  obtain ⟨y2, r2, u2⟩ := (o_int (bytes := 8) Tryd.underlying22) _ _ _ _ _ _ _ _ _ g2 w2
  have r2 : tI.R w z0 [c2] y2 := r2
  cases r2
  exact ⟨⟨y0, y1, y2⟩, ⟨a0, k0, rfl, q0⟩, u0, u1, u2⟩
def vApi_Step (x : Api_Step) : Prop := inR .i64 x.Kind ∧ inR .i64 x.Id ∧ (∀ x6 ∈ x.Lits, inR .i64 x6) ∧ (∀ x7 ∈ x.Hints, inR .i64 x7)
theorem oApi_Step : Opens Tryd.prog tApi_Step vApi_Step 65 := by
  intro H enc w base spare held fuel cs d ps h hw
  obtain ⟨hl, hf⟩ := o_fields Tryd.underlying65 h hw
  have hl : cs.length = 4 := hl.trans (by kernel_rfl)
  obtain ⟨c0, c1, c2, c3, rfl⟩ := len4 hl
  clear hf
  obtain ⟨_, _, _, g0, w0⟩ := o_field Tryd.underlying65 h hw 0 (off := 0) (ft := 3) (k := 1) rfl rfl rfl (by kernel_rfl)
  obtain ⟨y0, r0, u0⟩ := (o_int (bytes := 8) Tryd.underlying3) _ _ _ _ _ _ _ _ _ g0 w0
  have r0 : tI.R w z0 [c0] y0 := r0
  cases r0
  obtain ⟨_, _, _, g1, w1⟩ := o_field Tryd.underlying65 h hw 1 (off := 1) (ft := 3) (k := 1) rfl rfl rfl (by kernel_rfl)
  obtain ⟨y1, r1, u1⟩ := (o_int (bytes := 8) Tryd.underlying3) _ _ _ _ _ _ _ _ _ g1 w1
  have r1 : tI.R w z0 [c1] y1 := r1
  cases r1
  obtain ⟨_, _, _, g2, w2⟩ := o_field Tryd.underlying65 h hw 2 (off := 2) (ft := 51) (k := 1) rfl rfl rfl (by kernel_rfl)
  obtain ⟨y2, r2, u2⟩ := (o_slice Tryd.underlying51 (by kernel_rfl) (by kernel_rfl) (o_int (bytes := 8) Tryd.underlying3)) _ _ _ _ _ _ _ _ _ g2 w2
  have r2 : (tSlice tI).R w z0 [c2] y2 := r2
  obtain ⟨a2, k2, e2, q2⟩ := r2
  cases e2
  obtain ⟨_, _, _, g3, w3⟩ := o_field Tryd.underlying65 h hw 3 (off := 3) (ft := 51) (k := 1) rfl rfl rfl (by kernel_rfl)
  obtain ⟨y3, r3, u3⟩ := (o_slice Tryd.underlying51 (by kernel_rfl) (by kernel_rfl) (o_int (bytes := 8) Tryd.underlying3)) _ _ _ _ _ _ _ _ _ g3 w3
  have r3 : (tSlice tI).R w z0 [c3] y3 := r3
  obtain ⟨a3, k3, e3, q3⟩ := r3
  cases e3
  exact ⟨⟨y0, y1, y2, y3⟩, ⟨a2, k2, a3, k3, rfl, q2, q3⟩, u0, u1, u2, u3⟩
def vApi_Pick (x : Api_Pick) : Prop := inR .i64 x.Oper ∧ inR .i64 x.Result
theorem oApi_Pick : Opens Tryd.prog tApi_Pick vApi_Pick 39 := by
  intro H enc w base spare held fuel cs d ps h hw
  obtain ⟨hl, hf⟩ := o_fields Tryd.underlying39 h hw
  have hl : cs.length = 2 := hl.trans (by kernel_rfl)
  obtain ⟨c0, c1, rfl⟩ := len2 hl
  clear hf
  obtain ⟨_, _, _, g0, w0⟩ := o_field Tryd.underlying39 h hw 0 (off := 0) (ft := 3) (k := 1) rfl rfl rfl (by kernel_rfl)
  obtain ⟨y0, r0, u0⟩ := (o_int (bytes := 8) Tryd.underlying3) _ _ _ _ _ _ _ _ _ g0 w0
  have r0 : tI.R w z0 [c0] y0 := r0
  cases r0
  obtain ⟨_, _, _, g1, w1⟩ := o_field Tryd.underlying39 h hw 1 (off := 1) (ft := 3) (k := 1) rfl rfl rfl (by kernel_rfl)
  obtain ⟨y1, r1, u1⟩ := (o_int (bytes := 8) Tryd.underlying3) _ _ _ _ _ _ _ _ _ g1 w1
  have r1 : tI.R w z0 [c1] y1 := r1
  cases r1
  exact ⟨⟨y0, y1⟩, rfl, u0, u1⟩
def vApi_Verdict (x : Api_Verdict) : Prop := inR .i64 x.Kind ∧ inR .i64 x.At ∧ inR .i64 x.Err ∧ (∀ x7 ∈ x.Picks, vApi_Pick x7) ∧ (∀ x7 ∈ x.Proof, vApi_Step x7)
theorem oApi_Verdict : Opens Tryd.prog tApi_Verdict vApi_Verdict 26 := by
  intro H enc w base spare held fuel cs d ps h hw
  obtain ⟨hl, hf⟩ := o_fields Tryd.underlying26 h hw
  have hl : cs.length = 5 := hl.trans (by kernel_rfl)
  obtain ⟨c0, c1, c2, c3, c4, rfl⟩ := len5 hl
  clear hf
  obtain ⟨_, _, _, g0, w0⟩ := o_field Tryd.underlying26 h hw 0 (off := 0) (ft := 3) (k := 1) rfl rfl rfl (by kernel_rfl)
  obtain ⟨y0, r0, u0⟩ := (o_int (bytes := 8) Tryd.underlying3) _ _ _ _ _ _ _ _ _ g0 w0
  have r0 : tI.R w z0 [c0] y0 := r0
  cases r0
  obtain ⟨_, _, _, g1, w1⟩ := o_field Tryd.underlying26 h hw 1 (off := 1) (ft := 3) (k := 1) rfl rfl rfl (by kernel_rfl)
  obtain ⟨y1, r1, u1⟩ := (o_int (bytes := 8) Tryd.underlying3) _ _ _ _ _ _ _ _ _ g1 w1
  have r1 : tI.R w z0 [c1] y1 := r1
  cases r1
  obtain ⟨_, _, _, g2, w2⟩ := o_field Tryd.underlying26 h hw 2 (off := 2) (ft := 22) (k := 1) rfl rfl rfl (by kernel_rfl)
  obtain ⟨y2, r2, u2⟩ := (o_int (bytes := 8) Tryd.underlying22) _ _ _ _ _ _ _ _ _ g2 w2
  have r2 : tI.R w z0 [c2] y2 := r2
  cases r2
  obtain ⟨_, _, _, g3, w3⟩ := o_field Tryd.underlying26 h hw 3 (off := 3) (ft := 23) (k := 1) rfl rfl rfl (by kernel_rfl)
  obtain ⟨y3, r3, u3⟩ := (o_slice Tryd.underlying23 (by kernel_rfl) (by kernel_rfl) oApi_Pick) _ _ _ _ _ _ _ _ _ g3 w3
  have r3 : (tSlice tApi_Pick).R w z0 [c3] y3 := r3
  obtain ⟨a3, k3, e3, q3⟩ := r3
  cases e3
  obtain ⟨_, _, _, g4, w4⟩ := o_field Tryd.underlying26 h hw 4 (off := 4) (ft := 24) (k := 1) rfl rfl rfl (by kernel_rfl)
  obtain ⟨y4, r4, u4⟩ := (o_slice Tryd.underlying24 (by kernel_rfl) (by kernel_rfl) oApi_Step) _ _ _ _ _ _ _ _ _ g4 w4
  have r4 : (tSlice tApi_Step).R w z0 [c4] y4 := r4
  obtain ⟨a4, k4, e4, q4⟩ := r4
  cases e4
  exact ⟨⟨y0, y1, y2, y3, y4⟩, ⟨a3, k3, a4, k4, rfl, q3, q4⟩, u0, u1, u2, u3, u4⟩
def vVerdict_reader (x : Verdict_reader) : Prop := (∀ x6 ∈ x.rest, ∀ x6y ∈ x6, vToken_Token x6y) ∧ inR .i64 x.end_ ∧ inR .i64 x.at_ ∧ inR .i64 x.e
theorem oVerdict_reader : Opens Tryd.prog tVerdict_reader vVerdict_reader 50 := by
  intro H enc w base spare held fuel cs d ps h hw
  obtain ⟨hl, hf⟩ := o_fields Tryd.underlying50 h hw
  have hl : cs.length = 4 := hl.trans (by kernel_rfl)
  obtain ⟨c0, c1, c2, c3, rfl⟩ := len4 hl
  clear hf
  obtain ⟨_, _, _, g0, w0⟩ := o_field Tryd.underlying50 h hw 0 (off := 0) (ft := 47) (k := 1) rfl rfl rfl (by kernel_rfl)
  obtain ⟨y0, r0, u0⟩ := (o_slice Tryd.underlying47 (by kernel_rfl) (by kernel_rfl) (o_slice Tryd.underlying58 (by kernel_rfl) (by kernel_rfl) oToken_Token)) _ _ _ _ _ _ _ _ _ g0 w0
  have r0 : (tSlice (tSlice tToken_Token)).R w z0 [c0] y0 := r0
  obtain ⟨a0, k0, e0, q0⟩ := r0
  cases e0
  obtain ⟨_, _, _, g1, w1⟩ := o_field Tryd.underlying50 h hw 1 (off := 1) (ft := 3) (k := 1) rfl rfl rfl (by kernel_rfl)
  obtain ⟨y1, r1, u1⟩ := (o_int (bytes := 8) Tryd.underlying3) _ _ _ _ _ _ _ _ _ g1 w1
  have r1 : tI.R w z0 [c1] y1 := r1
  cases r1
  obtain ⟨_, _, _, g2, w2⟩ := o_field Tryd.underlying50 h hw 2 (off := 2) (ft := 3) (k := 1) rfl rfl rfl (by kernel_rfl)
  obtain ⟨y2, r2, u2⟩ := (o_int (bytes := 8) Tryd.underlying3) _ _ _ _ _ _ _ _ _ g2 w2
  have r2 : tI.R w z0 [c2] y2 := r2
  cases r2
  obtain ⟨_, _, _, g3, w3⟩ := o_field Tryd.underlying50 h hw 3 (off := 3) (ft := 22) (k := 1) rfl rfl rfl (by kernel_rfl)
  obtain ⟨y3, r3, u3⟩ := (o_int (bytes := 8) Tryd.underlying22) _ _ _ _ _ _ _ _ _ g3 w3
  have r3 : tI.R w z0 [c3] y3 := r3
  cases r3
  exact ⟨⟨y0, y1, y2, y3⟩, ⟨a0, k0, rfl, q0⟩, u0, u1, u2, u3⟩
theorem s50 : S50 := x50
theorem s60 : S60 := x60
theorem s43 : S43 := x43
theorem s61 : S61 := C61 v61
theorem s49 : S49 := C49 s61 v49
theorem s88 : S88 := C88 s61 v88
theorem s82 : S82 := C82 s88 v82
theorem s48 : S48 := C48 s60 v48
theorem s34 : S34 := C34 s48 v34
theorem s35 : S35 := C35 s49 s50 v35
theorem s18 : S18 := C18 s34 s35 v18
theorem s74 : S74 := C74 s82 v74
theorem s63 : S63 := C63 s74 v63
theorem s27 : S27 := C27 s43 v27
theorem s67 : S67 := C67 v67
theorem s80 : S80 := C80 s67 v80
theorem s68 : S68 := C68 s80 v68
theorem s56 : S56 := C56 s67 v56
theorem s42 : S42 := C42 v42
theorem s57 : S57 := C57 s68 v57
theorem s45 : S45 := C45 s56 s57 v45
theorem s58 : S58 := C58 v58
theorem s69_58 : S69_58 := C69_58 s58 v69_58
theorem s59_58 : S59_58 := C59_58 s69_58 v59_58
theorem s46 : S46 := C46 s59_58 v46
theorem s31 : S31 := C31 s45 s46 v31
theorem s30 : S30 := C30 s31 v30
theorem s29_30 : S29_30 := C29_30 s30 v29_30
theorem s15 : S15 := C15 s29_30 v15
theorem s54 : S54 := C54 v54
theorem s52 : S52 := C52 s54 s63 v52
theorem s75 : S75 := C75 v75
theorem s65 : S65 := C65 s75 v65
theorem s64 : S64 := C64 s54 s65 v64
theorem s53 : S53 := C53 s52 s64 v53
theorem s39 : S39 := C39 s52 s53 s54 v39
theorem s22 : S22 := C22 s18 s39 v22
theorem s44 : S44 := C44 s27 v44
theorem s28 : S28 := C28 s27 s44 v28
theorem s14 : S14 := C14 s15 s28 v14
theorem s41 : S41 := C41 s42 v41
theorem s40_41 : S40_41 := C40_41 s41 v40_41
theorem s25 : S25 := C25 s40_41 v25
theorem s51 : S51 := C51 s63 v51
theorem s24 : S24 := C24 v24
theorem s26 : S26 := C26 (fun _ => v26)
theorem s12 : S12 := C12 s26 v12
theorem s32 : S32 := C32 v32
theorem s47_32 : S47_32 := C47_32 s32 v47_32
theorem s33_32 : S33_32 := C33_32 s47_32 v33_32
theorem s17 : S17 := C17 s33_32 v17
theorem s16 : S16 := C16 v16
theorem s8 : S8 := C8 s12 s15 s16 s17 v8
theorem s10 : S10 := C10 s24 s25 v10
theorem s13 : S13 := C13 s27 v13
theorem s7 : S7 := C7 s12 s13 s14 s8 v7
theorem s23 : S23 := C23 v23
theorem s37 : S37 := C37 s51 v37
theorem s38 : S38 := C38 v38
theorem s47_38 : S47_38 := C47_38 s38 v47_38
theorem s33_38 : S33_38 := C33_38 s47_38 v33_38
theorem s20 : S20 := C20 s23 s33_38 s37 v20
theorem s36 : S36 := C36 v36
theorem s19 : S19 := C19 s23 s26 s36 s37 v19
theorem s21 : S21 := C21 s18 v21
theorem s9 : S9 := C9 s18 s19 s20 s21 s22 s23 v9
theorem s6 : S6 := C6 s10 s12 s7 s8 s9 (fun _ => v6)
theorem own : ownKnob Tryd.prog.godebug = none := by kernel_rfl
theorem laidOut : laidOutB Tryd.prog = true := by kernel_rfl
end Go.Proofs.YtkgcdoeldilhaaaDoor
