/- The walks chained: what the law returns, in terms of the specification. No condition. -/
import Derived.WalkKit
import Derived.ProofKit
import Derived.OpenShut
import Derived.ShutString
import Derived.ChangeOld
import Derived.Below
import Derived.Test.YtomodhnocjmfpaaRows
import Derived.Test.YtomodhnocjmfpaaQWalksAa
import Derived.Test.YtomodhnocjmfpaaQWalksAb
import Derived.Test.YtomodhnocjmfpaaQWalksAc
import Derived.Test.YtomodhnocjmfpaaQWalksAd
import Derived.Test.YtomodhnocjmfpaaQWalksAe
import Derived.Test.YtomodhnocjmfpaaQWalksL3a
import Derived.Test.YtomodhnocjmfpaaQWalksL3b
import Derived.Test.YtomodhnocjmfpaaQV12
import Derived.Test.YtomodhnocjmfpaaOp
set_option linter.all false
namespace Go.Proofs.Ytomodhnocjmfpaa
open Go Go.Sv Go.Op Go.ChangeShapes Go.WideShapes Go.ChangeAt Go.RowKit
def vApi_Row (x : Api_Row) : Prop := inR .i64 x.State ∧ inR .i64 x.Kind ∧ inR .i64 x.Next ∧ inR .i64 x.Result
theorem oApi_Row : Opens Try.prog tApi_Row vApi_Row 67 := by
  intro H enc w base spare held fuel cs d ps h hw
  obtain ⟨hl, hf⟩ := o_fields Try.underlying67 h hw
  have hl : cs.length = 4 := hl.trans (by kernel_rfl)
  obtain ⟨c0, c1, c2, c3, rfl⟩ := len4 hl
  clear hf
  obtain ⟨_, _, _, g0, w0⟩ := o_field Try.underlying67 h hw 0 (off := 0) (ft := 3) (k := 1) rfl rfl rfl (by kernel_rfl)
  obtain ⟨y0, r0, u0⟩ := (o_int (bytes := 8) Try.underlying3) _ _ _ _ _ _ _ _ _ g0 w0
  have r0 : tI.R w z0 [c0] y0 := r0
  cases r0
  obtain ⟨_, _, _, g1, w1⟩ := o_field Try.underlying67 h hw 1 (off := 1) (ft := 3) (k := 1) rfl rfl rfl (by kernel_rfl)
  obtain ⟨y1, r1, u1⟩ := (o_int (bytes := 8) Try.underlying3) _ _ _ _ _ _ _ _ _ g1 w1
  have r1 : tI.R w z0 [c1] y1 := r1
  cases r1
  obtain ⟨_, _, _, g2, w2⟩ := o_field Try.underlying67 h hw 2 (off := 2) (ft := 3) (k := 1) rfl rfl rfl (by kernel_rfl)
  obtain ⟨y2, r2, u2⟩ := (o_int (bytes := 8) Try.underlying3) _ _ _ _ _ _ _ _ _ g2 w2
  have r2 : tI.R w z0 [c2] y2 := r2
  cases r2
  obtain ⟨_, _, _, g3, w3⟩ := o_field Try.underlying67 h hw 3 (off := 3) (ft := 3) (k := 1) rfl rfl rfl (by kernel_rfl)
  obtain ⟨y3, r3, u3⟩ := (o_int (bytes := 8) Try.underlying3) _ _ _ _ _ _ _ _ _ g3 w3
  have r3 : tI.R w z0 [c3] y3 := r3
  cases r3
  exact ⟨⟨y0, y1, y2, y3⟩, rfl, u0, u1, u2, u3⟩
def vApi_Object (x : Api_Object) : Prop := inR .i64 x.States ∧ inR .i64 x.Kinds ∧ inR .i64 x.Init ∧ (∀ x6 ∈ x.Rows, vApi_Row x6)
theorem oApi_Object : Opens Try.prog tApi_Object vApi_Object 24 := by
  intro H enc w base spare held fuel cs d ps h hw
  obtain ⟨hl, hf⟩ := o_fields Try.underlying24 h hw
  have hl : cs.length = 4 := hl.trans (by kernel_rfl)
  obtain ⟨c0, c1, c2, c3, rfl⟩ := len4 hl
  clear hf
  obtain ⟨_, _, _, g0, w0⟩ := o_field Try.underlying24 h hw 0 (off := 0) (ft := 3) (k := 1) rfl rfl rfl (by kernel_rfl)
  obtain ⟨y0, r0, u0⟩ := (o_int (bytes := 8) Try.underlying3) _ _ _ _ _ _ _ _ _ g0 w0
  have r0 : tI.R w z0 [c0] y0 := r0
  cases r0
  obtain ⟨_, _, _, g1, w1⟩ := o_field Try.underlying24 h hw 1 (off := 1) (ft := 3) (k := 1) rfl rfl rfl (by kernel_rfl)
  obtain ⟨y1, r1, u1⟩ := (o_int (bytes := 8) Try.underlying3) _ _ _ _ _ _ _ _ _ g1 w1
  have r1 : tI.R w z0 [c1] y1 := r1
  cases r1
  obtain ⟨_, _, _, g2, w2⟩ := o_field Try.underlying24 h hw 2 (off := 2) (ft := 3) (k := 1) rfl rfl rfl (by kernel_rfl)
  obtain ⟨y2, r2, u2⟩ := (o_int (bytes := 8) Try.underlying3) _ _ _ _ _ _ _ _ _ g2 w2
  have r2 : tI.R w z0 [c2] y2 := r2
  cases r2
  obtain ⟨_, _, _, g3, w3⟩ := o_field Try.underlying24 h hw 3 (off := 3) (ft := 22) (k := 1) rfl rfl rfl (by kernel_rfl)
  obtain ⟨y3, r3, u3⟩ := (o_slice Try.underlying22 (by kernel_rfl) (by kernel_rfl) oApi_Row) _ _ _ _ _ _ _ _ _ g3 w3
  have r3 : (tSlice tApi_Row).R w z0 [c3] y3 := r3
  obtain ⟨a3, k3, e3, q3⟩ := r3
  cases e3
  exact ⟨⟨y0, y1, y2, y3⟩, ⟨a3, k3, rfl, q3⟩, u0, u1, u2, u3⟩
def vApi_Oper (x : Api_Oper) : Prop := inR .i64 x.Prc ∧ inR .i64 x.Kind ∧ inR .i64 x.Start ∧ inR .i64 x.End ∧ inR .i64 x.Result
theorem oApi_Oper : Opens Try.prog tApi_Oper vApi_Oper 45 := by
  intro H enc w base spare held fuel cs d ps h hw
  obtain ⟨hl, hf⟩ := o_fields Try.underlying45 h hw
  have hl : cs.length = 5 := hl.trans (by kernel_rfl)
  obtain ⟨c0, c1, c2, c3, c4, rfl⟩ := len5 hl
  clear hf
  obtain ⟨_, _, _, g0, w0⟩ := o_field Try.underlying45 h hw 0 (off := 0) (ft := 3) (k := 1) rfl rfl rfl (by kernel_rfl)
  obtain ⟨y0, r0, u0⟩ := (o_int (bytes := 8) Try.underlying3) _ _ _ _ _ _ _ _ _ g0 w0
  have r0 : tI.R w z0 [c0] y0 := r0
  cases r0
  obtain ⟨_, _, _, g1, w1⟩ := o_field Try.underlying45 h hw 1 (off := 1) (ft := 3) (k := 1) rfl rfl rfl (by kernel_rfl)
  obtain ⟨y1, r1, u1⟩ := (o_int (bytes := 8) Try.underlying3) _ _ _ _ _ _ _ _ _ g1 w1
  have r1 : tI.R w z0 [c1] y1 := r1
  cases r1
  obtain ⟨_, _, _, g2, w2⟩ := o_field Try.underlying45 h hw 2 (off := 2) (ft := 3) (k := 1) rfl rfl rfl (by kernel_rfl)
  obtain ⟨y2, r2, u2⟩ := (o_int (bytes := 8) Try.underlying3) _ _ _ _ _ _ _ _ _ g2 w2
  have r2 : tI.R w z0 [c2] y2 := r2
  cases r2
  obtain ⟨_, _, _, g3, w3⟩ := o_field Try.underlying45 h hw 3 (off := 3) (ft := 3) (k := 1) rfl rfl rfl (by kernel_rfl)
  obtain ⟨y3, r3, u3⟩ := (o_int (bytes := 8) Try.underlying3) _ _ _ _ _ _ _ _ _ g3 w3
  have r3 : tI.R w z0 [c3] y3 := r3
  cases r3
  obtain ⟨_, _, _, g4, w4⟩ := o_field Try.underlying45 h hw 4 (off := 4) (ft := 3) (k := 1) rfl rfl rfl (by kernel_rfl)
  obtain ⟨y4, r4, u4⟩ := (o_int (bytes := 8) Try.underlying3) _ _ _ _ _ _ _ _ _ g4 w4
  have r4 : tI.R w z0 [c4] y4 := r4
  cases r4
  exact ⟨⟨y0, y1, y2, y3, y4⟩, rfl, u0, u1, u2, u3, u4⟩
def vApi_Pick (x : Api_Pick) : Prop := inR .i64 x.Oper ∧ inR .i64 x.Result
theorem oApi_Pick : Opens Try.prog tApi_Pick vApi_Pick 51 := by
  intro H enc w base spare held fuel cs d ps h hw
  obtain ⟨hl, hf⟩ := o_fields Try.underlying51 h hw
  have hl : cs.length = 2 := hl.trans (by kernel_rfl)
  obtain ⟨c0, c1, rfl⟩ := len2 hl
  clear hf
  obtain ⟨_, _, _, g0, w0⟩ := o_field Try.underlying51 h hw 0 (off := 0) (ft := 3) (k := 1) rfl rfl rfl (by kernel_rfl)
  obtain ⟨y0, r0, u0⟩ := (o_int (bytes := 8) Try.underlying3) _ _ _ _ _ _ _ _ _ g0 w0
  have r0 : tI.R w z0 [c0] y0 := r0
  cases r0
  obtain ⟨_, _, _, g1, w1⟩ := o_field Try.underlying51 h hw 1 (off := 1) (ft := 3) (k := 1) rfl rfl rfl (by kernel_rfl)
  obtain ⟨y1, r1, u1⟩ := (o_int (bytes := 8) Try.underlying3) _ _ _ _ _ _ _ _ _ g1 w1
  have r1 : tI.R w z0 [c1] y1 := r1
  cases r1
  exact ⟨⟨y0, y1⟩, rfl, u0, u1⟩
theorem s6 : S6 := C6 v6
theorem s46 : S46 := C46 v46
theorem s61 : S61 := C61 v61
theorem s66 : S66 := C66 v66
theorem s62 : S62 := C62 s66 v62
theorem s56 : S56 := C56 s61 s62 v56
theorem s47 : S47 := C47 s46 s56 v47
theorem s30 : S30 := C30 s46 s47 v30
theorem s58 : S58 := C58 s30 v58
theorem s59 : S59 := C59 v59
theorem s50 : S50 := C50 v50
theorem s51_50 : S51_50 := C51_50 s50 v51_50
theorem s32 : S32 := C32 s51_50 v32
theorem s67 : S67 := C67 s32 v67
theorem s64 : S64 := C64 s67 v64
theorem s63 : S63 := C63 s64 v63
theorem s54 : S54 := C54 s58 s59 s63 v54
theorem s43 : S43 := C43 s54 v43
theorem s60 : S60 := C60 v60
theorem s65 : S65 := C65 v65
theorem s55 : S55 := C55 s60 s65 v55
theorem s45 : S45 := C45 s55 v45
theorem s49 : S49 := C49 v49
theorem s44 : S44 := C44 s49 v44
theorem s57 : S57 := C57 v57
theorem s52 : S52 := C52 s57 v52
theorem s33 : S33 := C33 s49 s52 v33
theorem s29 : S29 := C29 s30 s33 s43 s44 s45 v29
theorem s15 : S15 := C15 s29 v15
theorem s42 : S42 := C42 v42
theorem s41 : S41 := C41 v41
theorem s53 : S53 := C53 s41 v53
theorem s23 : S23 := C23 v23
theorem s40 : S40 := C40 s23 s53 v40
theorem s39 : S39 := C39 v39
theorem s27 : S27 := C27 s39 s40 s42 v27
theorem s14 : S14 := C14 v14
theorem s26 : S26 := C26 s40 s41 v26
theorem s38 : S38 := C38 v38
theorem s24 : S24 := C24 s38 s39 v24
theorem s11 : S11 := C11 s23 s24 v11
theorem s25 : S25 := C25 v25
theorem s12 : S12 := C12 s25 s26 s27 v12
theorem s28 : S28 := C28 v28
theorem s13 : S13 := C13 s28 v13
theorem s48 : S48 := C48 v48
theorem s31 : S31 := C31 s48 s49 v31
theorem s18 : S18 := C18 s30 s31 s32 v18
theorem s19 : S19 := C19 s30 s33 v19
theorem s37 : S37 := C37 v37
theorem s35 : S35 := C35 v35
theorem s34 : S34 := C34 v34
theorem ring36_21 : ∀ N : Nat, S36N N ∧ S21N N
  | 0 => ⟨(by intro w χ; intros; omega), (by intro w χ; intros; omega)⟩
  | N + 1 => ⟨C36 N (ring36_21 N).2 s32 s37 (v36 N), C21 N s18 s34 s35 (ring36_21 N).1 (v21 N)⟩
theorem s36 : S36 := fun w χ y0 y1 y2 y3 y4 y5 y6 y7 y8 y9 y10 y11 y12 y13 y14 y15 y16 y17 y18 y19 y20 y21 y22 hp => (ring36_21 (mTry y0 y1 y2 y3 + 1)).1 w χ y0 y1 y2 y3 y4 y5 y6 y7 y8 y9 y10 y11 y12 y13 y14 y15 y16 y17 y18 y19 y20 y21 y22 hp (Nat.lt_succ_self _)
theorem s21 : S21 := fun w χ y0 y1 y2 y3 y4 y5 y6 y7 y8 y9 y10 y11 y12 y13 y14 y15 hp => (ring36_21 (mFirst y0 y1 y2 + 1)).2 w χ y0 y1 y2 y3 y4 y5 y6 y7 y8 y9 y10 y11 y12 y13 y14 y15 hp (Nat.lt_succ_self _)
theorem ring22 : ∀ N : Nat, S22N N
  | 0 => ((by intro w χ; intros; omega))
  | N + 1 => (C22 N s18 (ring22 N) s32 s34 (v22 N))
theorem s22 : S22 := fun w χ y0 y1 y2 y3 y4 y5 y6 y7 y8 y9 y10 y11 y12 hp => (ring22 (mAll y0 y1 + 1)) w χ y0 y1 y2 y3 y4 y5 y6 y7 y8 y9 y10 y11 y12 hp (Nat.lt_succ_self _)
theorem s20 : S20 := C20 v20
theorem s8 : S8 := C8 s15 s19 s20 s21 v8
theorem s9 : S9 := C9 s8 v9
theorem s10 : S10 := C10 s19 s20 s22 v10
theorem s16 : S16 := C16 (fun _ => v16)
theorem s17 : S17 := C17 v17
theorem s7 : S7 := C7 s10 s14 s16 s17 s18 s8 s9 (fun _ => v7)
theorem own : ownKnob Try.prog.godebug = none := by kernel_rfl
theorem laidOut : laidOutB Try.prog = true := by kernel_rfl
end Go.Proofs.Ytomodhnocjmfpaa
