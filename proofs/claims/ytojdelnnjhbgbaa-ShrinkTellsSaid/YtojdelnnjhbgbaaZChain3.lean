/- The walks chained: what the law returns, in terms of the specification. No condition. -/
import Derived.WalkKit
import Derived.ProofKit
import Derived.OpenShut
import Derived.ShutString
import Derived.ChangeOld
import Derived.Below
import Derived.Test.YtojdelnnjhbgbaaRows
import Derived.Test.YtojdelnnjhbgbaaZWalksL3x5x6
import Derived.Test.YtojdelnnjhbgbaaZWalksAa
import Derived.Test.YtojdelnnjhbgbaaZWalksAb
import Derived.Test.YtojdelnnjhbgbaaZWalksAc
import Derived.Test.YtojdelnnjhbgbaaZWalksAd
import Derived.Test.YtojdelnnjhbgbaaZWalksAe
import Derived.Test.YtojdelnnjhbgbaaZWalksL3a
import Derived.Test.YtojdelnnjhbgbaaZWalksL3b
import Derived.Test.YtojdelnnjhbgbaaZWalksL3c
import Derived.Test.YtojdelnnjhbgbaaZWalksL3x4
import Derived.Test.YtojdelnnjhbgbaaZV19
import Derived.Test.YtojdelnnjhbgbaaOp
set_option linter.all false
namespace Go.Proofs.Ytojdelnnjhbgbaa
open Go Go.Sv Go.Op Go.ChangeShapes Go.WideShapes Go.ChangeAt Go.RowKit
def vApi_Row (x : Api_Row) : Prop := inR .i64 x.State ∧ inR .i64 x.Kind ∧ inR .i64 x.Next ∧ inR .i64 x.Result
theorem oApi_Row : Opens Try.prog tApi_Row vApi_Row 76 := by
  intro H enc w base spare held fuel cs d ps h hw
  obtain ⟨hl, hf⟩ := o_fields Try.underlying76 h hw
  have hl : cs.length = 4 := hl.trans (by kernel_rfl)
  obtain ⟨c0, c1, c2, c3, rfl⟩ := len4 hl
  clear hf
  obtain ⟨_, _, _, g0, w0⟩ := o_field Try.underlying76 h hw 0 (off := 0) (ft := 3) (k := 1) rfl rfl rfl (by kernel_rfl)
  obtain ⟨y0, r0, u0⟩ := (o_int (bytes := 8) Try.underlying3) _ _ _ _ _ _ _ _ _ g0 w0
  have r0 : tI.R w z0 [c0] y0 := r0
  cases r0
  obtain ⟨_, _, _, g1, w1⟩ := o_field Try.underlying76 h hw 1 (off := 1) (ft := 3) (k := 1) rfl rfl rfl (by kernel_rfl)
  obtain ⟨y1, r1, u1⟩ := (o_int (bytes := 8) Try.underlying3) _ _ _ _ _ _ _ _ _ g1 w1
  have r1 : tI.R w z0 [c1] y1 := r1
  cases r1
  obtain ⟨_, _, _, g2, w2⟩ := o_field Try.underlying76 h hw 2 (off := 2) (ft := 3) (k := 1) rfl rfl rfl (by kernel_rfl)
  obtain ⟨y2, r2, u2⟩ := (o_int (bytes := 8) Try.underlying3) _ _ _ _ _ _ _ _ _ g2 w2
  have r2 : tI.R w z0 [c2] y2 := r2
  cases r2
  obtain ⟨_, _, _, g3, w3⟩ := o_field Try.underlying76 h hw 3 (off := 3) (ft := 3) (k := 1) rfl rfl rfl (by kernel_rfl)
  obtain ⟨y3, r3, u3⟩ := (o_int (bytes := 8) Try.underlying3) _ _ _ _ _ _ _ _ _ g3 w3
  have r3 : tI.R w z0 [c3] y3 := r3
  cases r3
  exact ⟨⟨y0, y1, y2, y3⟩, rfl, u0, u1, u2, u3⟩
def vApi_Object (x : Api_Object) : Prop := inR .i64 x.States ∧ inR .i64 x.Kinds ∧ inR .i64 x.Init ∧ (∀ x6 ∈ x.Rows, vApi_Row x6)
theorem oApi_Object : Opens Try.prog tApi_Object vApi_Object 24 := by
  intro H enc w base spare held fuel cs d ps h hw
  obtain ⟨hl, hf⟩ := o_fields Try.underlying24 h hw
  have hl : cs.length = 4 := hl.trans (by kernel_rfl)
  obtain ⟨c0, c1, c2, c3, rfl⟩ := len4 hl
  clear hf
  obtain ⟨_, _, _, g0, w0⟩ := o_field Try.underlying24 h hw 0 (off := 0) (ft := 3) (k := 1) rfl rfl rfl (by kernel_rfl)
  obtain ⟨y0, r0, u0⟩ := (o_int (bytes := 8) Try.underlying3) _ _ _ _ _ _ _ _ _ g0 w0
  have r0 : tI.R w z0 [c0] y0 := r0
  cases r0
  obtain ⟨_, _, _, g1, w1⟩ := o_field Try.underlying24 h hw 1 (off := 1) (ft := 3) (k := 1) rfl rfl rfl (by kernel_rfl)
  obtain ⟨y1, r1, u1⟩ := (o_int (bytes := 8) Try.underlying3) _ _ _ _ _ _ _ _ _ g1 w1
  have r1 : tI.R w z0 [c1] y1 := r1
  cases r1
  obtain ⟨_, _, _, g2, w2⟩ := o_field Try.underlying24 h hw 2 (off := 2) (ft := 3) (k := 1) rfl rfl rfl (by kernel_rfl)
  obtain ⟨y2, r2, u2⟩ := (o_int (bytes := 8) Try.underlying3) _ _ _ _ _ _ _ _ _ g2 w2
  have r2 : tI.R w z0 [c2] y2 := r2
  cases r2
  obtain ⟨_, _, _, g3, w3⟩ := o_field Try.underlying24 h hw 3 (off := 3) (ft := 22) (k := 1) rfl rfl rfl (by kernel_rfl)
  obtain ⟨y3, r3, u3⟩ := (o_slice Try.underlying22 (by kernel_rfl) (by kernel_rfl) oApi_Row) _ _ _ _ _ _ _ _ _ g3 w3
  have r3 : (tSlice tApi_Row).R w z0 [c3] y3 := r3
  obtain ⟨a3, k3, e3, q3⟩ := r3
  cases e3
  exact ⟨⟨y0, y1, y2, y3⟩, ⟨a3, k3, rfl, q3⟩, u0, u1, u2, u3⟩
def vApi_Event (x : Api_Event) : Prop := inR .i64 x.What ∧ inR .i64 x.Prc ∧ inR .i64 x.N
theorem oApi_Event : Opens Try.prog tApi_Event vApi_Event 54 := by
  intro H enc w base spare held fuel cs d ps h hw
  obtain ⟨hl, hf⟩ := o_fields Try.underlying54 h hw
  have hl : cs.length = 3 := hl.trans (by kernel_rfl)
  obtain ⟨c0, c1, c2, rfl⟩ := len3 hl
  clear hf
  obtain ⟨_, _, _, g0, w0⟩ := o_field Try.underlying54 h hw 0 (off := 0) (ft := 3) (k := 1) rfl rfl rfl (by kernel_rfl)
  obtain ⟨y0, r0, u0⟩ := (o_int (bytes := 8) Try.underlying3) _ _ _ _ _ _ _ _ _ g0 w0
  have r0 : tI.R w z0 [c0] y0 := r0
  cases r0
  obtain ⟨_, _, _, g1, w1⟩ := o_field Try.underlying54 h hw 1 (off := 1) (ft := 3) (k := 1) rfl rfl rfl (by kernel_rfl)
  obtain ⟨y1, r1, u1⟩ := (o_int (bytes := 8) Try.underlying3) _ _ _ _ _ _ _ _ _ g1 w1
  have r1 : tI.R w z0 [c1] y1 := r1
  cases r1
  obtain ⟨_, _, _, g2, w2⟩ := o_field Try.underlying54 h hw 2 (off := 2) (ft := 3) (k := 1) rfl rfl rfl (by kernel_rfl)
  obtain ⟨y2, r2, u2⟩ := (o_int (bytes := 8) Try.underlying3) _ _ _ _ _ _ _ _ _ g2 w2
  have r2 : tI.R w z0 [c2] y2 := r2
  cases r2
  exact ⟨⟨y0, y1, y2⟩, rfl, u0, u1, u2⟩
theorem s20 : S20 := C20 v20
theorem s50 : S50 := C50 v50
theorem s73 : S73 := C73 v73
theorem s83 : S83 := C83 v83
theorem s74 : S74 := C74 s83 v74
theorem s62 : S62 := C62 s73 s74 v62
theorem s51 : S51 := C51 s50 s62 v51
theorem s38 : S38 := C38 s50 s51 v38
theorem s88 : S88 := C88 s38 v88
theorem s89 : S89 := C89 v89
theorem s77 : S77 := C77 v77
theorem s78_77 : S78_77 := C78_77 s77 v78_77
theorem s67 : S67 := C67 s78_77 v67
theorem s94 : S94 := C94 s67 v94
theorem s92 : S92 := C92 s94 v92
theorem s91 : S91 := C91 s92 v91
theorem s86 : S86 := C86 s88 s89 s91 v86
theorem s80 : S80 := C80 s86 v80
theorem s90 : S90 := C90 v90
theorem s93 : S93 := C93 v93
theorem s87 : S87 := C87 s90 s93 v87
theorem s82 : S82 := C82 s87 v82
theorem s76 : S76 := C76 v76
theorem s81 : S81 := C81 s76 v81
theorem s84 : S84 := C84 v84
theorem s75 : S75 := C75 s84 v75
theorem s63 : S63 := C63 s75 s76 v63
theorem s70 : S70 := C70 s38 s63 s80 s81 s82 v70
theorem s55 : S55 := C55 s70 v55
theorem s61 : S61 := C61 v61
theorem s60 : S60 := C60 v60
theorem s72 : S72 := C72 s60 v72
theorem s41 : S41 := C41 v41
theorem s59 : S59 := C59 s41 s72 v59
theorem s58 : S58 := C58 v58
theorem s47 : S47 := C47 s58 s59 s61 v47
theorem s46 : S46 := C46 s59 s60 v46
theorem s57 : S57 := C57 v57
theorem s44 : S44 := C44 s57 s58 v44
theorem s28 : S28 := C28 s41 s44 v28
theorem s45 : S45 := C45 v45
theorem s29 : S29 := C29 s45 s46 s47 v29
theorem s85 : S85 := C85 v85
theorem s79 : S79 := C79 s76 s85 v79
theorem s69 : S69 := C69 s38 s67 s79 v69
theorem s52 : S52 := C52 s38 s63 v52
theorem s68 : S68 := C68 v68
theorem s65 : S65 := C65 v65
theorem s64 : S64 := C64 v64
theorem ring66_54 : ∀ N : Nat, S66N N ∧ S54N N
  | 0 => ⟨(by intro w χ; intros; omega), (by intro w χ; intros; omega)⟩
  | N + 1 => ⟨C66 N (ring66_54 N).2 s67 s68 (v66 N), C54 N s64 s65 (ring66_54 N).1 s69 (v54 N)⟩
theorem s54 : S54 := fun w χ y0 y1 y2 y3 y4 y5 y6 y7 y8 y9 y10 y11 y12 y13 y14 y15 hp => (ring66_54 (mFirst y0 y1 y2 + 1)).2 w χ y0 y1 y2 y3 y4 y5 y6 y7 y8 y9 y10 y11 y12 y13 y14 y15 hp (Nat.lt_succ_self _)
theorem s53 : S53 := C53 v53
theorem s40 : S40 := C40 s52 s53 s54 s55 v40
theorem s25 : S25 := C25 s40 v25
theorem s37 : S37 := C37 v37
theorem s23 : S23 := C23 s37 v23
theorem s39 : S39 := C39 v39
theorem s71 : S71 := C71 v71
theorem s56 : S56 := C56 s71 v56
theorem s42 : S42 := C42 s56 v42
theorem s43 : S43 := C43 v43
theorem s16 : S16 := C16 v16
theorem s24 : S24 := C24 s23 s38 s39 v24
theorem s26 : S26 := C26 s41 s42 s43 v26
theorem s34 : S34 := C34 v34
theorem s17 : S17 := C17 s34 v17
theorem s9 : S9 := C9 s23 v9
theorem s27 : S27 := C27 s42 v27
theorem s10 : S10 := C10 s24 s25 s9 v10
theorem s31 : S31 := C31 v31
theorem s48 : S48 := C48 s10 v48
theorem s30_48 : S30_48 := C30_48 s48 v30_48
theorem s12 : S12 := C12 s10 s30_48 s31 v12
theorem s49 : S49 := C49 v49
theorem s35 : S35 := C35 s49 v35
theorem s18 : S18 := C18 s35 v18
theorem s32 : S32 := C32 v32
theorem s33 : S33 := C33 v33
theorem s14 : S14 := C14 s12 s18 s32 s33 s9 v14
theorem s11 : S11 := C11 s26 s27 s28 s29 v11
theorem s13 : S13 := C13 s11 v13
theorem s36 : S36 := C36 v36
theorem s19 : S19 := C19 s36 v19
theorem s15 : S15 := C15 s13 s19 s27 v15
theorem s7 : S7 := C7 s20 v7
theorem s21 : S21 := C21 (fun _ => v21)
theorem s22 : S22 := C22 (fun _ => v22)
theorem s8 : S8 := C8 s10 s12 s14 s16 s18 s21 s22 (fun _ => v8)
theorem own : ownKnob Try.prog.godebug = none := by kernel_rfl
theorem laidOut : laidOutB Try.prog = true := by kernel_rfl
end Go.Proofs.Ytojdelnnjhbgbaa
