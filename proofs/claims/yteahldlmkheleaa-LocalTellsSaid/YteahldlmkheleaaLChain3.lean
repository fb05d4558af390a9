/- The walks chained: the law in terms of the specification. -/
import Derived.WalkKit
import Derived.ProofKit
import Derived.OpenShut
import Derived.ShutString
import Derived.ChangeOld
import Derived.Below
import Derived.Test.YteahldlmkheleaaRows
import Derived.Test.YteahldlmkheleaaLWalksL3a
import Derived.Test.YteahldlmkheleaaLWalksL3b
import Derived.Test.YteahldlmkheleaaLWalksL3c
import Derived.Test.YteahldlmkheleaaLWalksL3d
import Derived.Test.YteahldlmkheleaaLWalksL3e
import Derived.Test.YteahldlmkheleaaLWalksL3f
import Derived.Test.YteahldlmkheleaaLWalksL3g
import Derived.Test.YteahldlmkheleaaLWalksL3h
import Derived.Test.YteahldlmkheleaaLV29
import Derived.Test.YteahldlmkheleaaOp
set_option linter.all false
namespace Go.Proofs.Yteahldlmkheleaa
open Go Go.Sv Go.Op Go.ChangeShapes Go.WideShapes Go.ChangeAt Go.RowKit
def lP (x : aS) : Prop := inR .i64 x.State ∧ inR .i64 x.Kind ∧ inR .i64 x.Next ∧ inR .i64 x.Result
theorem oI : jx Try.prog aw lP 87 := by
  intro H enc w base spare held fuel cs d ps h hw
  obtain ⟨hl, hf⟩ := gk Try.underlying87 h hw
  have hl : cs.length = 4 := hl.trans (by kernel_rfl)
  obtain ⟨c0, c1, c2, c3, rfl⟩ := p9 hl
  clear hf
  obtain ⟨_, _, _, g0, w0⟩ := dY Try.underlying87 h hw 0 (off := 0) (ft := 3) (k := 1) rfl rfl rfl (by kernel_rfl)
  obtain ⟨y0, r0, u0⟩ := (gF (bytes := 8) Try.underlying3) _ _ _ _ _ _ _ _ _ g0 w0
  have r0 : tI.R w z0 [c0] y0 := r0
  cases r0
  obtain ⟨_, _, _, g1, w1⟩ := dY Try.underlying87 h hw 1 (off := 1) (ft := 3) (k := 1) rfl rfl rfl (by kernel_rfl)
  obtain ⟨y1, r1, u1⟩ := (gF (bytes := 8) Try.underlying3) _ _ _ _ _ _ _ _ _ g1 w1
  have r1 : tI.R w z0 [c1] y1 := r1
  cases r1
  obtain ⟨_, _, _, g2, w2⟩ := dY Try.underlying87 h hw 2 (off := 2) (ft := 3) (k := 1) rfl rfl rfl (by kernel_rfl)
  obtain ⟨y2, r2, u2⟩ := (gF (bytes := 8) Try.underlying3) _ _ _ _ _ _ _ _ _ g2 w2
  have r2 : tI.R w z0 [c2] y2 := r2
  cases r2
  obtain ⟨_, _, _, g3, w3⟩ := dY Try.underlying87 h hw 3 (off := 3) (ft := 3) (k := 1) rfl rfl rfl (by kernel_rfl)
  obtain ⟨y3, r3, u3⟩ := (gF (bytes := 8) Try.underlying3) _ _ _ _ _ _ _ _ _ g3 w3
  have r3 : tI.R w z0 [c3] y3 := r3
  cases r3
  exact ⟨⟨y0, y1, y2, y3⟩, rfl, u0, u1, u2, u3⟩
def jj (x : ai) : Prop := inR .i64 x.ao ∧ inR .i64 x.av ∧ inR .i64 x.aC ∧ (∀ x6 ∈ x.Rows, lP x6)
theorem l9 : jx Try.prog aE jj 42 := by
  intro H enc w base spare held fuel cs d ps h hw
  obtain ⟨hl, hf⟩ := gk Try.underlying42 h hw
  have hl : cs.length = 4 := hl.trans (by kernel_rfl)
  obtain ⟨c0, c1, c2, c3, rfl⟩ := p9 hl
  clear hf
  obtain ⟨_, _, _, g0, w0⟩ := dY Try.underlying42 h hw 0 (off := 0) (ft := 3) (k := 1) rfl rfl rfl (by kernel_rfl)
  obtain ⟨y0, r0, u0⟩ := (gF (bytes := 8) Try.underlying3) _ _ _ _ _ _ _ _ _ g0 w0
  have r0 : tI.R w z0 [c0] y0 := r0
  cases r0
  obtain ⟨_, _, _, g1, w1⟩ := dY Try.underlying42 h hw 1 (off := 1) (ft := 3) (k := 1) rfl rfl rfl (by kernel_rfl)
  obtain ⟨y1, r1, u1⟩ := (gF (bytes := 8) Try.underlying3) _ _ _ _ _ _ _ _ _ g1 w1
  have r1 : tI.R w z0 [c1] y1 := r1
  cases r1
  obtain ⟨_, _, _, g2, w2⟩ := dY Try.underlying42 h hw 2 (off := 2) (ft := 3) (k := 1) rfl rfl rfl (by kernel_rfl)
  obtain ⟨y2, r2, u2⟩ := (gF (bytes := 8) Try.underlying3) _ _ _ _ _ _ _ _ _ g2 w2
  have r2 : tI.R w z0 [c2] y2 := r2
  cases r2
  obtain ⟨_, _, _, g3, w3⟩ := dY Try.underlying42 h hw 3 (off := 3) (ft := 40) (k := 1) rfl rfl rfl (by kernel_rfl)
  obtain ⟨y3, r3, u3⟩ := (ly Try.underlying40 (by kernel_rfl) (by kernel_rfl) oI) _ _ _ _ _ _ _ _ _ g3 w3
  have r3 : (dn aw).R w z0 [c3] y3 := r3
  obtain ⟨a3, k3, e3, q3⟩ := r3
  cases e3
  exact ⟨⟨y0, y1, y2, y3⟩, ⟨a3, k3, rfl, q3⟩, u0, u1, u2, u3⟩
def jI (x : al) : Prop := inR .i64 x.aY ∧ inR .i64 x.ab ∧ inR .i64 x.N
theorem mP : jx Try.prog az jI 62 := by
  intro H enc w base spare held fuel cs d ps h hw
  obtain ⟨hl, hf⟩ := gk Try.underlying62 h hw
  have hl : cs.length = 3 := hl.trans (by kernel_rfl)
  obtain ⟨c0, c1, c2, rfl⟩ := qA hl
  clear hf
  obtain ⟨_, _, _, g0, w0⟩ := dY Try.underlying62 h hw 0 (off := 0) (ft := 3) (k := 1) rfl rfl rfl (by kernel_rfl)
  obtain ⟨y0, r0, u0⟩ := (gF (bytes := 8) Try.underlying3) _ _ _ _ _ _ _ _ _ g0 w0
  have r0 : tI.R w z0 [c0] y0 := r0
  cases r0
  obtain ⟨_, _, _, g1, w1⟩ := dY Try.underlying62 h hw 1 (off := 1) (ft := 3) (k := 1) rfl rfl rfl (by kernel_rfl)
  obtain ⟨y1, r1, u1⟩ := (gF (bytes := 8) Try.underlying3) _ _ _ _ _ _ _ _ _ g1 w1
  have r1 : tI.R w z0 [c1] y1 := r1
  cases r1
  obtain ⟨_, _, _, g2, w2⟩ := dY Try.underlying62 h hw 2 (off := 2) (ft := 3) (k := 1) rfl rfl rfl (by kernel_rfl)
  obtain ⟨y2, r2, u2⟩ := (gF (bytes := 8) Try.underlying3) _ _ _ _ _ _ _ _ _ g2 w2
  have r2 : tI.R w z0 [c2] y2 := r2
  cases r2
  exact ⟨⟨y0, y1, y2⟩, rfl, u0, u1, u2⟩
def iq (x : aR) : Prop := inR .i64 x.ar ∧ jI x.aH
theorem lz : jx Try.prog aK iq 64 := by
  intro H enc w base spare held fuel cs d ps h hw
  obtain ⟨hl, hf⟩ := gk Try.underlying64 h hw
  have hl : cs.length = 4 := hl.trans (by kernel_rfl)
  obtain ⟨c0, c1, c2, c3, rfl⟩ := p9 hl
  clear hf
  obtain ⟨_, _, _, g0, w0⟩ := dY Try.underlying64 h hw 0 (off := 0) (ft := 3) (k := 1) rfl rfl rfl (by kernel_rfl)
  obtain ⟨y0, r0, u0⟩ := (gF (bytes := 8) Try.underlying3) _ _ _ _ _ _ _ _ _ g0 w0
  have r0 : tI.R w z0 [c0] y0 := r0
  cases r0
  obtain ⟨_, _, _, g1, w1⟩ := dY Try.underlying64 h hw 1 (off := 1) (ft := 62) (k := 3) rfl rfl rfl (by kernel_rfl)
  obtain ⟨y1, r1, u1⟩ := mP _ _ _ _ _ _ _ _ _ g1 w1
  have r1 : az.R w z0 [c1, c2, c3] y1 := r1
  cases r1
  exact ⟨⟨y0, y1⟩, rfl, u0, u1⟩
def jH (x : ak) : Prop := (∀ x9 ∈ x.ae, jj x9) ∧ (∀ x8 ∈ x.aj, iq x8)
theorem jY : jx Try.prog jN jH 25 := by
  intro H enc w base spare held fuel cs d ps h hw
  obtain ⟨hl, hf⟩ := gk Try.underlying25 h hw
  have hl : cs.length = 2 := hl.trans (by kernel_rfl)
  obtain ⟨c0, c1, rfl⟩ := qB hl
  clear hf
  obtain ⟨_, _, _, g0, w0⟩ := dY Try.underlying25 h hw 0 (off := 0) (ft := 22) (k := 1) rfl rfl rfl (by kernel_rfl)
  obtain ⟨y0, r0, u0⟩ := (ly Try.underlying22 (by kernel_rfl) (by kernel_rfl) l9) _ _ _ _ _ _ _ _ _ g0 w0
  have r0 : (dn aE).R w z0 [c0] y0 := r0
  obtain ⟨a0, k0, e0, q0⟩ := r0
  cases e0
  obtain ⟨_, _, _, g1, w1⟩ := dY Try.underlying25 h hw 1 (off := 1) (ft := 23) (k := 1) rfl rfl rfl (by kernel_rfl)
  obtain ⟨y1, r1, u1⟩ := (ly Try.underlying23 (by kernel_rfl) (by kernel_rfl) lz) _ _ _ _ _ _ _ _ _ g1 w1
  have r1 : (dn aK).R w z0 [c1] y1 := r1
  obtain ⟨a1, k1, e1, q1⟩ := r1
  cases e1
  exact ⟨⟨y0, y1⟩, ⟨a0, k0, a1, k1, rfl, q0, q1⟩, u0, u1⟩
theorem s17 : S17 := C17 v17
theorem s47 : S47 := C47 v47
theorem s77 : S77 := C77 v77
theorem s90 : S90 := C90 v90
theorem s78 : S78 := C78 s90 v78
theorem s65 : S65 := C65 s77 s78 v65
theorem s48 : S48 := C48 s47 s65 v48
theorem s24 : S24 := C24 s47 s48 v24
theorem s74 : S74 := C74 s24 v74
theorem s75 : S75 := C75 v75
theorem s92 : S92 := C92 v92
theorem s93_92 : S93_92 := C93_92 s92 v93_92
theorem s83 : S83 := C83 s93_92 v83
theorem s95 : S95 := C95 s83 v95
theorem s88 : S88 := C88 s95 v88
theorem s87 : S87 := C87 s88 v87
theorem s63 : S63 := C63 s74 s75 s87 v63
theorem s44 : S44 := C44 s63 v44
theorem s76 : S76 := C76 v76
theorem s89 : S89 := C89 v89
theorem s64 : S64 := C64 s76 s89 v64
theorem s46 : S46 := C46 s64 v46
theorem s57 : S57 := C57 v57
theorem s45 : S45 := C45 s57 v45
theorem s96 : S96 := C96 v96
theorem s91 : S91 := C91 s96 v91
theorem s79 : S79 := C79 s57 s91 v79
theorem s86 : S86 := C86 s24 s44 s45 s46 s79 v86
theorem s70 : S70 := C70 s86 v70
theorem s28 : S28 := C28 v28
theorem s97 : S97 := C97 v97
theorem s94 : S94 := C94 s57 s97 v94
theorem s85 : S85 := C85 s24 s83 s94 v85
theorem s67 : S67 := C67 s24 s79 v67
theorem s84 : S84 := C84 v84
theorem s81 : S81 := C81 v81
theorem s80 : S80 := C80 v80
theorem iT : ∀ N : Nat, S82N N ∧ S69N N
  | 0 => ⟨(by intro w χ; intros; omega), (by intro w χ; intros; omega)⟩
  | N + 1 => ⟨C82 N (iT N).2 s83 s84 (v82 N), C69 N s80 s81 (iT N).1 s85 (v69 N)⟩
theorem s69 : S69 := fun w χ y0 y1 y2 y3 y4 y5 y6 y7 y8 y9 y10 y11 y12 y13 y14 y15 y16 hp => (iT (iY y0 y1 y2 + 1)).2 w χ y0 y1 y2 y3 y4 y5 y6 y7 y8 y9 y10 y11 y12 y13 y14 y15 y16 hp (Nat.lt_succ_self _)
theorem s68 : S68 := C68 v68
theorem s53 : S53 := C53 s67 s68 s69 s70 v53
theorem s50 : S50 := C50 v50
theorem s26 : S26 := C26 s50 v26
theorem s66 : S66 := C66 v66
theorem s51 : S51 := C51 s66 v51
theorem s29 : S29 := C29 s51 v29
theorem s15 : S15 := C15 v15
theorem s37 : S37 := C37 v37
theorem s16 : S16 := C16 s37 v16
theorem s32 : S32 := C32 s26 v32
theorem s33 : S33 := C33 s29 v33
theorem s13 : S13 := C13 v13
theorem s14 : S14 := C14 v14
theorem s72 : S72 := C72 v72
theorem s61 : S61 := C61 s72 v61
theorem s36 : S36 := C36 v36
theorem s60 : S60 := C60 v60
theorem s59 : S59 := C59 s60 s61 v59
theorem s73_59 : S73_59 := C73_59 s59 v73_59
theorem s62_59 : S62_59 := C62_59 s73_59 v62_59
theorem s58 : S58 := C58 s61 s62_59 v58
theorem s41 : S41 := C41 s58 v41
theorem s27 : S27 := C27 v27
theorem s23 : S23 := C23 s24 v23
theorem s49_23 : S49_23 := C49_23 s23 v49_23
theorem s25_23 : S25_23 := C25_23 s49_23 v25_23
theorem s6 : S6 := C6 s25_23 s26 s27 v6
theorem s30 : S30 := C30 v30
theorem s31 : S31 := C31 v31
theorem s7 : S7 := C7 s28 s29 s30 s31 v7
theorem s35 : S35 := C35 v35
theorem s34_35 : S34_35 := C34_35 s35 v34_35
theorem s11 : S11 := C11 s27 s34_35 s36 s6 v11
theorem s12 : S12 := C12 s7 v12
theorem s9 : S9 := C9 s27 s32 s6 v9
theorem s10 : S10 := C10 s30 s33 s7 v10
theorem s38 : S38 := C38 s6 s9 v38
theorem s52 : S52 := C52 v52
theorem s55 : S55 := C55 v55
theorem s54_55 : S54_55 := C54_55 s55 v54_55
theorem s39 : S39 := C39 s52 s53 s54_55 v39
theorem s71 : S71 := C71 v71
theorem s56 : S56 := C56 s71 v56
theorem s40 : S40 := C40 s56 s57 v40
theorem s20 : S20 := C20 s38 s39 s40 s41 v20
theorem s18 : S18 := C18 s20 v18
theorem s43 : S43 := C43 v43
theorem s42_43 : S42_43 := C42_43 s43 v42_43
theorem s21 : S21 := C21 s42_43 s44 s45 s46 s6 s9 v21
theorem s22 : S22 := C22 (fun _ => v22)
theorem s19 : S19 := C19 s22 v19
theorem s8 : S8 := C8 v8
theorem s4 : S4 := C4 s17 v4
theorem s5 : S5 := C5 s11 s14 s16 s18 s19 s20 s21 s22 s6 s9 (fun _ => v5)
theorem own : ownKnob Try.prog.godebug = none := by kernel_rfl
theorem laidOut : laidOutB Try.prog = true := by kernel_rfl
end Go.Proofs.Yteahldlmkheleaa
