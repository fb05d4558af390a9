/- The walks chained: the law in terms of the specification. -/
import Derived.WalkKit
import Derived.ProofKit
import Derived.OpenShut
import Derived.ShutString
import Derived.ChangeOld
import Derived.Below
import Derived.Test.YteahldlmkheleaaGreatRows
import Derived.Test.YteahldlmkheleaaGreatLWalksAa
import Derived.Test.YteahldlmkheleaaGreatLWalksAb
import Derived.Test.YteahldlmkheleaaGreatLWalksAc
import Derived.Test.YteahldlmkheleaaGreatLWalksAd
import Derived.Test.YteahldlmkheleaaGreatLWalksAe
import Derived.Test.YteahldlmkheleaaGreatLWalksAf
import Derived.Test.YteahldlmkheleaaGreatLWalksAg
import Derived.Test.YteahldlmkheleaaGreatLWalksAh
import Derived.Test.YteahldlmkheleaaGreatLWalksL3x4
import Derived.Test.YteahldlmkheleaaGreatLWalksL4
import Derived.Test.YteahldlmkheleaaGreatLV29
import Derived.Test.YteahldlmkheleaaGreatOp
set_option linter.all false
namespace Go.Proofs.YteahldlmkheleaaGreat
open Go Go.Sv Go.Op Go.ChangeShapes Go.WideShapes Go.ChangeAt Go.RowKit
def uP (x:bb):Prop:=inR .i64 x.State∧inR .i64 x.Kind∧inR .i64 x.Next∧inR .i64 x.Result
theorem BU:pO Tryz.prog aC uP 107:=by
  intro H enc w base spare held fuel cs d ps h hw
  obtain ⟨hl,hf⟩:=lu Tryz.underlying107 h hw
  have hl:cs.length=4:=hl.trans (by kernel_rfl)
  obtain ⟨c0,c1,c2,c3,rfl⟩:=GF hl
  clear hf
  obtain ⟨_,_,_,g0,w0⟩:=gw Tryz.underlying107 h hw 0 (off:=0) (ft:=3) (k:=1) rfl rfl rfl (by kernel_rfl)
  obtain ⟨y0,r0,u0⟩:=(mz (bytes:=8) Tryz.underlying3) _ _ _ _ _ _ _ _ _ g0 w0
  have r0:tI.R w z0 [c0] y0:=r0
  cases r0
  obtain ⟨_,_,_,g1,w1⟩:=gw Tryz.underlying107 h hw 1 (off:=1) (ft:=3) (k:=1) rfl rfl rfl (by kernel_rfl)
  obtain ⟨y1,r1,u1⟩:=(mz (bytes:=8) Tryz.underlying3) _ _ _ _ _ _ _ _ _ g1 w1
  have r1:tI.R w z0 [c1] y1:=r1
  cases r1
  obtain ⟨_,_,_,g2,w2⟩:=gw Tryz.underlying107 h hw 2 (off:=2) (ft:=3) (k:=1) rfl rfl rfl (by kernel_rfl)
  obtain ⟨y2,r2,u2⟩:=(mz (bytes:=8) Tryz.underlying3) _ _ _ _ _ _ _ _ _ g2 w2
  have r2:tI.R w z0 [c2] y2:=r2
  cases r2
  obtain ⟨_,_,_,g3,w3⟩:=gw Tryz.underlying107 h hw 3 (off:=3) (ft:=3) (k:=1) rfl rfl rfl (by kernel_rfl)
  obtain ⟨y3,r3,u3⟩:=(mz (bytes:=8) Tryz.underlying3) _ _ _ _ _ _ _ _ _ g3 w3
  have r3:tI.R w z0 [c3] y3:=r3
  cases r3
  exact ⟨⟨y0,y1,y2,y3⟩,rfl,u0,u1,u2,u3⟩
def px (x:aj):Prop:=inR .i64 x.au∧inR .i64 x.az∧inR .i64 x.aH∧(∀ x6∈x.Rows,uP x6)
theorem vo:pO Tryz.prog aB px 48:=by
  intro H enc w base spare held fuel cs d ps h hw
  obtain ⟨hl,hf⟩:=lu Tryz.underlying48 h hw
  have hl:cs.length=4:=hl.trans (by kernel_rfl)
  obtain ⟨c0,c1,c2,c3,rfl⟩:=GF hl
  clear hf
  obtain ⟨_,_,_,g0,w0⟩:=gw Tryz.underlying48 h hw 0 (off:=0) (ft:=3) (k:=1) rfl rfl rfl (by kernel_rfl)
  obtain ⟨y0,r0,u0⟩:=(mz (bytes:=8) Tryz.underlying3) _ _ _ _ _ _ _ _ _ g0 w0
  have r0:tI.R w z0 [c0] y0:=r0
  cases r0
  obtain ⟨_,_,_,g1,w1⟩:=gw Tryz.underlying48 h hw 1 (off:=1) (ft:=3) (k:=1) rfl rfl rfl (by kernel_rfl)
  obtain ⟨y1,r1,u1⟩:=(mz (bytes:=8) Tryz.underlying3) _ _ _ _ _ _ _ _ _ g1 w1
  have r1:tI.R w z0 [c1] y1:=r1
  cases r1
  obtain ⟨_,_,_,g2,w2⟩:=gw Tryz.underlying48 h hw 2 (off:=2) (ft:=3) (k:=1) rfl rfl rfl (by kernel_rfl)
  obtain ⟨y2,r2,u2⟩:=(mz (bytes:=8) Tryz.underlying3) _ _ _ _ _ _ _ _ _ g2 w2
  have r2:tI.R w z0 [c2] y2:=r2
  cases r2
  obtain ⟨_,_,_,g3,w3⟩:=gw Tryz.underlying48 h hw 3 (off:=3) (ft:=46) (k:=1) rfl rfl rfl (by kernel_rfl)
  obtain ⟨y3,r3,u3⟩:=(tR Tryz.underlying46 (by kernel_rfl) (by kernel_rfl) BU) _ _ _ _ _ _ _ _ _ g3 w3
  have r3:(cd aC).R w z0 [c3] y3:=r3
  obtain ⟨a3,k3,e3,q3⟩:=r3
  cases e3
  exact ⟨⟨y0,y1,y2,y3⟩,⟨a3,k3,rfl,q3⟩,u0,u1,u2,u3⟩
def qq (x:aw):Prop:=inR .i64 x.bo∧inR .i64 x.ak∧inR .i64 x.N
theorem xt:pO Tryz.prog aR qq 61:=by
  intro H enc w base spare held fuel cs d ps h hw
  obtain ⟨hl,hf⟩:=lu Tryz.underlying61 h hw
  have hl:cs.length=3:=hl.trans (by kernel_rfl)
  obtain ⟨c0,c1,c2,rfl⟩:=Lr hl
  clear hf
  obtain ⟨_,_,_,g0,w0⟩:=gw Tryz.underlying61 h hw 0 (off:=0) (ft:=3) (k:=1) rfl rfl rfl (by kernel_rfl)
  obtain ⟨y0,r0,u0⟩:=(mz (bytes:=8) Tryz.underlying3) _ _ _ _ _ _ _ _ _ g0 w0
  have r0:tI.R w z0 [c0] y0:=r0
  cases r0
  obtain ⟨_,_,_,g1,w1⟩:=gw Tryz.underlying61 h hw 1 (off:=1) (ft:=3) (k:=1) rfl rfl rfl (by kernel_rfl)
  obtain ⟨y1,r1,u1⟩:=(mz (bytes:=8) Tryz.underlying3) _ _ _ _ _ _ _ _ _ g1 w1
  have r1:tI.R w z0 [c1] y1:=r1
  cases r1
  obtain ⟨_,_,_,g2,w2⟩:=gw Tryz.underlying61 h hw 2 (off:=2) (ft:=3) (k:=1) rfl rfl rfl (by kernel_rfl)
  obtain ⟨y2,r2,u2⟩:=(mz (bytes:=8) Tryz.underlying3) _ _ _ _ _ _ _ _ _ g2 w2
  have r2:tI.R w z0 [c2] y2:=r2
  cases r2
  exact ⟨⟨y0,y1,y2⟩,rfl,u0,u1,u2⟩
def nY (x:bd):Prop:=inR .i64 x.aA∧qq x.aW
theorem tS:pO Tryz.prog aP nY 63:=by
  intro H enc w base spare held fuel cs d ps h hw
  obtain ⟨hl,hf⟩:=lu Tryz.underlying63 h hw
  have hl:cs.length=4:=hl.trans (by kernel_rfl)
  obtain ⟨c0,c1,c2,c3,rfl⟩:=GF hl
  clear hf
  obtain ⟨_,_,_,g0,w0⟩:=gw Tryz.underlying63 h hw 0 (off:=0) (ft:=3) (k:=1) rfl rfl rfl (by kernel_rfl)
  obtain ⟨y0,r0,u0⟩:=(mz (bytes:=8) Tryz.underlying3) _ _ _ _ _ _ _ _ _ g0 w0
  have r0:tI.R w z0 [c0] y0:=r0
  cases r0
  obtain ⟨_,_,_,g1,w1⟩:=gw Tryz.underlying63 h hw 1 (off:=1) (ft:=61) (k:=3) rfl rfl rfl (by kernel_rfl)
  obtain ⟨y1,r1,u1⟩:=xt _ _ _ _ _ _ _ _ _ g1 w1
  have r1:aR.R w z0 [c1,c2,c3] y1:=r1
  cases r1
  exact ⟨⟨y0,y1⟩,rfl,u0,u1⟩
def qp (x:al):Prop:=(∀ x9∈x.ae,px x9)∧(∀ x8∈x.aq,nY x8)
theorem qW:pO Tryz.prog qw qp 25:=by
  intro H enc w base spare held fuel cs d ps h hw
  obtain ⟨hl,hf⟩:=lu Tryz.underlying25 h hw
  have hl:cs.length=2:=hl.trans (by kernel_rfl)
  obtain ⟨c0,c1,rfl⟩:=Ls hl
  clear hf
  obtain ⟨_,_,_,g0,w0⟩:=gw Tryz.underlying25 h hw 0 (off:=0) (ft:=22) (k:=1) rfl rfl rfl (by kernel_rfl)
  obtain ⟨y0,r0,u0⟩:=(tR Tryz.underlying22 (by kernel_rfl) (by kernel_rfl) vo) _ _ _ _ _ _ _ _ _ g0 w0
  have r0:(cd aB).R w z0 [c0] y0:=r0
  obtain ⟨a0,k0,e0,q0⟩:=r0
  cases e0
  obtain ⟨_,_,_,g1,w1⟩:=gw Tryz.underlying25 h hw 1 (off:=1) (ft:=23) (k:=1) rfl rfl rfl (by kernel_rfl)
  obtain ⟨y1,r1,u1⟩:=(tR Tryz.underlying23 (by kernel_rfl) (by kernel_rfl) tS) _ _ _ _ _ _ _ _ _ g1 w1
  have r1:(cd aP).R w z0 [c1] y1:=r1
  obtain ⟨a1,k1,e1,q1⟩:=r1
  cases e1
  exact ⟨⟨y0,y1⟩,⟨a0,k0,a1,k1,rfl,q0,q1⟩,u0,u1⟩
theorem s21:S21:=C21 v21
theorem s81:S81:=C81 v81
theorem s107:S107:=C107 v107
theorem s113:S113:=C113 v113
theorem s108:S108:=C108 s113 v108
theorem s96:S96:=C96 s107 s108 v96
theorem s82:S82:=C82 s81 s96 v82
theorem s53:S53:=C53 s81 s82 v53
theorem s85:S85:=C85 s53 v85
theorem s86:S86:=C86 v86
theorem s110:S110:=C110 v110
theorem s111_110:S111_110:=C111_110 s110 v111_110
theorem s103:S103:=C103 s111_110 v103
theorem s109:S109:=C109 s103 v109
theorem s98:S98:=C98 s109 v98
theorem s97:S97:=C97 s98 v97
theorem s62:S62:=C62 s85 s86 s97 v62
theorem s33:S33:=C33 s62 v33
theorem s87:S87:=C87 v87
theorem s99:S99:=C99 v99
theorem s64:S64:=C64 s87 s99 v64
theorem s35:S35:=C35 s64 v35
theorem s63:S63:=C63 v63
theorem s34:S34:=C34 s63 v34
theorem s106:S106:=C106 v106
theorem s95:S95:=C95 s106 v95
theorem s80:S80:=C80 s63 s95 v80
theorem s51:S51:=C51 s33 s34 s35 s53 s80 v51
theorem s20:S20:=C20 s51 v20
theorem s66:S66:=C66 v66
theorem s68:S68:=C68 v68
theorem s65:S65:=C65 s68 v65
theorem s58:S58:=C58 v58
theorem s36:S36:=C36 s58 s65 v36
theorem s67:S67:=C67 v67
theorem s37:S37:=C37 s66 s67 v37
theorem s38:S38:=C38 s66 v38
theorem s39:S39:=C39 v39
theorem s114:S114:=C114 v114
theorem s112:S112:=C112 s114 s63 v112
theorem s105:S105:=C105 s103 s112 s53 v105
theorem s88:S88:=C88 s53 s80 v88
theorem s104:S104:=C104 v104
theorem s101:S101:=C101 v101
theorem s100:S100:=C100 v100
theorem nA:∀ N:Nat,S102N N∧S90N N
  | 0=>⟨(by intro w χ; intros; omega),(by intro w χ; intros; omega)⟩
  | N+1=>⟨C102 N s103 s104 (nA N).2 (v102 N),C90 N s100 s101 (nA N).1 s105 (v90 N)⟩
theorem s90:S90:=fun w χ y0 y1 y2 y3 y4 y5 y6 y7 y8 y9 O6 O5 O4 O3 O2 O1 O0 hp=>(nA (o3 y0 y1 y2+1)).2 w χ y0 y1 y2 y3 y4 y5 y6 y7 y8 y9 O6 O5 O4 O3 O2 O1 O0 hp (Nat.lt_succ_self _)
theorem s89:S89:=C89 v89
theorem s70:S70:=C70 s20 s88 s89 s90 v70
theorem s84:S84:=C84 v84
theorem s55:S55:=C55 s84 v55
theorem s94:S94:=C94 v94
theorem s79:S79:=C79 s94 v79
theorem s50:S50:=C50 s79 v50
theorem s57:S57:=C57 v57
theorem s26:S26:=C26 s57 v26
theorem s56:S56:=C56 s55 v56
theorem s18:S18:=C18 s50 v18
theorem s25:S25:=C25 v25
theorem s92:S92:=C92 v92
theorem s77:S77:=C77 s92 v77
theorem s49:S49:=C49 v49
theorem s76:S76:=C76 v76
theorem s75:S75:=C75 s76 s77 v75
theorem s93_75:S93_75:=C93_75 s75 v93_75
theorem s78_75:S78_75:=C78_75 s93_75 v78_75
theorem s74:S74:=C74 s77 s78_75 v74
theorem s44:S44:=C44 s74 v44
theorem s47:S47:=C47 v47
theorem s52:S52:=C52 s53 v52
theorem s83_52:S83_52:=C83_52 s52 v83_52
theorem s54_52:S54_52:=C54_52 s83_52 v54_52
theorem s23:S23:=C23 s47 s54_52 s55 v23
theorem s45:S45:=C45 v45
theorem s59:S59:=C59 v59
theorem s28:S28:=C28 s45 s50 s58 s59 v28
theorem s48:S48:=C48 v48
theorem s46_48:S46_48:=C46_48 s48 v46_48
theorem s17:S17:=C17 s23 s46_48 s47 s49 v17
theorem s24:S24:=C24 s23 s47 s56 v24
theorem s16:S16:=C16 s18 s28 s45 v16
theorem s41:S41:=C41 s23 s24 v41
theorem s69:S69:=C69 v69
theorem s72:S72:=C72 v72
theorem s71_72:S71_72:=C71_72 s72 v71_72
theorem s42:S42:=C42 s69 s70 s71_72 v42
theorem s91:S91:=C91 v91
theorem s73:S73:=C73 s91 v73
theorem s43:S43:=C43 s63 s73 v43
theorem s15:S15:=C15 s41 s42 s43 s44 v15
theorem s9:S9:=C9 s15 v9
theorem s32:S32:=C32 v32
theorem s31_32:S31_32:=C31_32 s32 v31_32
theorem s12:S12:=C12 s23 s24 s31_32 s33 s34 s35 v12
theorem s40:S40:=C40 s68 v40
theorem s13:S13:=C13 s16 s28 s36 s37 s38 v13
theorem s14:S14:=C14 s13 s16 s39 s40 v14
theorem s27:S27:=C27 (fun _=>v27)
theorem s22:S22:=C22 s27 v22
theorem s11:S11:=C11 v11
theorem s7:S7:=C7 v7
theorem s6:S6:=C6 s21 v6
theorem s8:S8:=C8 s12 s15 s17 s22 s23 s24 s25 s26 s27 s9 (fun _=>v8)
theorem own:ownKnob Tryz.prog.godebug=none:=by kernel_rfl
theorem laidOut:laidOutB Tryz.prog=true:=by kernel_rfl
end Go.Proofs.YteahldlmkheleaaGreat
