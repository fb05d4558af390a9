/- The walks chained: what the law returns, in terms of the specification. No condition. -/
import Derived.WalkKit
import Derived.ProofKit
import Derived.OpenShut
import Derived.ShutString
import Derived.ChangeOld
import Derived.Below
import Derived.Test.YtobeanopikjkeaaGreatRows
import Derived.Test.YtobeanopikjkeaaGreatGWalksL3a
import Derived.Test.YtobeanopikjkeaaGreatGWalksL3b
import Derived.Test.YtobeanopikjkeaaGreatGWalksL3c
import Derived.Test.YtobeanopikjkeaaGreatGWalksL3d
import Derived.Test.YtobeanopikjkeaaGreatGWalksL3e
import Derived.Test.YtobeanopikjkeaaGreatGWalksL3f
import Derived.Test.YtobeanopikjkeaaGreatGV29
import Derived.Test.YtobeanopikjkeaaGreatOp
import Derived.Test.YtobeanopikjkeaaGreatGX
import Derived.Test.YtobeanopikjkeaaGreatGK3
set_option linter.all false
namespace Go.Proofs.YtobeanopikjkeaaGreat
open Go Go.Sv Go.Op Go.ChangeShapes Go.WideShapes Go.ChangeAt Go.RowKit
def xd (x:cG):Prop:=inR .i64 x.State∧inR .i64 x.Kind∧inR .i64 x.Next∧inR .i64 x.Result
theorem Fs:vx Tryz.prog aF xd 123:=by
 intro H enc w base spare held fuel cs d ps h hw
 obtain ⟨hl,hf⟩:=pz Tryz.underlying123 h hw
 have hl:cs.length=4:=hl.trans (by kernel_rfl)
 obtain ⟨c0,c1,c2,c3,rfl⟩:=Pj hl
 clear hf
 obtain ⟨_,_,_,g0,w0⟩:=g7 Tryz.underlying123 h hw 0 (off:=0) (ft:=3) (k:=1) rfl rfl rfl (by kernel_rfl)
 obtain ⟨y0,r0,u0⟩:=(mA (bytes:=8) Tryz.underlying3) _ _ _ _ _ _ _ _ _ g0 w0
 have r0:tI.R w z0 [c0] y0:=r0
 cases r0
 obtain ⟨_,_,_,g1,w1⟩:=g7 Tryz.underlying123 h hw 1 (off:=1) (ft:=3) (k:=1) rfl rfl rfl (by kernel_rfl)
 obtain ⟨y1,r1,u1⟩:=(mA (bytes:=8) Tryz.underlying3) _ _ _ _ _ _ _ _ _ g1 w1
 have r1:tI.R w z0 [c1] y1:=r1
 cases r1
 obtain ⟨_,_,_,g2,w2⟩:=g7 Tryz.underlying123 h hw 2 (off:=2) (ft:=3) (k:=1) rfl rfl rfl (by kernel_rfl)
 obtain ⟨y2,r2,u2⟩:=(mA (bytes:=8) Tryz.underlying3) _ _ _ _ _ _ _ _ _ g2 w2
 have r2:tI.R w z0 [c2] y2:=r2
 cases r2
 obtain ⟨_,_,_,g3,w3⟩:=g7 Tryz.underlying123 h hw 3 (off:=3) (ft:=3) (k:=1) rfl rfl rfl (by kernel_rfl)
 obtain ⟨y3,r3,u3⟩:=(mA (bytes:=8) Tryz.underlying3) _ _ _ _ _ _ _ _ _ g3 w3
 have r3:tI.R w z0 [c3] y3:=r3
 cases r3
 exact ⟨⟨y0,y1,y2,y3⟩,rfl,u0,u1,u2,u3⟩
def xe (x:ah):Prop:=inR .i64 x.ab∧inR .i64 x.aP∧inR .i64 x.aU∧(∀ x6∈x.Rows,xd x6)
theorem xM:vx Tryz.prog xm xe 24:=by
 intro H enc w base spare held fuel cs d ps h hw
 obtain ⟨hl,hf⟩:=pz Tryz.underlying24 h hw
 have hl:cs.length=4:=hl.trans (by kernel_rfl)
 obtain ⟨c0,c1,c2,c3,rfl⟩:=Pj hl
 clear hf
 obtain ⟨_,_,_,g0,w0⟩:=g7 Tryz.underlying24 h hw 0 (off:=0) (ft:=3) (k:=1) rfl rfl rfl (by kernel_rfl)
 obtain ⟨y0,r0,u0⟩:=(mA (bytes:=8) Tryz.underlying3) _ _ _ _ _ _ _ _ _ g0 w0
 have r0:tI.R w z0 [c0] y0:=r0
 cases r0
 obtain ⟨_,_,_,g1,w1⟩:=g7 Tryz.underlying24 h hw 1 (off:=1) (ft:=3) (k:=1) rfl rfl rfl (by kernel_rfl)
 obtain ⟨y1,r1,u1⟩:=(mA (bytes:=8) Tryz.underlying3) _ _ _ _ _ _ _ _ _ g1 w1
 have r1:tI.R w z0 [c1] y1:=r1
 cases r1
 obtain ⟨_,_,_,g2,w2⟩:=g7 Tryz.underlying24 h hw 2 (off:=2) (ft:=3) (k:=1) rfl rfl rfl (by kernel_rfl)
 obtain ⟨y2,r2,u2⟩:=(mA (bytes:=8) Tryz.underlying3) _ _ _ _ _ _ _ _ _ g2 w2
 have r2:tI.R w z0 [c2] y2:=r2
 cases r2
 obtain ⟨_,_,_,g3,w3⟩:=g7 Tryz.underlying24 h hw 3 (off:=3) (ft:=22) (k:=1) rfl rfl rfl (by kernel_rfl)
 obtain ⟨y3,r3,u3⟩:=(BC Tryz.underlying22 (by kernel_rfl) (by kernel_rfl) Fs) _ _ _ _ _ _ _ _ _ g3 w3
 have r3:(aA aF).R w z0 [c3] y3:=r3
 obtain ⟨a3,k3,e3,q3⟩:=r3
 cases e3
 exact ⟨⟨y0,y1,y2,y3⟩,⟨a3,k3,rfl,q3⟩,u0,u1,u2,u3⟩
def CE (x:ae):Prop:=inR .i64 x.Prc∧inR .i64 x.Kind∧inR .i64 x.aN∧inR .i64 x.End∧inR .i64 x.Result
theorem Dc:vx Tryz.prog ar CE 91:=by
 intro H enc w base spare held fuel cs d ps h hw
 obtain ⟨hl,hf⟩:=pz Tryz.underlying91 h hw
 have hl:cs.length=5:=hl.trans (by kernel_rfl)
 obtain ⟨c0,c1,c2,c3,c4,rfl⟩:=To hl
 clear hf
 obtain ⟨_,_,_,g0,w0⟩:=g7 Tryz.underlying91 h hw 0 (off:=0) (ft:=3) (k:=1) rfl rfl rfl (by kernel_rfl)
 obtain ⟨y0,r0,u0⟩:=(mA (bytes:=8) Tryz.underlying3) _ _ _ _ _ _ _ _ _ g0 w0
 have r0:tI.R w z0 [c0] y0:=r0
 cases r0
 obtain ⟨_,_,_,g1,w1⟩:=g7 Tryz.underlying91 h hw 1 (off:=1) (ft:=3) (k:=1) rfl rfl rfl (by kernel_rfl)
 obtain ⟨y1,r1,u1⟩:=(mA (bytes:=8) Tryz.underlying3) _ _ _ _ _ _ _ _ _ g1 w1
 have r1:tI.R w z0 [c1] y1:=r1
 cases r1
 obtain ⟨_,_,_,g2,w2⟩:=g7 Tryz.underlying91 h hw 2 (off:=2) (ft:=3) (k:=1) rfl rfl rfl (by kernel_rfl)
 obtain ⟨y2,r2,u2⟩:=(mA (bytes:=8) Tryz.underlying3) _ _ _ _ _ _ _ _ _ g2 w2
 have r2:tI.R w z0 [c2] y2:=r2
 cases r2
 obtain ⟨_,_,_,g3,w3⟩:=g7 Tryz.underlying91 h hw 3 (off:=3) (ft:=3) (k:=1) rfl rfl rfl (by kernel_rfl)
 obtain ⟨y3,r3,u3⟩:=(mA (bytes:=8) Tryz.underlying3) _ _ _ _ _ _ _ _ _ g3 w3
 have r3:tI.R w z0 [c3] y3:=r3
 cases r3
 obtain ⟨_,_,_,g4,w4⟩:=g7 Tryz.underlying91 h hw 4 (off:=4) (ft:=3) (k:=1) rfl rfl rfl (by kernel_rfl)
 obtain ⟨y4,r4,u4⟩:=(mA (bytes:=8) Tryz.underlying3) _ _ _ _ _ _ _ _ _ g4 w4
 have r4:tI.R w z0 [c4] y4:=r4
 cases r4
 exact ⟨⟨y0,y1,y2,y3,y4⟩,rfl,u0,u1,u2,u3,u4⟩
theorem s5:S5:=x5
theorem s7:S7:=x7
theorem s9:S9:=x9
theorem s4:S4:=C4 v4
theorem s113:S113:=C113 v113
theorem s208:S208:=C208 v208
theorem s268:S268:=C268 v268
theorem s209:S209:=C209 s268 v209
theorem s155:S155:=C155 s208 s209 v155
theorem s114:S114:=C114 s113 s155 v114
theorem s55:S55:=C55 s113 s114 v55
theorem s87:S87:=C87 v87
theorem s88_87:S88_87:=C88_87 s87 v88_87
theorem s38:S38:=C38 s88_87 v38
theorem s67:S67:=C67 v67
theorem s156:S156:=C156 v156
theorem s115:S115:=C115 s156 v115
theorem s56:S56:=C56 s115 s67 v56
theorem s22:S22:=C22 s67 v22
theorem s162:S162:=C162 v162
theorem s59:S59:=C59 v59
theorem s73:S73:=C73 v73
theorem s25:S25:=C25 s59 s73 v25
theorem s65:S65:=C65 s59 s73 v65
theorem s34:S34:=C34 s55 s56 v34
theorem s210:S210:=C210 v210
theorem s157:S157:=C157 s59 v157
theorem s158:S158:=C158 s157 s210 v158
theorem s159:S159:=C159 s157 s210 v159
theorem s160:S160:=C160 s157 s210 v160
theorem s161:S161:=C161 s157 v161
theorem s163:S163:=C163 v163
theorem s116:S116:=C116 s157 s158 s159 s160 s161 s162 s163 s22 s56 v116
theorem s57:S57:=C57 s116 s25 v57
theorem s18:S18:=C18 s34 s55 s56 s57 v18
theorem s32:S32:=C32 s34 s55 s56 s57 v32
theorem s39:S39:=C39 s65 v39
theorem s61:S61:=C61 v61
theorem s60_61:S60_61:=C60_61 s61 s65 v60_61
theorem s63:S63:=C63 v63
theorem s60_63:S60_63:=C60_63 s63 s65 v60_63
theorem s62:S62:=C62 v62
theorem s20:S20:=C20 s59 s60_61 s60_63 s62 v20
theorem s66:S66:=C66 v66
theorem s64:S64:=C64 s65 v64
theorem s21:S21:=C21 s59 s64 s66 v21
theorem s68:S68:=C68 s65 v68
theorem s70:S70:=C70 s68 v70
theorem s69_70:S69_70:=C69_70 s70 v69_70
theorem s23:S23:=C23 s59 s62 s68 s69_70 v23
theorem s72:S72:=C72 s38 v72
theorem s71:S71:=C71 v71
theorem s117:S117:=C117 s65 v117
theorem s24:S24:=C24 s117 s34 s59 s71 s72 v24
theorem s58:S58:=C58 v58
theorem s19:S19:=C19 s58 v19
theorem s6:S6:=C6 s18 s19 s20 s21 s22 s23 s24 s25 v6
theorem s169:S169:=C169 v169
theorem s127:S127:=C127 s169 v127
theorem s85:S85:=C85 s127 v85
theorem s35:S35:=C35 s25 s59 s65 s85 v35
theorem s86:S86:=C86 s68 v86
theorem s69_86:S69_86:=C69_86 s86 v69_86
theorem s36:S36:=C36 s25 s59 s69_86 v36
theorem s126:S126:=C126 v126
theorem s108:S108:=C108 s126 v108
theorem s123:S123:=C123 s108 v123
theorem s124:S124:=C124 s72 v124
theorem s83:S83:=C83 s123 s124 s34 s59 v83
theorem s125:S125:=C125 s126 v125
theorem s84:S84:=C84 s125 v84
theorem s33:S33:=C33 s18 s22 s35 s36 s65 s83 s84 v33
theorem s37:S37:=C37 s38 v37
theorem s10:S10:=C10 s32 s33 s34 s35 s36 s37 s39 v10
theorem s121:S121:=C121 v121
theorem s80:S80:=C80 v80
theorem s122:S122:=C122 s80 v122
theorem s79:S79:=C79 s121 s122 v79
theorem s29:S29:=C29 s79 s80 v29
theorem s11:S11:=C11 v11
theorem s82:S82:=C82 v82
theorem s81:S81:=C81 v81
theorem s30:S30:=C30 s79 s81 s82 v30
theorem s28:S28:=C28 v28
theorem s8:S8:=C8 s28 s29 s30 v8
theorem own:ownKnob Tryz.prog.godebug=none:=by kernel_rfl
theorem laidOut:laidOutB Tryz.prog=true:=by kernel_rfl
end Go.Proofs.YtobeanopikjkeaaGreat
