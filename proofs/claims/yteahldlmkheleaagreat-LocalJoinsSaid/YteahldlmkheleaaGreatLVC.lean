/- The conditions of the functions, in terms of their callees. -/
import Derived.Test.YteahldlmkheleaaGreatLSpec
set_option linter.all false
namespace Go.Proofs.YteahldlmkheleaaGreat
open Go Go.Sv
def VC21 (o_:ao) (Q:Bool->Prop):Prop :=
 sm o_.Rows ->
 Q (decide ((o_.Rows.length:Int)≤300))
def VC81 (n_:Int) (top:Int) (Q:Bool->Prop):Prop :=
 Q ((decide (n_≥0)) && (decide (n_ < top)))
def VC107_J1 (Q:Int->Prop):Prop :=
 Q 0
def VC107 (vals:List Int) (Q:Int->Prop):Prop :=
 sm vals ->
 ∃ (I1:Int->Prop) (μ1:Int->Nat),I1 0/\∀ (v102:Int),I1 v102 ->
 ((decide (v102 < (vals.length:Int)))=true ->
 ((0:Int)≤v102/\v102 < (vals.length:Int)) /\
 (((gi vals v102) != 0)=true ->
 Q (gi vals v102)) /\
 (((gi vals v102) != 0)=false ->
 I1 (IntKind.i64.wrap (v102+1))/\μ1 (IntKind.i64.wrap (v102+1)) < μ1 v102)) /\
 ((decide (v102 < (vals.length:Int)))=false ->
 VC107_J1 Q)
def VC113 (x_:Int) (Q:Bool->Prop):Prop :=
 Q (x_ != x_)
def VC108 (x_:Int) (y_:Int) (Q:Int->Prop):Prop :=
 ∀ ay,eY x_=ay ->
 ∀ bb,eY y_=bb ->
 (ay=true ->
 (bb=true ->
 Q 0) /\
 (bb=false ->
 Q (-1))) /\
 (ay=false ->
 (bb=true ->
 Q 1) /\
 (bb=false ->
 ((decide (x_ < y_))=true ->
 Q (-1)) /\
 ((decide (x_ < y_))=false ->
 ((decide (x_ > y_))=true ->
 Q 1) /\
 ((decide (x_ > y_))=false ->
 Q 0))))
def VC96 (a_:bc) (b_:bc) (Q:Int->Prop):Prop :=
 ∀ gE,dq a_.State b_.State=gE ->
 ∀ fB,dq a_.Kind b_.Kind=fB ->
 ∀ ir,gB [gE,fB]=ir ->
 Q ir
def VC82_J2 (Q:Int->Prop) (v114:Bool):Prop :=
 (v114=true ->
 Q 32) /\
 (v114=false ->
 Q 0)
def VC82_J1 (o_:ao) (i_:Int) (Q:Int->Prop) (v104:Bool):Prop :=
 (v104=true ->
 Q 30) /\
 (v104=false ->
 ∀ jj,b5 ((gi o_.Rows i_).Kind) o_.aA=jj ->
 ((!jj)=true ->
 Q 31) /\
 ((!jj)=false ->
 ∀ fX,b5 ((gi o_.Rows i_).Result) 1000001=fX ->
 ((!fX)=true ->
 Q 7) /\
 ((!fX)=false ->
 ((decide (i_ > 0))=true ->
 ((0:Int)≤(IntKind.i64.wrap (i_ - 1))/\(IntKind.i64.wrap (i_ - 1)) < (o_.Rows.length:Int)) /\
 ∀ vt,gx (gi o_.Rows (IntKind.i64.wrap (i_ - 1))) (gi o_.Rows i_)=vt ->
 VC82_J2 Q (decide (vt≥0))) /\
 ((decide (i_ > 0))=false ->
 VC82_J2 Q false))))
def VC82 (o_:ao) (i_:Int) (Q:Int->Prop):Prop :=
 sm o_.Rows ->
 ((0:Int)≤i_/\i_ < (o_.Rows.length:Int)) /\
 ∀ xG,b5 ((gi o_.Rows i_).State) o_.au=xG ->
 ((!xG)=true ->
 VC82_J1 o_ i_ Q true) /\
 ((!xG)=false ->
 ∀ jN,b5 ((gi o_.Rows i_).Next) o_.au=jN ->
 VC82_J1 o_ i_ Q (!jN))
def VC53_J2 (o_:ao) (Q:(Int × Int)->Prop):Prop :=
 Q ((o_.Rows.length:Int),0)
def VC53_J1 (o_:ao) (Q:(Int × Int)->Prop) (v101:Bool):Prop :=
 (v101=true ->
 Q ((-1),2)) /\
 (v101=false ->
 ∃ (I1:Int->Prop) (μ1:Int->Nat),I1 0/\∀ (v104:Int),I1 v104 ->
 ((decide (v104 < (o_.Rows.length:Int)))=true ->
 (preRow o_ v104) /\
 ∀ jj,iC o_ v104=jj ->
 ((jj != 0)=true ->
 Q (v104,jj)) /\
 ((jj != 0)=false ->
 I1 (IntKind.i64.wrap (v104+1))/\μ1 (IntKind.i64.wrap (v104+1)) < μ1 v104)) /\
 ((decide (v104 < (o_.Rows.length:Int)))=false ->
 VC53_J2 o_ Q))
def VC53 (o_:ao) (Q:Int × Int->Prop):Prop :=
 sm o_.Rows ->
 ∀ eK,b5 (IntKind.i64.wrap (o_.au - 1)) 32=eK ->
 ((!eK)=true ->
 VC53_J1 o_ Q true) /\
 ((!eK)=false ->
 ∀ fR,b5 (IntKind.i64.wrap (o_.aA - 1)) 64=fR ->
 ((!fR)=true ->
 VC53_J1 o_ Q true) /\
 ((!fR)=false ->
 ∀ An,b5 o_.aH o_.au=An ->
 VC53_J1 o_ Q (!An)))
def VC85 (o_:ao) (state:Int) (Q:Int->Prop):Prop :=
 sm o_.Rows ->
 (kJ o_) /\
 ∀ ay,bA o_=ay ->
 ((ay.2 != 0)=true ->
 Q 2) /\
 ((ay.2 != 0)=false ->
 (((decide (state < 0)) || (decide (state≥o_.au)))=true ->
 Q 30) /\
 (((decide (state < 0)) || (decide (state≥o_.au)))=false ->
 Q 0))
def VC86 (o_:ao) (l_:List ab) (state:Int) (Q:(List ab) × (List (Int × Int)) × ao × Int->Prop):Prop :=
 sm o_.Rows ->
 ∀ (_:sm l_),
 Q (l_,([]:List (Int × Int)),o_,state)
def VC110 (r_:bc) (aq:Int) (ax:Int) (Q:Bool->Prop):Prop :=
 Q (r_.State == aq && (r_.Kind == ax && (r_.Next == r_.Next && (r_.Result == r_.Result && true))))
def VC111_110_J1 (Q:Int->Prop):Prop :=
 Q (-1)
def VC111_110 (s_:List bc) (aq:Int) (ax:Int) (Q:Int->Prop):Prop :=
 sm s_ ->
 ∃ (I1:Int->Prop) (μ1:Int->Nat),I1 0/\∀ (v102:Int),I1 v102 ->
 ((decide (v102 < (s_.length:Int)))=true ->
 ((0:Int)≤v102/\v102 < (s_.length:Int)) /\
 ∀ jj,gJ (gi s_ v102) aq ax=jj ->
 (jj=true ->
 Q v102) /\
 (jj=false ->
 I1 (IntKind.i64.wrap (v102+1))/\μ1 (IntKind.i64.wrap (v102+1)) < μ1 v102)) /\
 ((decide (v102 < (s_.length:Int)))=false ->
 VC111_110_J1 Q)
def VC103 (o_:ao) (state:Int) (kind:Int) (Q:Int × Int × Bool->Prop):Prop :=
 sm o_.Rows ->
 ∀ ay,bl o_.Rows state kind=ay ->
 ((decide (ay < 0))=true ->
 Q (0,0,false)) /\
 ((decide (ay < 0))=false ->
 ((0:Int)≤ay/\ay < (o_.Rows.length:Int)) /\
 ((0:Int)≤ay/\ay < (o_.Rows.length:Int)) /\
 Q ((gi o_.Rows ay).Next,(gi o_.Rows ay).Result,true))
def VC109 (t_:im) (state:Int) (kind:Int) (Q:Int × Int × Bool->Prop):Prop :=
 sm t_.o.Rows ->
 ∀ ay,ct t_.o state kind=ay ->
 Q (ay.1,ay.2.1,ay.2.2)
def VC98 (o_:ao) (state:Int) (kind:Int) (result:Int) (Q:Int × Int->Prop):Prop :=
 sm o_.Rows ->
 (((decide (state < 0)) || (decide (state≥o_.au)))=true ->
 Q (0,30)) /\
 (((decide (state < 0)) || (decide (state≥o_.au)))=false ->
 ∀ ay,e6 (⟨o_⟩:im) state kind=ay ->
 (((!ay.2.2) || (ay.2.1 != result))=true ->
 Q (0,40)) /\
 (((!ay.2.2) || (ay.2.1 != result))=false ->
 Q (ay.1,0)))
def VC97_J1 (p_:aa) (ax:List (Int × Int)) (bF:Int) (Q:(Int × Int × (List (Int × Int)) × Int)->Prop) (bG:Int × Int) (v112:Int):Prop :=
 ((v112 != 0)=true ->
 Q (0,v112,dp ax p_.Oper (IntKind.i64.wrap (((aF ax p_.Oper).getD 0)+1)),bF)) /\
 ((v112 != 0)=false ->
 Q (bG.1,0,dp ax p_.Oper (IntKind.i64.wrap (((aF ax p_.Oper).getD 0)+1)),bG.1))
def VC97 (p_:aa) (aq:List ab) (ax:List (Int × Int)) (aP:ao) (bF:Int) (Q:Int × Int × (List (Int × Int)) × Int->Prop):Prop :=
 sm aq ->
 ∀ (_:sm aP.Rows),
 (((decide (p_.Oper < 0)) || (decide (p_.Oper≥(aq.length:Int))))=true ->
 Q (0,2,ax,bF)) /\
 (((decide (p_.Oper < 0)) || (decide (p_.Oper≥(aq.length:Int))))=false ->
 ((decide (((aF ax p_.Oper).getD 0) > 0))=true ->
 Q (0,21,ax,bF)) /\
 ((decide (((aF ax p_.Oper).getD 0) > 0))=false ->
 ((0:Int)≤p_.Oper/\p_.Oper < (aq.length:Int)) /\
 ∀ bG,iU aP bF ((gi aq p_.Oper).Kind) p_.Result=bG ->
 ((((bG.2 == 0) && (((gi aq p_.Oper).End) != (-1))) && (((gi aq p_.Oper).Result) != p_.Result))=true ->
 VC97_J1 p_ ax bF Q bG 40) /\
 ((((bG.2 == 0) && (((gi aq p_.Oper).End) != (-1))) && (((gi aq p_.Oper).Result) != p_.Result))=false ->
 VC97_J1 p_ ax bF Q bG bG.2)))
def VC62_J1 (aj:List aa) (Q:(Int × Int × Int)->Prop) (v126:Int):Prop :=
 Q (v126,(aj.length:Int),0)
def VC62 (o_:ao) (l_:List ab) (state:Int) (aj:List aa) (Q:Int × Int × Int->Prop):Prop :=
 sm o_.Rows ->
 ∀ (_:sm l_),
 sm aj ->
 (yT o_ state) /\
 ∀ ay,fY o_ state=ay ->
 ((ay != 0)=true ->
 Q (0,(-1),ay)) /\
 ((ay != 0)=false ->
 ∀ bb,en o_ l_ state=bb ->
 sm bb.1 ->
 ∀ (_:sm bb.2.2.1.Rows),
 ∃ (I1:Int->Int->(List (Int × Int))->Int->Prop) (μ1:Int->Int->(List (Int × Int))->Int->Nat),I1 state 0 bb.2.1 bb.2.2.2/\∀ (v128:Int) (v130:Int) (v132:List (Int × Int)) (v135:Int),I1 v128 v130 v132 v135 ->
 ((decide (v130 < (aj.length:Int)))=true ->
 ((0:Int)≤v130/\v130 < (aj.length:Int)) /\
 ∀ b9,dh (gi aj v130) bb.1 v132 bb.2.2.1 v135=b9 ->
 ((b9.2.1 != 0)=true ->
 Q (0,v130,b9.2.1)) /\
 ((b9.2.1 != 0)=false ->
 I1 b9.1 (IntKind.i64.wrap (v130+1)) b9.2.2.1 b9.2.2.2/\μ1 b9.1 (IntKind.i64.wrap (v130+1)) b9.2.2.1 b9.2.2.2 < μ1 v128 v130 v132 v135)) /\
 ((decide (v130 < (aj.length:Int)))=false ->
 VC62_J1 aj Q v128))
def VC33 (o_:ao) (l_:List ab) (aj:List aa) (Q:Int × Int × Int->Prop):Prop :=
 sm o_.Rows ->
 ∀ (_:sm l_),
 sm aj ->
 (yS o_ l_ o_.aH aj) /\
 ∀ ay,jr o_ l_ o_.aH aj=ay ->
 Q (ay.1,ay.2.1,ay.2.2)
def VC87_J1 (Q:((List (Int × Int)))->Prop) (v105:List (Int × Int)):Prop :=
 Q v105
def VC87 (aj:List aa) (Q:(List (Int × Int))->Prop):Prop :=
 sm aj ->
 ∃ (I1:Int->(List (Int × Int))->Prop) (μ1:Int->(List (Int × Int))->Nat),I1 0 ([]:List (Int × Int))/\∀ (v108:Int) (v109:List (Int × Int)),I1 v108 v109 ->
 ((decide (v108 < (aj.length:Int)))=true ->
 ((0:Int)≤v108/\v108 < (aj.length:Int)) /\
 I1 (IntKind.i64.wrap (v108+1)) (dp v109 ((gi aj v108).Oper) (IntKind.i64.wrap (((aF v109 ((gi aj v108).Oper)).getD 0)+1)))/\μ1 (IntKind.i64.wrap (v108+1)) (dp v109 ((gi aj v108).Oper) (IntKind.i64.wrap (((aF v109 ((gi aj v108).Oper)).getD 0)+1))) < μ1 v108 v109) /\
 ((decide (v108 < (aj.length:Int)))=false ->
 VC87_J1 Q v109)
def VC99 (i_:Int) (aq:List (Int × Int)) (Q:Bool->Prop):Prop :=
 Q (((aF aq i_).getD 0) == 0)
def VC64_J1 (Q:((List Int))->Prop) (v109:List Int):Prop :=
 Q v109
def VC64_J2 (I1:(List Int)->Int->Prop) (μ1:(List Int)->Int->Nat) (v115:List Int) (v120:Int) (v122:List Int):Prop :=
 I1 v122 (IntKind.i64.wrap (v120+1))/\μ1 v122 (IntKind.i64.wrap (v120+1)) < μ1 v115 v120
def VC64_J3 (I1:(List Int)->Int->Prop) (μ1:(List Int)->Int->Nat) (v115:List Int) (v120:Int) (v131:List Int) (v136:Bool):Prop :=
 (v136=true ->
 (v131.length+[v120].length≤1099511627776) /\
 VC64_J2 I1 μ1 v115 v120 (v131++[v120])) /\
 (v136=false ->
 VC64_J2 I1 μ1 v115 v120 v131)
def VC64 (l_:List ab) (aj:List aa) (pending:Bool) (Q:(List Int)->Prop):Prop :=
 sm l_ ->
 ∀ (_:sm aj),
 ∀ ay,fx aj=ay ->
 ∃ (I1:(List Int)->Int->Prop) (μ1:(List Int)->Int->Nat),I1 [] 0/\∀ (v115:List Int) (v120:Int),I1 v115 v120 ->
 ((decide (v120 < (l_.length:Int)))=true ->
 ((0:Int)≤v120/\v120 < (l_.length:Int)) /\
 (((((gi l_ v120).End) == (-1)) == pending)=true ->
 ∀ Ak,fw v120 ay=Ak ->
 VC64_J3 I1 μ1 v115 v120 v115 Ak) /\
 (((((gi l_ v120).End) == (-1)) == pending)=false ->
 VC64_J3 I1 μ1 v115 v120 v115 false)) /\
 ((decide (v120 < (l_.length:Int)))=false ->
 VC64_J1 Q v115)
def VC35 (l_:List ab) (aj:List aa) (Q:(List Int)->Prop):Prop :=
 sm l_ ->
 ∀ (_:sm aj),
 (vu l_ aj false) /\
 ∀ ay,ec l_ aj false=ay ->
 sm ay ->
 Q ay
def VC63 (a_:ab) (b_:ab) (Q:Bool->Prop):Prop :=
 Q ((decide (a_.End≥0)) && (decide (a_.End < b_.aG)))
def VC34_J1 (Q:Int->Prop):Prop :=
 Q (-1)
def VC34_J2 (I1:(List (Int × Int))->Int->Prop) (μ1:(List (Int × Int))->Int->Nat) (v106:List (Int × Int)) (v109:Int) (v111:List (Int × Int)):Prop :=
 I1 v111 (IntKind.i64.wrap (v109+1))/\μ1 v111 (IntKind.i64.wrap (v109+1)) < μ1 v106 v109
def VC34_J3 (aj:List aa) (I1:(List (Int × Int))->Int->Prop) (μ1:(List (Int × Int))->Int->Nat) (v106:List (Int × Int)) (v109:Int):Prop :=
 VC34_J2 I1 μ1 v106 v109 (dp v106 ((gi aj v109).Oper) (IntKind.i64.wrap (((aF v106 ((gi aj v109).Oper)).getD 0)+1)))
def VC34_J4 (Q:Int->Prop) (v109:Int) (I2:Int->Prop) (μ2:Int->Nat) (v127:Int) (v135:Bool):Prop :=
 (v135=true ->
 Q v109) /\
 (v135=false ->
 I2 (IntKind.i64.wrap (v127+1))/\μ2 (IntKind.i64.wrap (v127+1)) < μ2 v127)
def VC34 (l_:List ab) (aj:List aa) (Q:Int->Prop):Prop :=
 sm l_ ->
 ∀ (_:sm aj),
 ∃ (I1:(List (Int × Int))->Int->Prop) (μ1:(List (Int × Int))->Int->Nat),I1 ([]:List (Int × Int)) 0/\∀ (v106:List (Int × Int)) (v109:Int),I1 v106 v109 ->
 ((decide (v109 < (aj.length:Int)))=true ->
 ((0:Int)≤v109/\v109 < (aj.length:Int)) /\
 (((decide (((gi aj v109).Oper) < 0)) || (decide (((gi aj v109).Oper)≥(l_.length:Int))))=true ->
 VC34_J2 I1 μ1 v106 v109 v106) /\
 (((decide (((gi aj v109).Oper) < 0)) || (decide (((gi aj v109).Oper)≥(l_.length:Int))))=false ->
 ∃ (I2:Int->Prop) (μ2:Int->Nat),I2 0/\∀ (v127:Int),I2 v127 ->
 ((decide (v127 < (l_.length:Int)))=true ->
 ((0:Int)≤v127/\v127 < (l_.length:Int)) /\
 ((0:Int)≤((gi aj v109).Oper)/\((gi aj v109).Oper) < (l_.length:Int)) /\
 ∀ gN,bf (gi l_ v127) (gi l_ ((gi aj v109).Oper))=gN ->
 (gN=true ->
 VC34_J4 Q v109 I2 μ2 v127 (((aF v106 v127).getD 0) == 0)) /\
 (gN=false ->
 VC34_J4 Q v109 I2 μ2 v127 false)) /\
 ((decide (v127 < (l_.length:Int)))=false ->
 VC34_J3 aj I1 μ1 v106 v109))) /\
 ((decide (v109 < (aj.length:Int)))=false ->
 VC34_J1 Q)
def VC106 (o_:ab) (Q:Bool->Prop):Prop :=
 ((o_.End == (-1))=true ->
 Q (o_.Result == (-1))) /\
 ((o_.End == (-1))=false ->
 Q ((((decide (o_.End > o_.aG)) && (decide (o_.End≤9999))) && (decide (o_.Result≥0))) && (decide (o_.Result≤1000000))))
def VC95 (o_:ab) (Q:Int->Prop):Prop :=
 (((((decide (o_.ah < 1)) || (decide (o_.ah > 1000))) || (decide (o_.aG < 0))) || (decide (o_.aG > 9999)))=true ->
 Q 2) /\
 (((((decide (o_.ah < 1)) || (decide (o_.ah > 1000))) || (decide (o_.aG < 0))) || (decide (o_.aG > 9999)))=false ->
 (((decide (o_.Kind < 0)) || (decide (o_.Kind≥64)))=true ->
 Q 31) /\
 (((decide (o_.Kind < 0)) || (decide (o_.Kind≥64)))=false ->
 ∀ ay,eu o_=ay ->
 ((!ay)=true ->
 Q 7) /\
 ((!ay)=false ->
 Q 0)))
def VC80_J1 (l_:List ab) (Q:(Int × Int)->Prop):Prop :=
 Q ((l_.length:Int),0)
def VC80_J2 (l_:List ab) (I1:(List (Int × Int))->(List (Int × ab))->Int->Prop) (μ1:(List (Int × Int))->(List (Int × ab))->Int->Nat) (v111:List (Int × Int)) (v113:List (Int × ab)) (v116:Int) (v118:List (Int × Int)):Prop :=
 I1 v118 (dp v113 ((gi l_ v116).ah) (gi l_ v116)) (IntKind.i64.wrap (v116+1))/\μ1 v118 (dp v113 ((gi l_ v116).ah) (gi l_ v116)) (IntKind.i64.wrap (v116+1)) < μ1 v111 v113 v116
def VC80_J4 (l_:List ab) (Q:(Int × Int)->Prop) (I1:(List (Int × Int))->(List (Int × ab))->Int->Prop) (μ1:(List (Int × Int))->(List (Int × ab))->Int->Nat) (v111:List (Int × Int)) (v113:List (Int × ab)) (v116:Int) (v139:Bool):Prop :=
 (v139=true ->
 Q (v116,33)) /\
 (v139=false ->
 ((decide (((gi l_ v116).End)≥0))=true ->
 VC80_J2 l_ I1 μ1 v111 v113 v116 (dp (dp v111 ((gi l_ v116).aG) (IntKind.i64.wrap (((aF v111 ((gi l_ v116).aG)).getD 0)+1))) ((gi l_ v116).End) (IntKind.i64.wrap (((aF (dp v111 ((gi l_ v116).aG) (IntKind.i64.wrap (((aF v111 ((gi l_ v116).aG)).getD 0)+1))) ((gi l_ v116).End)).getD 0)+1)))) /\
 ((decide (((gi l_ v116).End)≥0))=false ->
 VC80_J2 l_ I1 μ1 v111 v113 v116 (dp v111 ((gi l_ v116).aG) (IntKind.i64.wrap (((aF v111 ((gi l_ v116).aG)).getD 0)+1)))))
def VC80_J3 (l_:List ab) (Q:(Int × Int)->Prop) (I1:(List (Int × Int))->(List (Int × ab))->Int->Prop) (μ1:(List (Int × Int))->(List (Int × ab))->Int->Nat) (v111:List (Int × Int)) (v113:List (Int × ab)) (v116:Int) (v133:Bool):Prop :=
 (v133=true ->
 Q (v116,32)) /\
 (v133=false ->
 (((aF v113 ((gi l_ v116).ah)).isSome)=true ->
 ∀ o5,bf ((aF v113 ((gi l_ v116).ah)).getD (⟨0,0,0,0,0⟩:ab)) (gi l_ v116)=o5 ->
 VC80_J4 l_ Q I1 μ1 v111 v113 v116 (!o5)) /\
 (((aF v113 ((gi l_ v116).ah)).isSome)=false ->
 VC80_J4 l_ Q I1 μ1 v111 v113 v116 false))
def VC80 (l_:List ab) (Q:Int × Int->Prop):Prop :=
 sm l_ ->
 ((decide ((l_.length:Int) > 5000))=true ->
 Q (0,3)) /\
 ((decide ((l_.length:Int) > 5000))=false ->
 ∃ (I1:(List (Int × Int))->(List (Int × ab))->Int->Prop) (μ1:(List (Int × Int))->(List (Int × ab))->Int->Nat),I1 ([]:List (Int × Int)) ([]:List (Int × ab)) 0/\∀ (v111:List (Int × Int)) (v113:List (Int × ab)) (v116:Int),I1 v111 v113 v116 ->
 ((decide (v116 < (l_.length:Int)))=true ->
 ((0:Int)≤v116/\v116 < (l_.length:Int)) /\
 ∀ bU,dk (gi l_ v116)=bU ->
 ((bU != 0)=true ->
 Q (v116,bU)) /\
 ((bU != 0)=false ->
 ((decide (v116 > 0))=true ->
 ((0:Int)≤(IntKind.i64.wrap (v116 - 1))/\(IntKind.i64.wrap (v116 - 1)) < (l_.length:Int)) /\
 ((decide (((gi l_ v116).aG)≤((gi l_ (IntKind.i64.wrap (v116 - 1))).aG)))=true ->
 VC80_J3 l_ Q I1 μ1 v111 v113 v116 true) /\
 ((decide (((gi l_ v116).aG)≤((gi l_ (IntKind.i64.wrap (v116 - 1))).aG)))=false ->
 ((decide (((aF v111 ((gi l_ v116).aG)).getD 0) > 0))=true ->
 VC80_J3 l_ Q I1 μ1 v111 v113 v116 true) /\
 ((decide (((aF v111 ((gi l_ v116).aG)).getD 0) > 0))=false ->
 ((decide (((gi l_ v116).End)≥0))=true ->
 VC80_J3 l_ Q I1 μ1 v111 v113 v116 (decide (((aF v111 ((gi l_ v116).End)).getD 0) > 0))) /\
 ((decide (((gi l_ v116).End)≥0))=false ->
 VC80_J3 l_ Q I1 μ1 v111 v113 v116 false)))) /\
 ((decide (v116 > 0))=false ->
 ((decide (((aF v111 ((gi l_ v116).aG)).getD 0) > 0))=true ->
 VC80_J3 l_ Q I1 μ1 v111 v113 v116 true) /\
 ((decide (((aF v111 ((gi l_ v116).aG)).getD 0) > 0))=false ->
 ((decide (((gi l_ v116).End)≥0))=true ->
 VC80_J3 l_ Q I1 μ1 v111 v113 v116 (decide (((aF v111 ((gi l_ v116).End)).getD 0) > 0))) /\
 ((decide (((gi l_ v116).End)≥0))=false ->
 VC80_J3 l_ Q I1 μ1 v111 v113 v116 false))))) /\
 ((decide (v116 < (l_.length:Int)))=false ->
 VC80_J1 l_ Q))
def VC51 (o_:ao) (l_:List ab) (aj:List aa) (Q:Int × Int->Prop):Prop :=
 sm o_.Rows ->
 ∀ (_:sm l_),
 sm aj ->
 (kJ o_) /\
 ∀ ay,bA o_=ay ->
 ∀ bb,cn l_=bb ->
 (((ay.2 != 0) || (bb.2 != 0))=true ->
 Q ((-1),2)) /\
 (((ay.2 != 0) || (bb.2 != 0))=false ->
 (kS o_ l_ aj) /\
 ∀ bM,cd o_ l_ aj=bM ->
 ((bM.2.2 != 0)=true ->
 Q (bM.2.1,bM.2.2)) /\
 ((bM.2.2 != 0)=false ->
 ∀ p3,cB l_ aj=p3 ->
 ((decide (p3≥0))=true ->
 Q (p3,42)) /\
 ((decide (p3≥0))=false ->
 (qH l_ aj) /\
 ∀ j7,b8 l_ aj=j7 ->
 sm j7 ->
 ((decide ((j7.length:Int) > 0))=true ->
 ((0:Int)≤0/\0 < (j7.length:Int)) /\
 Q (gi j7 0,41)) /\
 ((decide ((j7.length:Int) > 0))=false ->
 Q ((aj.length:Int),0)))))
def VC20 (o_:ao) (l_:List ab) (aj:List aa) (Q:Bool->Prop):Prop :=
 sm o_.Rows ->
 ∀ (_:sm l_),
 sm aj ->
 (kS o_ l_ aj) /\
 ∀ ay,eU o_ l_ aj=ay ->
 Q (ay.2 == 0)
def VC66_J1 (Q:Int->Prop):Prop :=
 Q (-1)
def VC66 (aj:List aa) (i_:Int) (Q:Int->Prop):Prop :=
 sm aj ->
 ∃ (I1:Int->Prop) (μ1:Int->Nat),I1 0/\∀ (v102:Int),I1 v102 ->
 ((decide (v102 < (aj.length:Int)))=true ->
 ((0:Int)≤v102/\v102 < (aj.length:Int)) /\
 ((((gi aj v102).Oper) == i_)=true ->
 Q v102) /\
 ((((gi aj v102).Oper) == i_)=false ->
 I1 (IntKind.i64.wrap (v102+1))/\μ1 (IntKind.i64.wrap (v102+1)) < μ1 v102)) /\
 ((decide (v102 < (aj.length:Int)))=false ->
 VC66_J1 Q)
def VC68_J1 (Q:(Int × Int × Bool)->Prop):Prop :=
 Q (0,0,false)
def VC68_J2 (o_:ao) (Q:(Int × Int × Bool)->Prop) (I1:Int->Prop) (μ1:Int->Nat) (v101:Int) (v103:Bool):Prop :=
 (v103=true ->
 ((0:Int)≤v101/\v101 < (o_.Rows.length:Int)) /\
 ((0:Int)≤v101/\v101 < (o_.Rows.length:Int)) /\
 Q ((gi o_.Rows v101).Next,(gi o_.Rows v101).Result,true)) /\
 (v103=false ->
 I1 (IntKind.i64.wrap (v101+1))/\μ1 (IntKind.i64.wrap (v101+1)) < μ1 v101)
def VC68 (o_:ao) (state:Int) (kind:Int) (Q:Int × Int × Bool->Prop):Prop :=
 sm o_.Rows ->
 ∃ (I1:Int->Prop) (μ1:Int->Nat),I1 0/\∀ (v101:Int),I1 v101 ->
 ((decide (v101 < (o_.Rows.length:Int)))=true ->
 ((0:Int)≤v101/\v101 < (o_.Rows.length:Int)) /\
 ((((gi o_.Rows v101).State) == state)=true ->
 ((0:Int)≤v101/\v101 < (o_.Rows.length:Int)) /\
 VC68_J2 o_ Q I1 μ1 v101 (((gi o_.Rows v101).Kind) == kind)) /\
 ((((gi o_.Rows v101).State) == state)=false ->
 VC68_J2 o_ Q I1 μ1 v101 false)) /\
 ((decide (v101 < (o_.Rows.length:Int)))=false ->
 VC68_J1 Q)
def VC65 (o_:ao) (state:Int) (kind:Int) (result:Int) (Q:Int × Int->Prop):Prop :=
 sm o_.Rows ->
 (((decide (state < 0)) || (decide (state≥o_.au)))=true ->
 Q (0,30)) /\
 (((decide (state < 0)) || (decide (state≥o_.au)))=false ->
 ∀ ay,cC o_ state kind=ay ->
 (((!ay.2.2) || (ay.2.1 != result))=true ->
 Q (0,40)) /\
 (((!ay.2.2) || (ay.2.1 != result))=false ->
 Q (ay.1,0)))
def VC58_J1 (o_:ao) (Q:(Int × Int)->Prop):Prop :=
 Q ((o_.Rows.length:Int),0)
def VC58_J2 (Q:(Int × Int)->Prop) (I1:Int->Prop) (μ1:Int->Nat) (v102:Int) (v107:Bool):Prop :=
 (v107=true ->
 Q (v102,32)) /\
 (v107=false ->
 I1 (IntKind.i64.wrap (v102+1))/\μ1 (IntKind.i64.wrap (v102+1)) < μ1 v102)
def VC58 (o_:ao) (Q:Int × Int->Prop):Prop :=
 sm o_.Rows ->
 (((((((decide (o_.au < 1)) || (decide (o_.au > 32))) || (decide (o_.aA < 1))) || (decide (o_.aA > 64))) || (decide (o_.aH < 0))) || (decide (o_.aH≥o_.au)))=true ->
 Q ((-1),2)) /\
 (((((((decide (o_.au < 1)) || (decide (o_.au > 32))) || (decide (o_.aA < 1))) || (decide (o_.aA > 64))) || (decide (o_.aH < 0))) || (decide (o_.aH≥o_.au)))=false ->
 ∃ (I1:Int->Prop) (μ1:Int->Nat),I1 0/\∀ (v102:Int),I1 v102 ->
 ((decide (v102 < (o_.Rows.length:Int)))=true ->
 ((0:Int)≤v102/\v102 < (o_.Rows.length:Int)) /\
 (((((decide (((gi o_.Rows v102).State) < 0)) || (decide (((gi o_.Rows v102).State)≥o_.au))) || (decide (((gi o_.Rows v102).Next) < 0))) || (decide (((gi o_.Rows v102).Next)≥o_.au)))=true ->
 Q (v102,30)) /\
 (((((decide (((gi o_.Rows v102).State) < 0)) || (decide (((gi o_.Rows v102).State)≥o_.au))) || (decide (((gi o_.Rows v102).Next) < 0))) || (decide (((gi o_.Rows v102).Next)≥o_.au)))=false ->
 (((decide (((gi o_.Rows v102).Kind) < 0)) || (decide (((gi o_.Rows v102).Kind)≥o_.aA)))=true ->
 Q (v102,31)) /\
 (((decide (((gi o_.Rows v102).Kind) < 0)) || (decide (((gi o_.Rows v102).Kind)≥o_.aA)))=false ->
 (((decide (((gi o_.Rows v102).Result) < 0)) || (decide (((gi o_.Rows v102).Result) > 1000000)))=true ->
 Q (v102,7)) /\
 (((decide (((gi o_.Rows v102).Result) < 0)) || (decide (((gi o_.Rows v102).Result) > 1000000)))=false ->
 ((decide (v102 > 0))=true ->
 ((0:Int)≤(IntKind.i64.wrap (v102 - 1))/\(IntKind.i64.wrap (v102 - 1)) < (o_.Rows.length:Int)) /\
 ((decide (((gi o_.Rows (IntKind.i64.wrap (v102 - 1))).State) > ((gi o_.Rows v102).State)))=true ->
 VC58_J2 Q I1 μ1 v102 true) /\
 ((decide (((gi o_.Rows (IntKind.i64.wrap (v102 - 1))).State) > ((gi o_.Rows v102).State)))=false ->
 ((0:Int)≤(IntKind.i64.wrap (v102 - 1))/\(IntKind.i64.wrap (v102 - 1)) < (o_.Rows.length:Int)) /\
 ((((gi o_.Rows (IntKind.i64.wrap (v102 - 1))).State) == ((gi o_.Rows v102).State))=true ->
 ((0:Int)≤(IntKind.i64.wrap (v102 - 1))/\(IntKind.i64.wrap (v102 - 1)) < (o_.Rows.length:Int)) /\
 VC58_J2 Q I1 μ1 v102 (decide (((gi o_.Rows (IntKind.i64.wrap (v102 - 1))).Kind)≥((gi o_.Rows v102).Kind)))) /\
 ((((gi o_.Rows (IntKind.i64.wrap (v102 - 1))).State) == ((gi o_.Rows v102).State))=false ->
 VC58_J2 Q I1 μ1 v102 false))) /\
 ((decide (v102 > 0))=false ->
 VC58_J2 Q I1 μ1 v102 false))))) /\
 ((decide (v102 < (o_.Rows.length:Int)))=false ->
 VC58_J1 o_ Q))
def VC36_J1 (aj:List aa) (Q:(Int × Int × Int)->Prop) (v105:Int):Prop :=
 Q (v105,(aj.length:Int),0)
def VC36_J3 (Q:(Int × Int × Int)->Prop) (I1:Int->Int->Prop) (μ1:Int->Int->Nat) (v108:Int) (v110:Int) (bU:Int × Int) (v131:Bool):Prop :=
 (v131=true ->
 Q (0,v110,40)) /\
 (v131=false ->
 I1 bU.1 (IntKind.i64.wrap (v110+1))/\μ1 bU.1 (IntKind.i64.wrap (v110+1)) < μ1 v108 v110)
def VC36_J2 (o_:ao) (l_:List ab) (aj:List aa) (Q:(Int × Int × Int)->Prop) (I1:Int->Int->Prop) (μ1:Int->Int->Nat) (v108:Int) (v110:Int):Prop :=
 ((0:Int)≤((gi aj v110).Oper)/\((gi aj v110).Oper) < (l_.length:Int)) /\
 ∀ bU,dj o_ v108 ((gi l_ ((gi aj v110).Oper)).Kind) ((gi aj v110).Result)=bU ->
 ((bU.2 != 0)=true ->
 Q (0,v110,bU.2)) /\
 ((bU.2 != 0)=false ->
 ((0:Int)≤((gi aj v110).Oper)/\((gi aj v110).Oper) < (l_.length:Int)) /\
 ((((gi l_ ((gi aj v110).Oper)).End) != (-1))=true ->
 ((0:Int)≤((gi aj v110).Oper)/\((gi aj v110).Oper) < (l_.length:Int)) /\
 VC36_J3 Q I1 μ1 v108 v110 bU (((gi l_ ((gi aj v110).Oper)).Result) != ((gi aj v110).Result))) /\
 ((((gi l_ ((gi aj v110).Oper)).End) != (-1))=false ->
 VC36_J3 Q I1 μ1 v108 v110 bU false))
def VC36 (o_:ao) (l_:List ab) (state:Int) (aj:List aa) (Q:Int × Int × Int->Prop):Prop :=
 sm o_.Rows ->
 ∀ (_:sm l_),
 sm aj ->
 ∀ ay,cU o_=ay ->
 ((ay.2 != 0)=true ->
 Q (0,(-1),2)) /\
 ((ay.2 != 0)=false ->
 (((decide (state < 0)) || (decide (state≥o_.au)))=true ->
 Q (0,(-1),30)) /\
 (((decide (state < 0)) || (decide (state≥o_.au)))=false ->
 ∃ (I1:Int->Int->Prop) (μ1:Int->Int->Nat),I1 state 0/\∀ (v108:Int) (v110:Int),I1 v108 v110 ->
 ((decide (v110 < (aj.length:Int)))=true ->
 ((0:Int)≤v110/\v110 < (aj.length:Int)) /\
 (((decide (((gi aj v110).Oper) < 0)) || (decide (((gi aj v110).Oper)≥(l_.length:Int))))=true ->
 Q (0,v110,2)) /\
 (((decide (((gi aj v110).Oper) < 0)) || (decide (((gi aj v110).Oper)≥(l_.length:Int))))=false ->
 ∃ (I2:Int->Prop) (μ2:Int->Nat),I2 0/\∀ (v149:Int),I2 v149 ->
 ((decide (v149 < v110))=true ->
 ((0:Int)≤v149/\v149 < (aj.length:Int)) /\
 ((((gi aj v149).Oper) == ((gi aj v110).Oper))=true ->
 Q (0,v110,21)) /\
 ((((gi aj v149).Oper) == ((gi aj v110).Oper))=false ->
 I2 (IntKind.i64.wrap (v149+1))/\μ2 (IntKind.i64.wrap (v149+1)) < μ2 v149)) /\
 ((decide (v149 < v110))=false ->
 VC36_J2 o_ l_ aj Q I1 μ1 v108 v110))) /\
 ((decide (v110 < (aj.length:Int)))=false ->
 VC36_J1 aj Q v108)))
def VC67 (a_:ab) (b_:ab) (Q:Bool->Prop):Prop :=
 Q ((decide (a_.End≥0)) && (decide (b_.aG > a_.End)))
def VC37_J1 (Q:Int->Prop):Prop :=
 Q (-1)
def VC37_J2 (I1:Int->Prop) (μ1:Int->Nat) (v103:Int):Prop :=
 I1 (IntKind.i64.wrap (v103+1))/\μ1 (IntKind.i64.wrap (v103+1)) < μ1 v103
def VC37_J3 (Q:Int->Prop) (v103:Int) (I2:Int->Prop) (μ2:Int->Nat) (v113:Int) (v120:Bool):Prop :=
 (v120=true ->
 Q v103) /\
 (v120=false ->
 I2 (IntKind.i64.wrap (v113+1))/\μ2 (IntKind.i64.wrap (v113+1)) < μ2 v113)
def VC37 (l_:List ab) (aj:List aa) (Q:Int->Prop):Prop :=
 sm l_ ->
 ∀ (_:sm aj),
 ∃ (I1:Int->Prop) (μ1:Int->Nat),I1 0/\∀ (v103:Int),I1 v103 ->
 ((decide (v103 < (aj.length:Int)))=true ->
 ((0:Int)≤v103/\v103 < (aj.length:Int)) /\
 ∃ (I2:Int->Prop) (μ2:Int->Nat),I2 0/\∀ (v113:Int),I2 v113 ->
 ((((decide (v113 < (l_.length:Int))) && (decide (((gi aj v103).Oper)≥0))) && (decide (((gi aj v103).Oper) < (l_.length:Int))))=true ->
 ∀ eK,cl aj v113=eK ->
 ((0:Int)≤v113/\v113 < (l_.length:Int)) /\
 ((0:Int)≤((gi aj v103).Oper)/\((gi aj v103).Oper) < (l_.length:Int)) /\
 ∀ gP,js (gi l_ v113) (gi l_ ((gi aj v103).Oper))=gP ->
 (gP=true ->
 VC37_J3 Q v103 I2 μ2 v113 ((decide (eK < 0)) || (decide (eK≥v103)))) /\
 (gP=false ->
 VC37_J3 Q v103 I2 μ2 v113 false)) /\
 ((((decide (v113 < (l_.length:Int))) && (decide (((gi aj v103).Oper)≥0))) && (decide (((gi aj v103).Oper) < (l_.length:Int))))=false ->
 VC37_J2 I1 μ1 v103)) /\
 ((decide (v103 < (aj.length:Int)))=false ->
 VC37_J1 Q)
def VC38_J1 (Q:((List Int))->Prop) (v101:List Int):Prop :=
 Q v101
def VC38_J2 (I1:(List Int)->Int->Prop) (μ1:(List Int)->Int->Nat) (v109:List Int) (v113:Int) (v116:List Int):Prop :=
 I1 v116 (IntKind.i64.wrap (v113+1))/\μ1 v116 (IntKind.i64.wrap (v113+1)) < μ1 v109 v113
def VC38_J3 (I1:(List Int)->Int->Prop) (μ1:(List Int)->Int->Nat) (v109:List Int) (v113:Int) (v122:List Int) (v126:Bool):Prop :=
 (v126=true ->
 (v122.length+[v113].length≤1099511627776) /\
 VC38_J2 I1 μ1 v109 v113 (v122++[v113])) /\
 (v126=false ->
 VC38_J2 I1 μ1 v109 v113 v122)
def VC38 (l_:List ab) (aj:List aa) (pending:Bool) (Q:(List Int)->Prop):Prop :=
 sm l_ ->
 ∀ (_:sm aj),
 ∃ (I1:(List Int)->Int->Prop) (μ1:(List Int)->Int->Nat),I1 [] 0/\∀ (v109:List Int) (v113:Int),I1 v109 v113 ->
 ((decide (v113 < (l_.length:Int)))=true ->
 ∀ gO,cl aj v113=gO ->
 ((decide (gO < 0))=true ->
 ((0:Int)≤v113/\v113 < (l_.length:Int)) /\
 VC38_J3 I1 μ1 v109 v113 v109 ((((gi l_ v113).End) == (-1)) == pending)) /\
 ((decide (gO < 0))=false ->
 VC38_J3 I1 μ1 v109 v113 v109 false)) /\
 ((decide (v113 < (l_.length:Int)))=false ->
 VC38_J1 Q v109)
def VC114 (i_:Int) (aq:List Bool) (Q:Bool->Prop):Prop :=
 sm aq ->
 ((decide (i_ < (aq.length:Int)))=true ->
 ((0:Int)≤i_/\i_ < (aq.length:Int)) /\
 Q (gi aq i_)) /\
 ((decide (i_ < (aq.length:Int)))=false ->
 Q false)
def VC112_J1 (Q:((List Int))->Prop) (v101:List Int):Prop :=
 Q v101
def VC112_J2 (I1:(List Int)->Int->Prop) (μ1:(List Int)->Int->Nat) (v108:List Int) (v113:Int) (v116:List Int):Prop :=
 I1 v116 (IntKind.i64.wrap (v113+1))/\μ1 v116 (IntKind.i64.wrap (v113+1)) < μ1 v108 v113
def VC112_J3 (I1:(List Int)->Int->Prop) (μ1:(List Int)->Int->Nat) (v108:List Int) (v113:Int) (v131:List Int) (v135:Bool):Prop :=
 (v135=true ->
 (v131.length+[v113].length≤1099511627776) /\
 VC112_J2 I1 μ1 v108 v113 (v131++[v113])) /\
 (v135=false ->
 VC112_J2 I1 μ1 v108 v113 v131)
def VC112_J4 (I2:(List Int)->Bool->Int->Prop) (μ2:(List Int)->Bool->Int->Nat) (v148:List Int) (v152:Bool) (v155:Int) (v158:List Int) (v162:Bool):Prop :=
 I2 v158 v162 (IntKind.i64.wrap (v155+1))/\μ2 v158 v162 (IntKind.i64.wrap (v155+1)) < μ2 v148 v152 v155
def VC112 (l_:List ab) (done:List Bool) (Q:(List Int)->Prop):Prop :=
 sm l_ ->
 ∀ (_:sm done),
 ∃ (I1:(List Int)->Int->Prop) (μ1:(List Int)->Int->Nat),I1 [] 0/\∀ (v108:List Int) (v113:Int),I1 v108 v113 ->
 ((decide (v113 < (l_.length:Int)))=true ->
 ((0:Int)≤v113/\v113 < (l_.length:Int)) /\
 (vw v113 done) /\
 ∀ bU,fq v113 done=bU ->
 ∃ (I2:(List Int)->Bool->Int->Prop) (μ2:(List Int)->Bool->Int->Nat),I2 v108 (!bU) 0/\∀ (v148:List Int) (v152:Bool) (v155:Int),I2 v148 v152 v155 ->
 ((decide (v155 < (l_.length:Int)))=true ->
 ((0:Int)≤v155/\v155 < (l_.length:Int)) /\
 (v152=true ->
 (vw v155 done) /\
 ∀ xE,fq v155 done=xE ->
 (xE=true ->
 VC112_J4 I2 μ2 v148 v152 v155 v148 true) /\
 (xE=false ->
 ∀ Ai,bf (gi l_ v155) (gi l_ v113)=Ai ->
 VC112_J4 I2 μ2 v148 v152 v155 v148 (!Ai))) /\
 (v152=false ->
 VC112_J4 I2 μ2 v148 v152 v155 v148 false)) /\
 ((decide (v155 < (l_.length:Int)))=false ->
 VC112_J3 I1 μ1 v108 v113 v148 v152)) /\
 ((decide (v113 < (l_.length:Int)))=false ->
 VC112_J1 Q v108)
def VC105_J1 (Q:((List aa))->Prop) (v105:List aa):Prop :=
 Q v105
def VC105_J2 (I1:(List aa)->Int->Prop) (μ1:(List aa)->Int->Nat) (v117:List aa) (v122:Int) (v125:List aa):Prop :=
 I1 v125 (IntKind.i64.wrap (v122+1))/\μ1 v125 (IntKind.i64.wrap (v122+1)) < μ1 v117 v122
def VC105_J3 (bM:(List Int)) (I1:(List aa)->Int->Prop) (μ1:(List aa)->Int->Nat) (v117:List aa) (v122:Int) (gN:Int × Int × Bool) (v146:List aa) (v151:Bool):Prop :=
 (v151=true ->
 (v146.length+[(⟨gi bM v122,gN.2.1⟩:aa)].length≤1099511627776) /\
 VC105_J2 I1 μ1 v117 v122 (v146++[(⟨gi bM v122,gN.2.1⟩:aa)])) /\
 (v151=false ->
 VC105_J2 I1 μ1 v117 v122 v146)
def VC105 (o_:ao) (l_:List ab) (state:Int) (done:List Bool) (Q:(List aa)->Prop):Prop :=
 sm o_.Rows ->
 ∀ (_:sm l_),
 sm done ->
 (kJ o_) /\
 ∀ ay,bA o_=ay ->
 ((ay.2 != 0)=true ->
 Q []) /\
 ((ay.2 != 0)=false ->
 (yY l_ done) /\
 ∀ bM,fb l_ done=bM ->
 sm bM ->
 ∃ (I1:(List aa)->Int->Prop) (μ1:(List aa)->Int->Nat),I1 [] 0/\∀ (v117:List aa) (v122:Int),I1 v117 v122 ->
 ((decide (v122 < (bM.length:Int)))=true ->
 ((0:Int)≤v122/\v122 < (bM.length:Int)) /\
 ((0:Int)≤(gi bM v122)/\(gi bM v122) < (l_.length:Int)) /\
 ∀ gN,ct o_ state ((gi l_ (gi bM v122)).Kind)=gN ->
 (gN.2.2=true ->
 ((0:Int)≤(gi bM v122)/\(gi bM v122) < (l_.length:Int)) /\
 ((((gi l_ (gi bM v122)).End) == (-1))=true ->
 VC105_J3 bM I1 μ1 v117 v122 gN v117 true) /\
 ((((gi l_ (gi bM v122)).End) == (-1))=false ->
 ((0:Int)≤(gi bM v122)/\(gi bM v122) < (l_.length:Int)) /\
 VC105_J3 bM I1 μ1 v117 v122 gN v117 (((gi l_ (gi bM v122)).Result) == gN.2.1))) /\
 (gN.2.2=false ->
 VC105_J3 bM I1 μ1 v117 v122 gN v117 false)) /\
 ((decide (v122 < (bM.length:Int)))=false ->
 VC105_J1 Q v117))
def VC88 (o_:ao) (l_:List ab) (jO:Int) (Q:Int->Prop):Prop :=
 sm o_.Rows ->
 ∀ (_:sm l_),
 (kJ o_) /\
 ∀ ay,bA o_=ay ->
 ∀ bb,cn l_=bb ->
 (((ay.2 != 0) || (bb.2 != 0))=true ->
 Q 2) /\
 (((ay.2 != 0) || (bb.2 != 0))=false ->
 ((decide ((l_.length:Int) > jO))=true ->
 Q 3) /\
 ((decide ((l_.length:Int) > jO))=false ->
 Q 0))
def VC104 (s_:List aa) (Q:(List aa)->Prop):Prop :=
 sm s_ ->
 ∀ (b101:Bool),(b101=true->s_=[]) ->
 (b101=true ->
 Q []) /\
 (b101=false ->
 (([]:List aa).length+s_.length≤1099511627776) /\
 Q (([]:List aa)++s_))
def VC101_J1 (Q:b7->Prop) (v101:Int) (v102:Int):Prop :=
 Q (⟨v101,v102⟩:b7)
def VC101_J2 (I1:Int->Int->Int->Prop) (μ1:Int->Int->Int->Nat) (v110:Int) (v111:Int) (v112:Int) (v118:Int):Prop :=
 I1 (IntKind.i64.wrap (v110+1)) v118 v112/\μ1 (IntKind.i64.wrap (v110+1)) v118 v112 < μ1 v110 v111 v112
def VC101 (state:Int) (aq:a8) (Q:b7->Prop):Prop :=
 sm aq.o.Rows ->
 ∀ (_:sm aq.l),
 sm aq.done ->
 ∃ (I1:Int->Int->Int->Prop) (μ1:Int->Int->Int->Nat),I1 0 0 state/\∀ (v110:Int) (v111:Int) (v112:Int),I1 v110 v111 v112 ->
 ((decide (v110 < (aq.done.length:Int)))=true ->
 ((0:Int)≤v110/\v110 < (aq.done.length:Int)) /\
 ((gi aq.done v110)=true ->
 ((0:Int)≤v110) /\
 VC101_J2 I1 μ1 v110 v111 v112 (IntKind.u32.wrap ((BitVec.ofInt IntKind.u32.bits v111 ||| BitVec.ofInt IntKind.u32.bits (IntKind.u32.wrap (1 * 2 ^ (min v110.toNat IntKind.u32.bits)))).toNat:Int))) /\
 ((gi aq.done v110)=false ->
 VC101_J2 I1 μ1 v110 v111 v112 v111)) /\
 ((decide (v110 < (aq.done.length:Int)))=false ->
 VC101_J1 Q v111 v112)
def VC100_J1 (Q:Bool->Prop):Prop :=
 Q true
def VC100_J2 (Q:Bool->Prop) (I1:Int->Prop) (μ1:Int->Nat) (v106:Int) (v115:Bool):Prop :=
 (v115=true ->
 Q false) /\
 (v115=false ->
 I1 (IntKind.i64.wrap (v106+1))/\μ1 (IntKind.i64.wrap (v106+1)) < μ1 v106)
def VC100 (aq:a8) (Q:Bool->Prop):Prop :=
 sm aq.o.Rows ->
 ∀ (_:sm aq.l),
 sm aq.done ->
 ∃ (I1:Int->Prop) (μ1:Int->Nat),I1 0/\∀ (v106:Int),I1 v106 ->
 ((decide (v106 < (aq.l.length:Int)))=true ->
 ((0:Int)≤v106/\v106 < (aq.l.length:Int)) /\
 ((((gi aq.l v106).End) != (-1))=true ->
 ((0:Int)≤v106/\v106 < (aq.done.length:Int)) /\
 VC100_J2 Q I1 μ1 v106 (!(gi aq.done v106))) /\
 ((((gi aq.l v106).End) != (-1))=false ->
 VC100_J2 Q I1 μ1 v106 false)) /\
 ((decide (v106 < (aq.l.length:Int)))=false ->
 VC100_J1 Q)
def VC102 (N:Nat) (p_:aa) (ax:a8) (aP:Int) (bF:List aa) (Q:(List aa) × Bool × a8->Prop):Prop :=
 sm ax.o.Rows ->
 ∀ (_:sm ax.l),
 sm ax.done ->
 ∀ (_:sm bF),
 ((0:Int)≤p_.Oper/\p_.Oper < (ax.l.length:Int)) /\
 ∀ bG,ct ax.o aP ((gi ax.l p_.Oper).Kind)=bG ->
 ((0:Int)≤p_.Oper/\p_.Oper < (ax.done.length:Int)) /\
 (yZ bF) /\
 ∀ mX,b6 bF=mX ->
 sm mX ->
 (mX.length+[p_].length≤1099511627776) /\
 (sG bG.1 (mX++[p_]) (⟨ax.o,ax.l,(ax.done.set p_.Oper.toNat true),ax.failed⟩:a8)/\pa bG.1 (mX++[p_]) (⟨ax.o,ax.l,(ax.done.set p_.Oper.toNat true),ax.failed⟩:a8) < N) /\
 ∀ cD,aJ bG.1 (mX++[p_]) (⟨ax.o,ax.l,(ax.done.set p_.Oper.toNat true),ax.failed⟩:a8)=cD ->
 sm cD.1 ->
 ∀ (_:sm cD.2.2.o.Rows),
 sm cD.2.2.l ->
 ∀ (_:sm cD.2.2.done),
 ((0:Int)≤p_.Oper/\p_.Oper < (cD.2.2.done.length:Int)) /\
 Q (cD.1,cD.2.1,(⟨cD.2.2.o,cD.2.2.l,(cD.2.2.done.set p_.Oper.toNat false),cD.2.2.failed⟩:a8))
def VC90_J2 (N:Nat) (Q:((List aa) × Bool × a8)->Prop) (v120:Int) (v121:Int) (v122:Int) (v123:List bc) (v127:List ab) (v139:List Bool) (v143:List (b7 × Int)):Prop :=
 Q ([],false,(⟨(⟨v120,v121,v122,v123⟩:ao),v127,v139,v143⟩:a8))
def VC90_J1 (N:Nat) (state:Int) (Q:((List aa) × Bool × a8)->Prop) (bM:b7) (v120:Int) (v121:Int) (v122:Int) (v123:List bc) (v127:List ab) (v131:List Bool) (v135:List (b7 × Int)):Prop :=
 ((!(bM.done == 0 && (bM.state == 0 && true)))=true ->
 VC90_J2 N Q v120 v121 v122 v123 v127 v131 (dp v135 bM (IntKind.i64.wrap (((aF v135 bM).getD 0)+1)))) /\
 ((!(bM.done == 0 && (bM.state == 0 && true)))=false ->
 VC90_J2 N Q v120 v121 v122 v123 v127 v131 v135)
def VC90 (N:Nat) (state:Int) (so:List aa) (aq:a8) (Q:(List aa) × Bool × a8->Prop):Prop :=
 sm so ->
 ∀ (_:sm aq.o.Rows),
 sm aq.l ->
 ∀ (_:sm aq.done),
 (yJ aq) /\
 ∀ ay,dP aq=ay ->
 (ay=true ->
 Q (so,true,aq)) /\
 (ay=false ->
 ∀ bM,dD state aq=bM ->
 ((decide (((aF aq.failed bM).getD 0) > 0))=true ->
 Q ([],false,aq)) /\
 ((decide (((aF aq.failed bM).getD 0) > 0))=false ->
 (yU aq.o aq.l state aq.done) /\
 ∀ nD,bL aq.o aq.l state aq.done=nD ->
 sm nD ->
 ∃ (I1:(List aa)->Int->Int->Int->Int->(List bc)->(List ab)->(List Bool)->(List (b7 × Int))->Prop) (μ1:(List aa)->Int->Int->Int->Int->(List bc)->(List ab)->(List Bool)->(List (b7 × Int))->Nat),I1 nD 0 aq.o.au aq.o.aA aq.o.aH aq.o.Rows aq.l aq.done aq.failed/\∀ (v196:List aa) (v200:Int) (v202:Int) (v203:Int) (v204:Int) (v205:List bc) (v209:List ab) (v213:List Bool) (v217:List (b7 × Int)),I1 v196 v200 v202 v203 v204 v205 v209 v213 v217 ->
 ((decide (v200 < (nD.length:Int)))=true ->
 ((0:Int)≤v200/\v200 < (v196.length:Int)) /\
 (yK (gi v196 v200) (⟨(⟨v202,v203,v204,v205⟩:ao),v209,v213,v217⟩:a8) state so/\Cc (gi v196 v200) (⟨(⟨v202,v203,v204,v205⟩:ao),v209,v213,v217⟩:a8) state so < N) /\
 ∀ eF,bk (gi v196 v200) (⟨(⟨v202,v203,v204,v205⟩:ao),v209,v213,v217⟩:a8) state so=eF ->
 sm eF.1 ->
 ∀ (_:sm eF.2.2.o.Rows),
 sm eF.2.2.l ->
 ∀ (_:sm eF.2.2.done),
 (eF.2.1=true ->
 Q (eF.1,true,eF.2.2)) /\
 (eF.2.1=false ->
 I1 v196 (IntKind.i64.wrap (v200+1)) eF.2.2.o.au eF.2.2.o.aA eF.2.2.o.aH eF.2.2.o.Rows eF.2.2.l eF.2.2.done eF.2.2.failed/\μ1 v196 (IntKind.i64.wrap (v200+1)) eF.2.2.o.au eF.2.2.o.aA eF.2.2.o.aH eF.2.2.o.Rows eF.2.2.l eF.2.2.done eF.2.2.failed < μ1 v196 v200 v202 v203 v204 v205 v209 v213 v217)) /\
 ((decide (v200 < (nD.length:Int)))=false ->
 VC90_J1 N state Q bM v202 v203 v204 v205 v209 v213 v217)))
def VC89 (o_:ao) (l_:List ab) (Q:a8->Prop):Prop :=
 sm o_.Rows ->
 ∀ (_:sm l_),
 ((0:Int)≤(l_.length:Int)/\(l_.length:Int)≤(l_.length:Int)/\(l_.length:Int)≤1099511627776) /\
 Q (⟨o_,l_,List.replicate (l_.length:Int).toNat (false:Bool),([]:List (b7 × Int))⟩:a8)
def VC70_J1 (Q:((List aa) × Int)->Prop) (v143:List aa) (v147:Bool):Prop :=
 (v147=true ->
 Q ([],41)) /\
 (v147=false ->
 Q (v143,0))
def VC70 (o_:ao) (l_:List ab) (Q:(List aa) × Int->Prop):Prop :=
 sm o_.Rows ->
 ∀ (_:sm l_),
 (za o_ l_ 20) /\
 ∀ ay,cx o_ l_ 20=ay ->
 ((ay != 0)=true ->
 Q ([],ay)) /\
 ((ay != 0)=false ->
 (zc o_ l_) /\
 ∀ fB,bH o_ l_=fB ->
 sm fB.o.Rows ->
 ∀ (_:sm fB.l),
 sm fB.done ->
 (sG o_.aH [] fB) /\
 ∀ bU,aJ o_.aH [] fB=bU ->
 sm bU.1 ->
 ∀ (_:sm bU.2.2.o.Rows),
 sm bU.2.2.l ->
 ∀ (_:sm bU.2.2.done),
 ((!bU.2.1)=true ->
 VC70_J1 Q bU.1 true) /\
 ((!bU.2.1)=false ->
 (kS o_ l_ bU.1) /\
 ∀ o5,de o_ l_ bU.1=o5 ->
 VC70_J1 Q bU.1 (!o5)))
def VC84 (x_:aw) (Q:Int->Prop):Prop :=
 (((x_.bm != 1) && (x_.bm != 2))=true ->
 Q 8) /\
 (((x_.bm != 1) && (x_.bm != 2))=false ->
 (((decide (x_.ah < 1)) || (decide (x_.ah > 1000)))=true ->
 Q 2) /\
 (((decide (x_.ah < 1)) || (decide (x_.ah > 1000)))=false ->
 (((x_.bm == 1) && ((decide (x_.N < 0)) || (decide (x_.N≥64))))=true ->
 Q 31) /\
 (((x_.bm == 1) && ((decide (x_.N < 0)) || (decide (x_.N≥64))))=false ->
 (((x_.bm == 2) && ((decide (x_.N < 0)) || (decide (x_.N > 1000000))))=true ->
 Q 7) /\
 (((x_.bm == 2) && ((decide (x_.N < 0)) || (decide (x_.N > 1000000))))=false ->
 Q 0))))
def VC55_J1 (l_:List aw) (Q:(Int × Int)->Prop):Prop :=
 Q ((l_.length:Int),0)
def VC55 (l_:List aw) (Q:Int × Int->Prop):Prop :=
 sm l_ ->
 ((decide ((l_.length:Int) > 10000))=true ->
 Q (0,3)) /\
 ((decide ((l_.length:Int) > 10000))=false ->
 ∃ (I1:(List (Int × Int))->Int->Prop) (μ1:(List (Int × Int))->Int->Nat),I1 ([]:List (Int × Int)) 0/\∀ (v107:List (Int × Int)) (v110:Int),I1 v107 v110 ->
 ((decide (v110 < (l_.length:Int)))=true ->
 ((0:Int)≤v110/\v110 < (l_.length:Int)) /\
 ∀ eK,gu (gi l_ v110)=eK ->
 ((eK != 0)=true ->
 Q (v110,eK)) /\
 ((eK != 0)=false ->
 (((((aF v107 ((gi l_ v110).ah)).getD 0) == 1) == (((gi l_ v110).bm) == 1))=true ->
 Q (v110,33)) /\
 (((((aF v107 ((gi l_ v110).ah)).getD 0) == 1) == (((gi l_ v110).bm) == 1))=false ->
 I1 (dp v107 ((gi l_ v110).ah) ((gi l_ v110).bm)) (IntKind.i64.wrap (v110+1))/\μ1 (dp v107 ((gi l_ v110).ah) ((gi l_ v110).bm)) (IntKind.i64.wrap (v110+1)) < μ1 v107 v110))) /\
 ((decide (v110 < (l_.length:Int)))=false ->
 VC55_J1 l_ Q))
def VC94_J1 (Q:Int->Prop) (v101:Int):Prop :=
 Q v101
def VC94_J2 (I1:Int->Int->Prop) (μ1:Int->Int->Nat) (v103:Int) (v104:Int) (v106:Int):Prop :=
 I1 v106 (IntKind.i64.wrap (v104+1))/\μ1 v106 (IntKind.i64.wrap (v104+1)) < μ1 v103 v104
def VC94 (l_:List aw) (process:Int) (Q:Int->Prop):Prop :=
 sm l_ ->
 ∃ (I1:Int->Int->Prop) (μ1:Int->Int->Nat),I1 (-1) 0/\∀ (v103:Int) (v104:Int),I1 v103 v104 ->
 ((decide (v104 < (l_.length:Int)))=true ->
 ((0:Int)≤v104/\v104 < (l_.length:Int)) /\
 ((((gi l_ v104).ah) == process)=true ->
 VC94_J2 I1 μ1 v103 v104 v104) /\
 ((((gi l_ v104).ah) == process)=false ->
 VC94_J2 I1 μ1 v103 v104 v103)) /\
 ((decide (v104 < (l_.length:Int)))=false ->
 VC94_J1 Q v103)
def VC79 (l_:List aw) (process:Int) (Q:Bool->Prop):Prop :=
 sm l_ ->
 ∀ ay,iB l_ process=ay ->
 ((decide (ay≥0))=true ->
 ((0:Int)≤ay/\ay < (l_.length:Int)) /\
 Q (((gi l_ ay).bm) == 1)) /\
 ((decide (ay≥0))=false ->
 Q false)
def VC50_J1 (l_:List aw) (Q:(Int × Int)->Prop):Prop :=
 Q ((l_.length:Int),0)
def VC50_J2 (Q:(Int × Int)->Prop) (I1:Int->Prop) (μ1:Int->Nat) (v103:Int) (v108:Bool):Prop :=
 (v108=true ->
 Q (v103,33)) /\
 (v108=false ->
 I1 (IntKind.i64.wrap (v103+1))/\μ1 (IntKind.i64.wrap (v103+1)) < μ1 v103)
def VC50 (l_:List aw) (Q:Int × Int->Prop):Prop :=
 sm l_ ->
 ((decide ((l_.length:Int) > 10000))=true ->
 Q (0,3)) /\
 ((decide ((l_.length:Int) > 10000))=false ->
 ∃ (I1:Int->Prop) (μ1:Int->Nat),I1 0/\∀ (v103:Int),I1 v103 ->
 ((decide (v103 < (l_.length:Int)))=true ->
 ((0:Int)≤v103/\v103 < (l_.length:Int)) /\
 (((((gi l_ v103).bm) != 1) && (((gi l_ v103).bm) != 2))=true ->
 Q (v103,8)) /\
 (((((gi l_ v103).bm) != 1) && (((gi l_ v103).bm) != 2))=false ->
 (((decide (((gi l_ v103).ah) < 1)) || (decide (((gi l_ v103).ah) > 1000)))=true ->
 Q (v103,2)) /\
 (((decide (((gi l_ v103).ah) < 1)) || (decide (((gi l_ v103).ah) > 1000)))=false ->
 (((((gi l_ v103).bm) == 1) && ((decide (((gi l_ v103).N) < 0)) || (decide (((gi l_ v103).N) > 63))))=true ->
 Q (v103,31)) /\
 (((((gi l_ v103).bm) == 1) && ((decide (((gi l_ v103).N) < 0)) || (decide (((gi l_ v103).N) > 63))))=false ->
 (((((gi l_ v103).bm) == 2) && ((decide (((gi l_ v103).N) < 0)) || (decide (((gi l_ v103).N) > 1000000))))=true ->
 Q (v103,7)) /\
 (((((gi l_ v103).bm) == 2) && ((decide (((gi l_ v103).N) < 0)) || (decide (((gi l_ v103).N) > 1000000))))=false ->
 ((((gi l_ v103).bm) == 1)=true ->
 ((0:Int)≤v103/\v103≤(l_.length:Int)) /\
 ∀ eK,fA (l_.take v103.toNat) ((gi l_ v103).ah)=eK ->
 (eK=true ->
 VC50_J2 Q I1 μ1 v103 true) /\
 (eK=false ->
 ((((gi l_ v103).bm) == 2)=true ->
 ((0:Int)≤v103/\v103≤(l_.length:Int)) /\
 ∀ dF,fA (l_.take v103.toNat) ((gi l_ v103).ah)=dF ->
 VC50_J2 Q I1 μ1 v103 (!dF)) /\
 ((((gi l_ v103).bm) == 2)=false ->
 VC50_J2 Q I1 μ1 v103 false))) /\
 ((((gi l_ v103).bm) == 1)=false ->
 ((((gi l_ v103).bm) == 2)=true ->
 ((0:Int)≤v103/\v103≤(l_.length:Int)) /\
 ∀ gm,fA (l_.take v103.toNat) ((gi l_ v103).ah)=gm ->
 VC50_J2 Q I1 μ1 v103 (!gm)) /\
 ((((gi l_ v103).bm) == 2)=false ->
 VC50_J2 Q I1 μ1 v103 false))))))) /\
 ((decide (v103 < (l_.length:Int)))=false ->
 VC50_J1 l_ Q))
def VC57_J1 (Q:Bool->Prop):Prop :=
 Q true
def VC57 (a_:List bc) (b_:List bc) (Q:Bool->Prop):Prop :=
 sm a_ ->
 ∀ (_:sm b_),
 (((a_.length:Int) != (b_.length:Int))=true ->
 Q false) /\
 (((a_.length:Int) != (b_.length:Int))=false ->
 ∃ (I1:Int->Prop) (μ1:Int->Nat),I1 0/\∀ (v103:Int),I1 v103 ->
 ((decide (v103 < (a_.length:Int)))=true ->
 ((0:Int)≤v103/\v103 < (a_.length:Int)) /\
 ((0:Int)≤v103/\v103 < (b_.length:Int)) /\
 ((!(((gi a_ v103).State) == ((gi b_ v103).State) && (((gi a_ v103).Kind) == ((gi b_ v103).Kind) && (((gi a_ v103).Next) == ((gi b_ v103).Next) && (((gi a_ v103).Result) == ((gi b_ v103).Result) && true)))))=true ->
 Q false) /\
 ((!(((gi a_ v103).State) == ((gi b_ v103).State) && (((gi a_ v103).Kind) == ((gi b_ v103).Kind) && (((gi a_ v103).Next) == ((gi b_ v103).Next) && (((gi a_ v103).Result) == ((gi b_ v103).Result) && true)))))=false ->
 I1 (IntKind.i64.wrap (v103+1))/\μ1 (IntKind.i64.wrap (v103+1)) < μ1 v103)) /\
 ((decide (v103 < (a_.length:Int)))=false ->
 VC57_J1 Q))
def VC26 (a_:ao) (b_:ao) (Q:Bool->Prop):Prop :=
 sm a_.Rows ->
 ∀ (_:sm b_.Rows),
 ((((a_.au == b_.au) && (a_.aA == b_.aA)) && (a_.aH == b_.aH))=true ->
 ∀ ay,ep a_.Rows b_.Rows=ay ->
 Q ay) /\
 ((((a_.au == b_.au) && (a_.aA == b_.aA)) && (a_.aH == b_.aH))=false ->
 Q false)
def VC56_J1 (Q:((List ab) × Int)->Prop) (v109:List ab):Prop :=
 Q (v109,0)
def VC56_J2 (I1:(List ab)->(List (Int × Int))->Int->Prop) (μ1:(List ab)->(List (Int × Int))->Int->Nat) (v115:List ab) (v119:List (Int × Int)) (v122:Int) (v123:List ab) (v127:List (Int × Int)):Prop :=
 I1 v123 v127 (IntKind.i64.wrap (v122+1))/\μ1 v123 v127 (IntKind.i64.wrap (v122+1)) < μ1 v115 v119 v122
def VC56 (l_:List aw) (Q:(List ab) × Int->Prop):Prop :=
 sm l_ ->
 ∀ ay,bE l_=ay ->
 ((ay.2 != 0)=true ->
 Q ([],ay.2)) /\
 ((ay.2 != 0)=false ->
 ∃ (I1:(List ab)->(List (Int × Int))->Int->Prop) (μ1:(List ab)->(List (Int × Int))->Int->Nat),I1 [] ([]:List (Int × Int)) 0/\∀ (v115:List ab) (v119:List (Int × Int)) (v122:Int),I1 v115 v119 v122 ->
 ((decide (v122 < (l_.length:Int)))=true ->
 ((0:Int)≤v122/\v122 < (l_.length:Int)) /\
 ((((gi l_ v122).bm) == 1)=true ->
 (v115.length+[(⟨(gi l_ v122).ah,(gi l_ v122).N,v122,(-1),(-1)⟩:ab)].length≤1099511627776) /\
 VC56_J2 I1 μ1 v115 v119 v122 (v115++[(⟨(gi l_ v122).ah,(gi l_ v122).N,v122,(-1),(-1)⟩:ab)]) (dp v119 ((gi l_ v122).ah) (v115.length:Int))) /\
 ((((gi l_ v122).bm) == 1)=false ->
 ((0:Int)≤((aF v119 ((gi l_ v122).ah)).getD 0)/\((aF v119 ((gi l_ v122).ah)).getD 0) < (v115.length:Int)) /\
 VC56_J2 I1 μ1 v115 v119 v122 ((v115.set ((aF v119 ((gi l_ v122).ah)).getD 0).toNat (⟨(gi v115 ((aF v119 ((gi l_ v122).ah)).getD 0)).ah,(gi v115 ((aF v119 ((gi l_ v122).ah)).getD 0)).Kind,(gi v115 ((aF v119 ((gi l_ v122).ah)).getD 0)).aG,v122,(gi v115 ((aF v119 ((gi l_ v122).ah)).getD 0)).Result⟩:ab)).set ((aF v119 ((gi l_ v122).ah)).getD 0).toNat (⟨(gi (v115.set ((aF v119 ((gi l_ v122).ah)).getD 0).toNat (⟨(gi v115 ((aF v119 ((gi l_ v122).ah)).getD 0)).ah,(gi v115 ((aF v119 ((gi l_ v122).ah)).getD 0)).Kind,(gi v115 ((aF v119 ((gi l_ v122).ah)).getD 0)).aG,v122,(gi v115 ((aF v119 ((gi l_ v122).ah)).getD 0)).Result⟩:ab)) ((aF v119 ((gi l_ v122).ah)).getD 0)).ah,(gi (v115.set ((aF v119 ((gi l_ v122).ah)).getD 0).toNat (⟨(gi v115 ((aF v119 ((gi l_ v122).ah)).getD 0)).ah,(gi v115 ((aF v119 ((gi l_ v122).ah)).getD 0)).Kind,(gi v115 ((aF v119 ((gi l_ v122).ah)).getD 0)).aG,v122,(gi v115 ((aF v119 ((gi l_ v122).ah)).getD 0)).Result⟩:ab)) ((aF v119 ((gi l_ v122).ah)).getD 0)).Kind,(gi (v115.set ((aF v119 ((gi l_ v122).ah)).getD 0).toNat (⟨(gi v115 ((aF v119 ((gi l_ v122).ah)).getD 0)).ah,(gi v115 ((aF v119 ((gi l_ v122).ah)).getD 0)).Kind,(gi v115 ((aF v119 ((gi l_ v122).ah)).getD 0)).aG,v122,(gi v115 ((aF v119 ((gi l_ v122).ah)).getD 0)).Result⟩:ab)) ((aF v119 ((gi l_ v122).ah)).getD 0)).aG,(gi (v115.set ((aF v119 ((gi l_ v122).ah)).getD 0).toNat (⟨(gi v115 ((aF v119 ((gi l_ v122).ah)).getD 0)).ah,(gi v115 ((aF v119 ((gi l_ v122).ah)).getD 0)).Kind,(gi v115 ((aF v119 ((gi l_ v122).ah)).getD 0)).aG,v122,(gi v115 ((aF v119 ((gi l_ v122).ah)).getD 0)).Result⟩:ab)) ((aF v119 ((gi l_ v122).ah)).getD 0)).End,(gi l_ v122).N⟩:ab)) v119)) /\
 ((decide (v122 < (l_.length:Int)))=false ->
 VC56_J1 Q v115))
def VC18_J1 (Q:((List ab) × Int)->Prop) (v105:List ab):Prop :=
 Q (v105,0)
def VC18_J2 (I1:(List ab)->Int->Prop) (μ1:(List ab)->Int->Nat) (v112:List ab) (v116:Int) (v118:List ab):Prop :=
 I1 v118 (IntKind.i64.wrap (v116+1))/\μ1 v118 (IntKind.i64.wrap (v116+1)) < μ1 v112 v116
def VC18_J3 (I1:(List ab)->Int->Prop) (μ1:(List ab)->Int->Nat) (v112:List ab) (v116:Int) (v145:List ab) (v149:Int) (v150:Int) (v151:Int) (v152:Int) (v153:Int):Prop :=
 (v145.length+[(⟨v149,v150,v151,v152,v153⟩:ab)].length≤1099511627776) /\
 VC18_J2 I1 μ1 v112 v116 (v145++[(⟨v149,v150,v151,v152,v153⟩:ab)])
def VC18_J4 (I2:(List ab)->Int->Int->Int->Int->Int->Int->Prop) (μ2:(List ab)->Int->Int->Int->Int->Int->Int->Nat) (v164:List ab) (v168:Int) (v169:Int) (v170:Int) (v171:Int) (v172:Int) (v173:Int) (v175:List ab) (v179:Int) (v180:Int):Prop :=
 I2 v175 (IntKind.i64.wrap (v168+1)) v169 v170 v171 v179 v180/\μ2 v175 (IntKind.i64.wrap (v168+1)) v169 v170 v171 v179 v180 < μ2 v164 v168 v169 v170 v171 v172 v173
def VC18 (l_:List aw) (Q:(List ab) × Int->Prop):Prop :=
 sm l_ ->
 ∀ ay,e7 l_=ay ->
 ((ay.2 != 0)=true ->
 Q ([],ay.2)) /\
 ((ay.2 != 0)=false ->
 ∃ (I1:(List ab)->Int->Prop) (μ1:(List ab)->Int->Nat),I1 [] 0/\∀ (v112:List ab) (v116:Int),I1 v112 v116 ->
 ((decide (v116 < (l_.length:Int)))=true ->
 ((0:Int)≤v116/\v116 < (l_.length:Int)) /\
 ((((gi l_ v116).bm) != 1)=true ->
 VC18_J2 I1 μ1 v112 v116 v112) /\
 ((((gi l_ v116).bm) != 1)=false ->
 ((0:Int)≤v116/\v116 < (l_.length:Int)) /\
 ((0:Int)≤v116/\v116 < (l_.length:Int)) /\
 ∃ (I2:(List ab)->Int->Int->Int->Int->Int->Int->Prop) (μ2:(List ab)->Int->Int->Int->Int->Int->Int->Nat),I2 v112 (IntKind.i64.wrap (v116+1)) ((gi l_ v116).ah) ((gi l_ v116).N) v116 (-1) (-1)/\∀ (v164:List ab) (v168:Int) (v169:Int) (v170:Int) (v171:Int) (v172:Int) (v173:Int),I2 v164 v168 v169 v170 v171 v172 v173 ->
 (((decide (v168 < (l_.length:Int))) && (decide (v172 < 0)))=true ->
 ((0:Int)≤v168/\v168 < (l_.length:Int)) /\
 ((0:Int)≤v116/\v116 < (l_.length:Int)) /\
 ((((gi l_ v168).ah) == ((gi l_ v116).ah))=true ->
 ((0:Int)≤v168/\v168 < (l_.length:Int)) /\
 VC18_J4 I2 μ2 v164 v168 v169 v170 v171 v172 v173 v164 v168 ((gi l_ v168).N)) /\
 ((((gi l_ v168).ah) == ((gi l_ v116).ah))=false ->
 VC18_J4 I2 μ2 v164 v168 v169 v170 v171 v172 v173 v164 v172 v173)) /\
 (((decide (v168 < (l_.length:Int))) && (decide (v172 < 0)))=false ->
 VC18_J3 I1 μ1 v112 v116 v164 v169 v170 v171 v172 v173))) /\
 ((decide (v116 < (l_.length:Int)))=false ->
 VC18_J1 Q v112))
def VC25_J1 (Q:Bool->Prop):Prop :=
 Q true
def VC25 (a_:List Int) (b_:List Int) (Q:Bool->Prop):Prop :=
 sm a_ ->
 ∀ (_:sm b_),
 (((a_.length:Int) != (b_.length:Int))=true ->
 Q false) /\
 (((a_.length:Int) != (b_.length:Int))=false ->
 ∃ (I1:Int->Prop) (μ1:Int->Nat),I1 0/\∀ (v103:Int),I1 v103 ->
 ((decide (v103 < (a_.length:Int)))=true ->
 ((0:Int)≤v103/\v103 < (a_.length:Int)) /\
 ((0:Int)≤v103/\v103 < (b_.length:Int)) /\
 (((gi a_ v103) != (gi b_ v103))=true ->
 Q false) /\
 (((gi a_ v103) != (gi b_ v103))=false ->
 I1 (IntKind.i64.wrap (v103+1))/\μ1 (IntKind.i64.wrap (v103+1)) < μ1 v103)) /\
 ((decide (v103 < (a_.length:Int)))=false ->
 VC25_J1 Q))
def VC92_J1 (Q:Int->Prop):Prop :=
 Q (-1)
def VC92 (s_:List Int) (v_:Int) (Q:Int->Prop):Prop :=
 sm s_ ->
 ∃ (I1:Int->Prop) (μ1:Int->Nat),I1 0/\∀ (v102:Int),I1 v102 ->
 ((decide (v102 < (s_.length:Int)))=true ->
 ((0:Int)≤v102/\v102 < (s_.length:Int)) /\
 ((v_ == (gi s_ v102))=true ->
 Q v102) /\
 ((v_ == (gi s_ v102))=false ->
 I1 (IntKind.i64.wrap (v102+1))/\μ1 (IntKind.i64.wrap (v102+1)) < μ1 v102)) /\
 ((decide (v102 < (s_.length:Int)))=false ->
 VC92_J1 Q)
def VC77 (s_:List Int) (v_:Int) (Q:Bool->Prop):Prop :=
 sm s_ ->
 ∀ ay,dX s_ v_=ay ->
 Q (decide (ay≥0))
def VC49 (s_:List bc) (Q:(List bc)->Prop):Prop :=
 sm s_ ->
 ∀ (b101:Bool),(b101=true->s_=[]) ->
 (b101=true ->
 Q []) /\
 (b101=false ->
 (([]:List bc).length+s_.length≤1099511627776) /\
 Q (([]:List bc)++s_))
def VC76 (p_:Int × Int) (n_:Int) (Q:Bool->Prop):Prop :=
 Q (((decide ((if p_.2 < p_.1 then p_.2 else p_.1)≥0)) && (decide ((if p_.2 > p_.1 then p_.2 else p_.1) < n_))) && (p_.1 != p_.2))
def VC75 (p_:Int × Int) (aq:Int) (ax:Int) (aP:List Int) (Q:Bool->Prop):Prop :=
 sm aP ->
 ∀ ay,dT (p_.1,p_.2) aq=ay ->
 ((ay && (p_.2 == ax))=true ->
 ∀ bb,cw aP p_.1=bb ->
 Q (!bb)) /\
 ((ay && (p_.2 == ax))=false ->
 Q false)
def VC93_75_J1 (Q:Int->Prop):Prop :=
 Q (-1)
def VC93_75 (s_:List (Int × Int)) (aq:Int) (ax:Int) (aP:List Int) (Q:Int->Prop):Prop :=
 sm s_ ->
 ∀ (_:sm aP),
 ∃ (I1:Int->Prop) (μ1:Int->Nat),I1 0/\∀ (v103:Int),I1 v103 ->
 ((decide (v103 < (s_.length:Int)))=true ->
 ((0:Int)≤v103/\v103 < (s_.length:Int)) /\
 ∀ bG,cj (gi s_ v103) aq ax aP=bG ->
 (bG=true ->
 Q v103) /\
 (bG=false ->
 I1 (IntKind.i64.wrap (v103+1))/\μ1 (IntKind.i64.wrap (v103+1)) < μ1 v103)) /\
 ((decide (v103 < (s_.length:Int)))=false ->
 VC93_75_J1 Q)
def VC78_75 (s_:List (Int × Int)) (aq:Int) (ax:Int) (aP:List Int) (Q:Bool->Prop):Prop :=
 sm s_ ->
 ∀ (_:sm aP),
 ∀ ay,bp s_ aq ax aP=ay ->
 Q (decide (ay≥0))
def VC74 (x_:Int) (aq:Int) (ax:List Int) (aP:List (Int × Int)) (Q:Bool->Prop):Prop :=
 sm ax ->
 ∀ (_:sm aP),
 ∀ ay,cw ax x_=ay ->
 (ay=true ->
 Q true) /\
 (ay=false ->
 ∀ bb,bI aP aq x_ ax=bb ->
 Q bb)
def VC44_J1 (Q:((List Int) × Bool)->Prop) (v105:List Int):Prop :=
 Q (v105,true)
def VC44_J2 (n_:Int) (Q:((List Int) × Bool)->Prop) (I1:(List Int)->Prop) (μ1:(List Int)->Nat) (v112:List Int) (v116:Int) (v118:List Int):Prop :=
 ((v116 == n_)=true ->
 Q ([],false)) /\
 ((v116 == n_)=false ->
 (v118.length+[v116].length≤1099511627776) /\
 I1 (v118++[v116])/\μ1 (v118++[v116]) < μ1 v112)
def VC44_J3 (n_:Int) (Q:((List Int) × Bool)->Prop) (I1:(List Int)->Prop) (μ1:(List Int)->Nat) (v112:List Int) (I2:Int->(List Int)->Prop) (μ2:Int->(List Int)->Nat) (v133:Int) (v135:List Int) (v139:Bool) (v141:List Int):Prop :=
 (v139=true ->
 I2 (IntKind.i64.wrap (v133+1)) v141/\μ2 (IntKind.i64.wrap (v133+1)) v141 < μ2 v133 v135) /\
 (v139=false ->
 VC44_J2 n_ Q I1 μ1 v112 v133 v141)
def VC44 (n_:Int) (pairs:List (Int × Int)) (Q:(List Int) × Bool->Prop):Prop :=
 sm pairs ->
 (((decide (n_ < 0)) || (decide (n_ > 64)))=true ->
 Q ([],false)) /\
 (((decide (n_ < 0)) || (decide (n_ > 64)))=false ->
 ((0:Int)≤0/\0≤n_/\n_≤1099511627776) /\
 ∃ (I1:(List Int)->Prop) (μ1:(List Int)->Nat),I1 (List.replicate (0:Int).toNat (0:Int))/\∀ (v112:List Int),I1 v112 ->
 ((decide ((v112.length:Int) < n_))=true ->
 ∃ (I2:Int->(List Int)->Prop) (μ2:Int->(List Int)->Nat),I2 0 v112/\∀ (v133:Int) (v135:List Int),I2 v133 v135 ->
 ((decide (v133 < n_))=true ->
 ∀ Al,db v133 n_ v135 pairs=Al ->
 VC44_J3 n_ Q I1 μ1 v112 I2 μ2 v133 v135 Al v135) /\
 ((decide (v133 < n_))=false ->
 VC44_J3 n_ Q I1 μ1 v112 I2 μ2 v133 v135 false v135)) /\
 ((decide ((v112.length:Int) < n_))=false ->
 VC44_J1 Q v112))
def VC47_J1 (Q:((List aw))->Prop) (v101:List aw):Prop :=
 Q v101
def VC47 (h_:ak) (Q:(List aw)->Prop):Prop :=
 sm h_.ae ->
 ∀ (_:sm h_.al),
 ∃ (I1:(List aw)->Int->Prop) (μ1:(List aw)->Int->Nat),I1 [] 0/\∀ (v107:List aw) (v112:Int),I1 v107 v112 ->
 ((decide (v112 < (h_.al.length:Int)))=true ->
 ((0:Int)≤v112/\v112 < (h_.al.length:Int)) /\
 (v107.length+[((gi h_.al v112).aN)].length≤1099511627776) /\
 I1 (v107++[((gi h_.al v112).aN)]) (IntKind.i64.wrap (v112+1))/\μ1 (v107++[((gi h_.al v112).aN)]) (IntKind.i64.wrap (v112+1)) < μ1 v107 v112) /\
 ((decide (v112 < (h_.al.length:Int)))=false ->
 VC47_J1 Q v107)
def VC52 (o_:ao) (Q:Bool->Prop):Prop :=
 sm o_.Rows ->
 (kJ o_) /\
 ∀ ay,bA o_=ay ->
 Q (ay.2 != 0)
def VC83_52_J1 (Q:Int->Prop):Prop :=
 Q (-1)
def VC83_52 (s_:List ao) (Q:Int->Prop):Prop :=
 sm s_ ->
 ∃ (I1:Int->Prop) (μ1:Int->Nat),I1 0/\∀ (v102:Int),I1 v102 ->
 ((decide (v102 < (s_.length:Int)))=true ->
 ((0:Int)≤v102/\v102 < (s_.length:Int)) /\
 ∀ (_:sm ((gi s_ v102).Rows)),
 (kJ (gi s_ v102)) /\
 ∀ bM,cV (gi s_ v102)=bM ->
 (bM=true ->
 Q v102) /\
 (bM=false ->
 I1 (IntKind.i64.wrap (v102+1))/\μ1 (IntKind.i64.wrap (v102+1)) < μ1 v102)) /\
 ((decide (v102 < (s_.length:Int)))=false ->
 VC83_52_J1 Q)
def VC54_52 (s_:List ao) (Q:Bool->Prop):Prop :=
 sm s_ ->
 (mw s_) /\
 ∀ ay,bd s_=ay ->
 Q (decide (ay≥0))
def VC23_J2 (h_:ak) (Q:(Int × Int)->Prop):Prop :=
 Q ((h_.al.length:Int),0)
def VC23_J4 (h_:ak) (Q:(Int × Int)->Prop) (I1:(List (Int × Int))->Int->Prop) (μ1:(List (Int × Int))->Int->Nat) (v121:List (Int × Int)) (v124:Int) (v137:Bool):Prop :=
 (v137=true ->
 Q (v124,31)) /\
 (v137=false ->
 I1 (dp v121 (((gi h_.al v124).aN).ah) ((gi h_.al v124).az)) (IntKind.i64.wrap (v124+1))/\μ1 (dp v121 (((gi h_.al v124).aN).ah) ((gi h_.al v124).az)) (IntKind.i64.wrap (v124+1)) < μ1 v121 v124)
def VC23_J3 (h_:ak) (Q:(Int × Int)->Prop) (I1:(List (Int × Int))->Int->Prop) (μ1:(List (Int × Int))->Int->Nat) (v121:List (Int × Int)) (v124:Int) (v132:Bool):Prop :=
 (v132=true ->
 Q (v124,32)) /\
 (v132=false ->
 (((((gi h_.al v124).aN).bm) == 1)=true ->
 ((0:Int)≤((gi h_.al v124).az)/\((gi h_.al v124).az) < (h_.ae.length:Int)) /\
 VC23_J4 h_ Q I1 μ1 v121 v124 (decide ((((gi h_.al v124).aN).N)≥((gi h_.ae ((gi h_.al v124).az)).aA)))) /\
 (((((gi h_.al v124).aN).bm) == 1)=false ->
 VC23_J4 h_ Q I1 μ1 v121 v124 false))
def VC23_J1 (h_:ak) (Q:(Int × Int)->Prop) (v101:Bool):Prop :=
 (v101=true ->
 Q ((-1),2)) /\
 (v101=false ->
 (ln (⟨h_.ae,h_.al⟩:ak)) /\
 ∀ nE,bo (⟨h_.ae,h_.al⟩:ak)=nE ->
 sm nE ->
 ∀ dA,bE nE=dA ->
 ((dA.2 != 0)=true ->
 Q (dA.1,dA.2)) /\
 ((dA.2 != 0)=false ->
 ∃ (I1:(List (Int × Int))->Int->Prop) (μ1:(List (Int × Int))->Int->Nat),I1 ([]:List (Int × Int)) 0/\∀ (v121:List (Int × Int)) (v124:Int),I1 v121 v124 ->
 ((decide (v124 < (h_.al.length:Int)))=true ->
 ((0:Int)≤v124/\v124 < (h_.al.length:Int)) /\
 (((decide (((gi h_.al v124).az) < 0)) || (decide (((gi h_.al v124).az)≥(h_.ae.length:Int))))=true ->
 Q (v124,2)) /\
 (((decide (((gi h_.al v124).az) < 0)) || (decide (((gi h_.al v124).az)≥(h_.ae.length:Int))))=false ->
 (((((gi h_.al v124).aN).bm) == 2)=true ->
 VC23_J3 h_ Q I1 μ1 v121 v124 (((aF v121 (((gi h_.al v124).aN).ah)).getD 0) != ((gi h_.al v124).az))) /\
 (((((gi h_.al v124).aN).bm) == 2)=false ->
 VC23_J3 h_ Q I1 μ1 v121 v124 false))) /\
 ((decide (v124 < (h_.al.length:Int)))=false ->
 VC23_J2 h_ Q)))
def VC23 (h_:ak) (Q:Int × Int->Prop):Prop :=
 sm h_.ae ->
 ∀ (_:sm h_.al),
 (((decide ((h_.ae.length:Int) < 1)) || (decide ((h_.ae.length:Int) > 8)))=true ->
 VC23_J1 h_ Q true) /\
 (((decide ((h_.ae.length:Int) < 1)) || (decide ((h_.ae.length:Int) > 8)))=false ->
 (mw h_.ae) /\
 ∀ Aj,aZ h_.ae=Aj ->
 VC23_J1 h_ Q Aj)
def VC45_J1 (Q:((List aw))->Prop) (v101:List aw):Prop :=
 Q v101
def VC45 (l_:List aK) (Q:(List aw)->Prop):Prop :=
 sm l_ ->
 ∃ (I1:(List aw)->Int->Prop) (μ1:(List aw)->Int->Nat),I1 [] 0/\∀ (v108:List aw) (v112:Int),I1 v108 v112 ->
 ((decide (v112 < (l_.length:Int)))=true ->
 ((0:Int)≤v112/\v112 < (l_.length:Int)) /\
 (v108.length+[(gi l_ v112).aN].length≤1099511627776) /\
 I1 (v108++[(gi l_ v112).aN]) (IntKind.i64.wrap (v112+1))/\μ1 (v108++[(gi l_ v112).aN]) (IntKind.i64.wrap (v112+1)) < μ1 v108 v112) /\
 ((decide (v112 < (l_.length:Int)))=false ->
 VC45_J1 Q v108)
def VC59_J1 (Q:Int->Prop):Prop :=
 Q (-1)
def VC59 (l_:List aK) (at_:Int) (Q:Int->Prop):Prop :=
 sm l_ ->
 ∃ (I1:Int->Prop) (μ1:Int->Nat),I1 (IntKind.i64.wrap (at_ - 1))/\∀ (v102:Int),I1 v102 ->
 ((decide (v102≥0))=true ->
 ((0:Int)≤v102/\v102 < (l_.length:Int)) /\
 ((0:Int)≤at_/\at_ < (l_.length:Int)) /\
 (((((gi l_ v102).aN).ah) == (((gi l_ at_).aN).ah))=true ->
 ((0:Int)≤v102/\v102 < (l_.length:Int)) /\
 Q ((gi l_ v102).az)) /\
 (((((gi l_ v102).aN).ah) == (((gi l_ at_).aN).ah))=false ->
 I1 (IntKind.i64.wrap (v102 - 1))/\μ1 (IntKind.i64.wrap (v102 - 1)) < μ1 v102)) /\
 ((decide (v102≥0))=false ->
 VC59_J1 Q)
def VC28_J2 (l_:List aK) (Q:(Int × Int)->Prop):Prop :=
 Q ((l_.length:Int),0)
def VC28_J4 (Q:(Int × Int)->Prop) (I1:Int->Prop) (μ1:Int->Nat) (v117:Int) (v126:Bool):Prop :=
 (v126=true ->
 Q (v117,31)) /\
 (v126=false ->
 I1 (IntKind.i64.wrap (v117+1))/\μ1 (IntKind.i64.wrap (v117+1)) < μ1 v117)
def VC28_J3 (objects:List ao) (l_:List aK) (Q:(Int × Int)->Prop) (I1:Int->Prop) (μ1:Int->Nat) (v117:Int) (v123:Bool):Prop :=
 (v123=true ->
 Q (v117,32)) /\
 (v123=false ->
 (((((gi l_ v117).aN).bm) == 1)=true ->
 ((0:Int)≤((gi l_ v117).az)/\((gi l_ v117).az) < (objects.length:Int)) /\
 VC28_J4 Q I1 μ1 v117 (decide ((((gi l_ v117).aN).N)≥((gi objects ((gi l_ v117).az)).aA)))) /\
 (((((gi l_ v117).aN).bm) == 1)=false ->
 VC28_J4 Q I1 μ1 v117 false))
def VC28_J1 (objects:List ao) (l_:List aK) (Q:(Int × Int)->Prop):Prop :=
 (sB l_) /\
 ∀ gE,cS l_=gE ->
 sm gE ->
 ∀ fX,e7 gE=fX ->
 ((fX.2 != 0)=true ->
 Q (fX.1,fX.2)) /\
 ((fX.2 != 0)=false ->
 ∃ (I1:Int->Prop) (μ1:Int->Nat),I1 0/\∀ (v117:Int),I1 v117 ->
 ((decide (v117 < (l_.length:Int)))=true ->
 ((0:Int)≤v117/\v117 < (l_.length:Int)) /\
 (((decide (((gi l_ v117).az) < 0)) || (decide (((gi l_ v117).az)≥(objects.length:Int))))=true ->
 Q (v117,2)) /\
 (((decide (((gi l_ v117).az) < 0)) || (decide (((gi l_ v117).az)≥(objects.length:Int))))=false ->
 (((((gi l_ v117).aN).bm) == 2)=true ->
 (tS l_ v117) /\
 ∀ xF,fL l_ v117=xF ->
 VC28_J3 objects l_ Q I1 μ1 v117 (xF != ((gi l_ v117).az))) /\
 (((((gi l_ v117).aN).bm) == 2)=false ->
 VC28_J3 objects l_ Q I1 μ1 v117 false))) /\
 ((decide (v117 < (l_.length:Int)))=false ->
 VC28_J2 l_ Q))
def VC28 (objects:List ao) (l_:List aK) (Q:Int × Int->Prop):Prop :=
 sm objects ->
 ∀ (_:sm l_),
 (((decide ((objects.length:Int) < 1)) || (decide ((objects.length:Int) > 8)))=true ->
 Q ((-1),2)) /\
 (((decide ((objects.length:Int) < 1)) || (decide ((objects.length:Int) > 8)))=false ->
 ∃ (I2:Int->Prop) (μ2:Int->Nat),I2 0/\∀ (v152:Int),I2 v152 ->
 ((decide (v152 < (objects.length:Int)))=true ->
 ((0:Int)≤v152/\v152 < (objects.length:Int)) /\
 ∀ (_:sm ((gi objects v152).Rows)),
 ∀ vp,cU (gi objects v152)=vp ->
 ((vp.2 != 0)=true ->
 Q ((-1),2)) /\
 ((vp.2 != 0)=false ->
 I2 (IntKind.i64.wrap (v152+1))/\μ2 (IntKind.i64.wrap (v152+1)) < μ2 v152)) /\
 ((decide (v152 < (objects.length:Int)))=false ->
 VC28_J1 objects l_ Q))
def VC48 (i_:Int) (aq:ak) (ax:Int) (Q:Bool->Prop):Prop :=
 sm aq.ae ->
 ∀ (_:sm aq.al),
 ((0:Int)≤i_/\i_ < (aq.al.length:Int)) /\
 Q (((gi aq.al i_).az) == ax)
def VC46_48_J1 (Q:((List aw))->Prop) (v101:List aw):Prop :=
 Q v101
def VC46_48_J2 (I1:(List aw)->Int->Prop) (μ1:(List aw)->Int->Nat) (v109:List aw) (v114:Int) (v117:List aw):Prop :=
 I1 v117 (IntKind.i64.wrap (v114+1))/\μ1 v117 (IntKind.i64.wrap (v114+1)) < μ1 v109 v114
def VC46_48 (l_:List aw) (aq:ak) (ax:Int) (Q:(List aw)->Prop):Prop :=
 sm l_ ->
 ∀ (_:sm aq.ae),
 sm aq.al ->
 ∃ (I1:(List aw)->Int->Prop) (μ1:(List aw)->Int->Nat),I1 [] 0/\∀ (v109:List aw) (v114:Int),I1 v109 v114 ->
 ((decide (v114 < (l_.length:Int)))=true ->
 ((0:Int)≤v114/\v114 < (l_.length:Int)) /\
 (yP v114 (⟨aq.ae,aq.al⟩:ak) ax) /\
 ∀ tQ,eX v114 (⟨aq.ae,aq.al⟩:ak) ax=tQ ->
 (tQ=true ->
 (v109.length+[(gi l_ v114)].length≤1099511627776) /\
 VC46_48_J2 I1 μ1 v109 v114 (v109++[(gi l_ v114)])) /\
 (tQ=false ->
 VC46_48_J2 I1 μ1 v109 v114 v109)) /\
 ((decide (v114 < (l_.length:Int)))=false ->
 VC46_48_J1 Q v109)
def VC17 (h_:ak) (k_:Int) (Q:fv->Prop):Prop :=
 sm h_.ae ->
 ∀ (_:sm h_.al),
 (gr h_) /\
 ∀ ay,aD h_=ay ->
 ((((ay.2 != 0) || (decide (k_ < 0))) || (decide (k_≥(h_.ae.length:Int))))=true ->
 Q (⟨(⟨0,0,0,[]⟩:ao),[]⟩:fv)) /\
 ((((ay.2 != 0) || (decide (k_ < 0))) || (decide (k_≥(h_.ae.length:Int))))=false ->
 (ln h_) /\
 ∀ fB,bo h_=fB ->
 sm fB ->
 (yR fB h_ k_) /\
 ∀ eK,bS fB h_ k_=eK ->
 sm eK ->
 ((0:Int)≤k_/\k_ < (h_.ae.length:Int)) /\
 ∀ (_:sm ((gi h_.ae k_).Rows)),
 (zb ((gi h_.ae k_).Rows)) /\
 ∀ gP,c8 ((gi h_.ae k_).Rows)=gP ->
 sm gP ->
 Q (⟨(⟨(gi h_.ae k_).au,(gi h_.ae k_).aA,(gi h_.ae k_).aH,gP⟩:ao),eK⟩:fv))
def VC24_J1 (Q:((List ab) × (List Int))->Prop) (c9:(List ab) × Int) (v120:List Int):Prop :=
 Q (c9.1,v120)
def VC24 (h_:ak) (Q:(List ab) × (List Int)->Prop):Prop :=
 sm h_.ae ->
 ∀ (_:sm h_.al),
 (gr h_) /\
 ∀ ay,aD h_=ay ->
 ((ay.2 != 0)=true ->
 Q ([],[])) /\
 ((ay.2 != 0)=false ->
 (ln h_) /\
 ∀ bb,bo h_=bb ->
 sm bb ->
 ∀ c9,gT bb=c9 ->
 sm c9.1 ->
 ∃ (I1:(List Int)->Int->Prop) (μ1:(List Int)->Int->Nat),I1 [] 0/\∀ (v127:List Int) (v132:Int),I1 v127 v132 ->
 ((decide (v132 < (c9.1.length:Int)))=true ->
 ((0:Int)≤v132/\v132 < (c9.1.length:Int)) /\
 ((0:Int)≤((gi c9.1 v132).aG)/\((gi c9.1 v132).aG) < (h_.al.length:Int)) /\
 (v127.length+[(gi h_.al ((gi c9.1 v132).aG)).az].length≤1099511627776) /\
 I1 (v127++[(gi h_.al ((gi c9.1 v132).aG)).az]) (IntKind.i64.wrap (v132+1))/\μ1 (v127++[(gi h_.al ((gi c9.1 v132).aG)).az]) (IntKind.i64.wrap (v132+1)) < μ1 v127 v132) /\
 ((decide (v132 < (c9.1.length:Int)))=false ->
 VC24_J1 Q c9 v127))
def VC16_J1 (Q:((List ab) × (List Int))->Prop) (c9:(List ab) × Int) (v120:List Int):Prop :=
 Q (c9.1,v120)
def VC16 (objects:List ao) (l_:List aK) (Q:(List ab) × (List Int)->Prop):Prop :=
 sm objects ->
 ∀ (_:sm l_),
 (k5 objects l_) /\
 ∀ ay,dE objects l_=ay ->
 ((ay.2 != 0)=true ->
 Q ([],[])) /\
 ((ay.2 != 0)=false ->
 (sB l_) /\
 ∀ bb,cS l_=bb ->
 sm bb ->
 ∀ c9,gD bb=c9 ->
 sm c9.1 ->
 ∃ (I1:(List Int)->Int->Prop) (μ1:(List Int)->Int->Nat),I1 [] 0/\∀ (v128:List Int) (v132:Int),I1 v128 v132 ->
 ((decide (v132 < (c9.1.length:Int)))=true ->
 ((0:Int)≤v132/\v132 < (c9.1.length:Int)) /\
 ((0:Int)≤((gi c9.1 v132).aG)/\((gi c9.1 v132).aG) < (l_.length:Int)) /\
 (v128.length+[(gi l_ ((gi c9.1 v132).aG)).az].length≤1099511627776) /\
 I1 (v128++[(gi l_ ((gi c9.1 v132).aG)).az]) (IntKind.i64.wrap (v132+1))/\μ1 (v128++[(gi l_ ((gi c9.1 v132).aG)).az]) (IntKind.i64.wrap (v132+1)) < μ1 v128 v132) /\
 ((decide (v132 < (c9.1.length:Int)))=false ->
 VC16_J1 Q c9 v128))
def VC41 (h_:ak) (Q:(List ab) × (List Int) × Int->Prop):Prop :=
 sm h_.ae ->
 ∀ (_:sm h_.al),
 (gr h_) /\
 ∀ ay,aD h_=ay ->
 ((ay.2 != 0)=true ->
 Q ([],[],ay.2)) /\
 ((ay.2 != 0)=false ->
 (gr h_) /\
 ∀ bb,cY h_=bb ->
 sm bb.1 ->
 ∀ (_:sm bb.2),
 ((decide ((bb.1.length:Int) > 20))=true ->
 Q ([],[],3)) /\
 ((decide ((bb.1.length:Int) > 20))=false ->
 Q (bb.1,bb.2,0)))
def VC69_J1 (Q:((List Int))->Prop) (v101:List Int):Prop :=
 Q v101
def VC69_J2 (I1:(List Int)->Int->Prop) (μ1:(List Int)->Int->Nat) (v107:List Int) (v112:Int) (v113:List Int):Prop :=
 I1 v113 (IntKind.i64.wrap (v112+1))/\μ1 v113 (IntKind.i64.wrap (v112+1)) < μ1 v107 v112
def VC69 (of:List Int) (k_:Int) (Q:(List Int)->Prop):Prop :=
 sm of ->
 ∃ (I1:(List Int)->Int->Prop) (μ1:(List Int)->Int->Nat),I1 [] 0/\∀ (v107:List Int) (v112:Int),I1 v107 v112 ->
 ((decide (v112 < (of.length:Int)))=true ->
 ((0:Int)≤v112/\v112 < (of.length:Int)) /\
 (((gi of v112) == k_)=true ->
 (v107.length+[v112].length≤1099511627776) /\
 VC69_J2 I1 μ1 v107 v112 (v107++[v112])) /\
 (((gi of v112) == k_)=false ->
 VC69_J2 I1 μ1 v107 v112 v107)) /\
 ((decide (v112 < (of.length:Int)))=false ->
 VC69_J1 Q v107)
def VC72 (i_:Int) (aq:List Int) (ax:Int) (Q:Bool->Prop):Prop :=
 sm aq ->
 ((0:Int)≤i_/\i_ < (aq.length:Int)) /\
 Q ((gi aq i_) == ax)
def VC71_72_J1 (Q:((List ab))->Prop) (v101:List ab):Prop :=
 Q v101
def VC71_72_J2 (I1:(List ab)->Int->Prop) (μ1:(List ab)->Int->Nat) (v108:List ab) (v113:Int) (v115:List ab):Prop :=
 I1 v115 (IntKind.i64.wrap (v113+1))/\μ1 v115 (IntKind.i64.wrap (v113+1)) < μ1 v108 v113
def VC71_72 (l_:List ab) (aq:List Int) (ax:Int) (Q:(List ab)->Prop):Prop :=
 sm l_ ->
 ∀ (_:sm aq),
 ∃ (I1:(List ab)->Int->Prop) (μ1:(List ab)->Int->Nat),I1 [] 0/\∀ (v108:List ab) (v113:Int),I1 v108 v113 ->
 ((decide (v113 < (l_.length:Int)))=true ->
 ((0:Int)≤v113/\v113 < (l_.length:Int)) /\
 (tR v113 aq ax) /\
 ∀ Am,du v113 aq ax=Am ->
 (Am=true ->
 (v108.length+[(gi l_ v113)].length≤1099511627776) /\
 VC71_72_J2 I1 μ1 v108 v113 (v108++[(gi l_ v113)])) /\
 (Am=false ->
 VC71_72_J2 I1 μ1 v108 v113 v108)) /\
 ((decide (v113 < (l_.length:Int)))=false ->
 VC71_72_J1 Q v108)
def VC42_J1 (Q:((List (List aa)) × Int)->Prop) (v101:List (List aa)):Prop :=
 Q (v101,0)
def VC42_J2 (I1:(List (List aa))->Int->Prop) (μ1:(List (List aa))->Int->Nat) (v108:List (List aa)) (v113:Int) (v147:List (List aa)) (v151:List aa):Prop :=
 (v147.length+[v151].length≤1099511627776) /\
 I1 (v147++[v151]) (IntKind.i64.wrap (v113+1))/\μ1 (v147++[v151]) (IntKind.i64.wrap (v113+1)) < μ1 v108 v113
def VC42 (h_:ak) (l_:List ab) (of:List Int) (Q:(List (List aa)) × Int->Prop):Prop :=
 sm h_.ae ->
 ∀ (_:sm h_.al),
 sm l_ ->
 ∀ (_:sm of),
 ∃ (I1:(List (List aa))->Int->Prop) (μ1:(List (List aa))->Int->Nat),I1 [] 0/\∀ (v108:List (List aa)) (v113:Int),I1 v108 v113 ->
 ((decide (v113 < (h_.ae.length:Int)))=true ->
 ((0:Int)≤v113/\v113 < (h_.ae.length:Int)) /\
 ∀ (_:sm ((gi h_.ae v113).Rows)),
 (sD of v113) /\
 ∀ dF,aW of v113=dF ->
 sm dF ->
 (yQ l_ of v113) /\
 ∀ jN,bz l_ of v113=jN ->
 sm jN ->
 (yL (gi h_.ae v113) jN) /\
 ∀ b9,bn (gi h_.ae v113) jN=b9 ->
 sm b9.1 ->
 ((b9.2 != 0)=true ->
 Q ([],b9.2)) /\
 ((b9.2 != 0)=false ->
 ∃ (I2:(List (List aa))->(List aa)->Int->Prop) (μ2:(List (List aa))->(List aa)->Int->Nat),I2 v108 b9.1 0/\∀ (v169:List (List aa)) (v174:List aa) (v179:Int),I2 v169 v174 v179 ->
 ((decide (v179 < (b9.1.length:Int)))=true ->
 ((0:Int)≤v179/\v179 < (v174.length:Int)) /\
 ((0:Int)≤((gi v174 v179).Oper)/\((gi v174 v179).Oper) < (dF.length:Int)) /\
 ((0:Int)≤v179/\v179 < (v174.length:Int)) /\
 I2 v169 (v174.set v179.toNat (⟨gi dF ((gi v174 v179).Oper),(gi v174 v179).Result⟩:aa)) (IntKind.i64.wrap (v179+1))/\μ2 v169 (v174.set v179.toNat (⟨gi dF ((gi v174 v179).Oper),(gi v174 v179).Result⟩:aa)) (IntKind.i64.wrap (v179+1)) < μ2 v169 v174 v179) /\
 ((decide (v179 < (b9.1.length:Int)))=false ->
 VC42_J2 I1 μ1 v108 v113 v169 v174))) /\
 ((decide (v113 < (h_.ae.length:Int)))=false ->
 VC42_J1 Q v108)
def VC91_J1 (Q:((List aa))->Prop) (v101:List aa):Prop :=
 Q v101
def VC91 (n_:Int) (Q:(List aa)->Prop):Prop :=
 ((decide (n_ < 0))=true ->
 False) /\
 ((decide (n_ < 0))=false ->
 ((decide ((IntKind.i64.wrap (n_ - (IntKind.i64.wrap (0 - 0)))) > 0))=true ->
 ((0:Int)≤0/\0≤(([]:List aa).length:Int)) /\
 ((0:Int) < (IntKind.i64.wrap (n_ - (IntKind.i64.wrap (0 - 0))))/\(IntKind.i64.wrap (n_ - (IntKind.i64.wrap (0 - 0))))≤1099511627776) /\
 ((0:Int)≤0/\0≤((List.replicate (IntKind.i64.wrap (n_ - (IntKind.i64.wrap (0 - 0)))).toNat (⟨0,0⟩:aa)).length:Int)) /\
 VC91_J1 Q ((List.replicate (IntKind.i64.wrap (n_ - (IntKind.i64.wrap (0 - 0)))).toNat (⟨0,0⟩:aa)).take (0:Int).toNat)) /\
 ((decide ((IntKind.i64.wrap (n_ - (IntKind.i64.wrap (0 - 0)))) > 0))=false ->
 VC91_J1 Q []))
def VC73_J2 (Q:((List aa))->Prop) (v110:List aa):Prop :=
 Q v110
def VC73_J1 (bW:List (List aa)) (Q:((List aa))->Prop) (v102:Int):Prop :=
 (yX v102) /\
 ∀ gE,cr v102=gE ->
 sm gE ->
 ∃ (I1:(List aa)->Int->Prop) (μ1:(List aa)->Int->Nat),I1 gE 0/\∀ (v116:List aa) (v121:Int),I1 v116 v121 ->
 ((decide (v121 < (bW.length:Int)))=true ->
 ((0:Int)≤v121/\v121 < (bW.length:Int)) /\
 ∀ (_:sm (gi bW v121)),
 (v116.length+(gi bW v121).length≤1099511627776) /\
 I1 (v116++(gi bW v121)) (IntKind.i64.wrap (v121+1))/\μ1 (v116++(gi bW v121)) (IntKind.i64.wrap (v121+1)) < μ1 v116 v121) /\
 ((decide (v121 < (bW.length:Int)))=false ->
 VC73_J2 Q v116)
def VC73 (bW:List (List aa)) (Q:(List aa)->Prop):Prop :=
 sm bW ->
 ∃ (I2:Int->Int->Prop) (μ2:Int->Int->Nat),I2 0 0/\∀ (v138:Int) (v140:Int),I2 v138 v140 ->
 ((decide (v140 < (bW.length:Int)))=true ->
 ((0:Int)≤v140/\v140 < (bW.length:Int)) /\
 ∀ (_:sm (gi bW v140)),
 ((decide ((IntKind.i64.wrap (v138+((gi bW v140).length:Int))) < 0))=true ->
 False) /\
 ((decide ((IntKind.i64.wrap (v138+((gi bW v140).length:Int))) < 0))=false ->
 I2 (IntKind.i64.wrap (v138+((gi bW v140).length:Int))) (IntKind.i64.wrap (v140+1))/\μ2 (IntKind.i64.wrap (v138+((gi bW v140).length:Int))) (IntKind.i64.wrap (v140+1)) < μ2 v138 v140)) /\
 ((decide (v140 < (bW.length:Int)))=false ->
 VC73_J1 bW Q v138)
def VC43_J2 (Q:((List aa) × (List (Int × Int)))->Prop) (ay:(List aa)) (v115:List (Int × Int)):Prop :=
 Q (ay,v115)
def VC43_J3 (I1:(List (Int × Int))->Int->Prop) (μ1:(List (Int × Int))->Int->Nat) (v123:List (Int × Int)) (v128:Int) (v131:List (Int × Int)):Prop :=
 I1 v131 (IntKind.i64.wrap (v128+1))/\μ1 v131 (IntKind.i64.wrap (v128+1)) < μ1 v123 v128
def VC43_J4 (I2:(List (Int × Int))->Int->Prop) (μ2:(List (Int × Int))->Int->Nat) (v141:List (Int × Int)) (v147:Int) (v150:List (Int × Int)):Prop :=
 I2 v150 (IntKind.i64.wrap (v147+1))/\μ2 v150 (IntKind.i64.wrap (v147+1)) < μ2 v141 v147
def VC43_J1 (l_:List ab) (Q:((List aa) × (List (Int × Int)))->Prop) (ay:(List aa)) (v110:List (Int × Int)):Prop :=
 ∃ (I1:(List (Int × Int))->Int->Prop) (μ1:(List (Int × Int))->Int->Nat),I1 v110 0/\∀ (v123:List (Int × Int)) (v128:Int),I1 v123 v128 ->
 ((decide (v128 < (ay.length:Int)))=true ->
 ((0:Int)≤v128/\v128 < (ay.length:Int)) /\
 ∃ (I2:(List (Int × Int))->Int->Prop) (μ2:(List (Int × Int))->Int->Nat),I2 v123 0/\∀ (v141:List (Int × Int)) (v147:Int),I2 v141 v147 ->
 ((decide (v147 < (ay.length:Int)))=true ->
 ((0:Int)≤v147/\v147 < (ay.length:Int)) /\
 ((0:Int)≤((gi ay v128).Oper)/\((gi ay v128).Oper) < (l_.length:Int)) /\
 ((0:Int)≤((gi ay v147).Oper)/\((gi ay v147).Oper) < (l_.length:Int)) /\
 ∀ vo,bf (gi l_ ((gi ay v128).Oper)) (gi l_ ((gi ay v147).Oper))=vo ->
 (vo=true ->
 (v141.length+[(v128,v147)].length≤1099511627776) /\
 VC43_J4 I2 μ2 v141 v147 (v141++[(v128,v147)])) /\
 (vo=false ->
 VC43_J4 I2 μ2 v141 v147 v141)) /\
 ((decide (v147 < (ay.length:Int)))=false ->
 VC43_J3 I1 μ1 v123 v128 v141)) /\
 ((decide (v128 < (ay.length:Int)))=false ->
 VC43_J2 Q ay v123)
def VC43_J5 (rows:List (List aa)) (I3:(List (Int × Int))->Int->Int->Prop) (μ3:(List (Int × Int))->Int->Int->Nat) (v196:List (Int × Int)) (v200:Int) (v202:Int) (v211:List (Int × Int)):Prop :=
 I3 v211 (IntKind.i64.wrap (v200+((gi rows v202).length:Int))) (IntKind.i64.wrap (v202+1))/\μ3 v211 (IntKind.i64.wrap (v200+((gi rows v202).length:Int))) (IntKind.i64.wrap (v202+1)) < μ3 v196 v200 v202
def VC43 (l_:List ab) (rows:List (List aa)) (Q:(List aa) × (List (Int × Int))->Prop):Prop :=
 sm l_ ->
 ∀ (_:sm rows),
 (sH rows) /\
 ∀ ay,cc rows=ay ->
 sm ay ->
 ∃ (I3:(List (Int × Int))->Int->Int->Prop) (μ3:(List (Int × Int))->Int->Int->Nat),I3 [] 0 0/\∀ (v196:List (Int × Int)) (v200:Int) (v202:Int),I3 v196 v200 v202 ->
 ((decide (v202 < (rows.length:Int)))=true ->
 ((0:Int)≤v202/\v202 < (rows.length:Int)) /\
 ∀ (_:sm (gi rows v202)),
 ∃ (I4:(List (Int × Int))->Int->Prop) (μ4:(List (Int × Int))->Int->Nat),I4 v196 1/\∀ (v219:List (Int × Int)) (v224:Int),I4 v219 v224 ->
 ((decide (v224 < ((gi rows v202).length:Int)))=true ->
 (v219.length+[(IntKind.i64.wrap ((IntKind.i64.wrap (v200+v224)) - 1),IntKind.i64.wrap (v200+v224))].length≤1099511627776) /\
 I4 (v219++[(IntKind.i64.wrap ((IntKind.i64.wrap (v200+v224)) - 1),IntKind.i64.wrap (v200+v224))]) (IntKind.i64.wrap (v224+1))/\μ4 (v219++[(IntKind.i64.wrap ((IntKind.i64.wrap (v200+v224)) - 1),IntKind.i64.wrap (v200+v224))]) (IntKind.i64.wrap (v224+1)) < μ4 v219 v224) /\
 ((decide (v224 < ((gi rows v202).length:Int)))=false ->
 VC43_J5 rows I3 μ3 v196 v200 v202 v219)) /\
 ((decide (v202 < (rows.length:Int)))=false ->
 VC43_J1 l_ Q ay v196)
def VC15_J1 (Q:((List aa) × Int)->Prop) (v139:List aa):Prop :=
 Q (v139,0)
def VC15 (h_:ak) (Q:(List aa) × Int->Prop):Prop :=
 sm h_.ae ->
 ∀ (_:sm h_.al),
 (gr h_) /\
 ∀ ay,cm h_=ay ->
 sm ay.1 ->
 ∀ (_:sm ay.2.1),
 ((ay.2.2 != 0)=true ->
 Q ([],ay.2.2)) /\
 ((ay.2.2 != 0)=false ->
 (yO h_ ay.1 ay.2.1) /\
 ∀ dA,cG h_ ay.1 ay.2.1=dA ->
 sm dA.1 ->
 ((dA.2 != 0)=true ->
 Q ([],dA.2)) /\
 ((dA.2 != 0)=false ->
 (vx ay.1 dA.1) /\
 ∀ fR,cg ay.1 dA.1=fR ->
 sm fR.1 ->
 ∀ (_:sm fR.2),
 ∀ gm,di (fR.1.length:Int) fR.2=gm ->
 sm gm.1 ->
 ((!gm.2)=true ->
 Q ([],41)) /\
 ((!gm.2)=false ->
 ∃ (I1:(List aa)->Int->Prop) (μ1:(List aa)->Int->Nat),I1 ([]:List aa) 0/\∀ (v146:List aa) (v151:Int),I1 v146 v151 ->
 ((decide (v151 < (gm.1.length:Int)))=true ->
 ((0:Int)≤v151/\v151 < (gm.1.length:Int)) /\
 ((0:Int)≤(gi gm.1 v151)/\(gi gm.1 v151) < (fR.1.length:Int)) /\
 (v146.length+[gi fR.1 (gi gm.1 v151)].length≤1099511627776) /\
 I1 (v146++[gi fR.1 (gi gm.1 v151)]) (IntKind.i64.wrap (v151+1))/\μ1 (v146++[gi fR.1 (gi gm.1 v151)]) (IntKind.i64.wrap (v151+1)) < μ1 v146 v151) /\
 ((decide (v151 < (gm.1.length:Int)))=false ->
 VC15_J1 Q v146))))
def VC9 (h_:ak) (Q:Bool × Int->Prop):Prop :=
 sm h_.ae ->
 ∀ (_:sm h_.al),
 (gr h_) /\
 ∀ ay,bV h_=ay ->
 sm ay.1 ->
 ((ay.2 == 41)=true ->
 Q (false,0)) /\
 ((ay.2 == 41)=false ->
 Q ((ay.2 == 0),ay.2))
def VC32 (i_:Int) (aq:List aa) (ax:List ab) (aP:List Int) (bF:Int) (Q:Bool->Prop):Prop :=
 sm aq ->
 ∀ (_:sm ax),
 sm aP ->
 ((0:Int)≤i_/\i_ < (aq.length:Int)) /\
 (((decide (((gi aq i_).Oper) < 0)) || (decide (((gi aq i_).Oper)≥(ax.length:Int))))=true ->
 Q true) /\
 (((decide (((gi aq i_).Oper) < 0)) || (decide (((gi aq i_).Oper)≥(ax.length:Int))))=false ->
 ((0:Int)≤((gi aq i_).Oper)/\((gi aq i_).Oper) < (aP.length:Int)) /\
 Q ((gi aP ((gi aq i_).Oper)) == bF))
def VC31_32_J1 (Q:((List aa))->Prop) (v101:List aa):Prop :=
 Q v101
def VC31_32_J2 (I1:(List aa)->Int->Prop) (μ1:(List aa)->Int->Nat) (v110:List aa) (v115:Int) (v119:List aa):Prop :=
 I1 v119 (IntKind.i64.wrap (v115+1))/\μ1 v119 (IntKind.i64.wrap (v115+1)) < μ1 v110 v115
def VC31_32 (l_:List aa) (aq:List aa) (ax:List ab) (aP:List Int) (bF:Int) (Q:(List aa)->Prop):Prop :=
 sm l_ ->
 ∀ (_:sm aq),
 sm ax ->
 ∀ (_:sm aP),
 ∃ (I1:(List aa)->Int->Prop) (μ1:(List aa)->Int->Nat),I1 [] 0/\∀ (v110:List aa) (v115:Int),I1 v110 v115 ->
 ((decide (v115 < (l_.length:Int)))=true ->
 ((0:Int)≤v115/\v115 < (l_.length:Int)) /\
 (yW v115 aq ax aP bF) /\
 ∀ jN,dI v115 aq ax aP bF=jN ->
 (jN=true ->
 (v110.length+[(gi l_ v115)].length≤1099511627776) /\
 VC31_32_J2 I1 μ1 v110 v115 (v110++[(gi l_ v115)])) /\
 (jN=false ->
 VC31_32_J2 I1 μ1 v110 v115 v110)) /\
 ((decide (v115 < (l_.length:Int)))=false ->
 VC31_32_J1 Q v110)
def VC12_J1 (aj:List aa) (Q:Bool->Prop) (bb:(List ab) × (List Int)):Prop :=
 ∀ j7,cB bb.1 aj=j7 ->
 ((decide (j7 < 0))=true ->
 (qH bb.1 aj) /\
 ∀ dF,b8 bb.1 aj=dF ->
 sm dF ->
 Q ((dF.length:Int) == 0)) /\
 ((decide (j7 < 0))=false ->
 Q false)
def VC12 (h_:ak) (aj:List aa) (Q:Bool->Prop):Prop :=
 sm h_.ae ->
 ∀ (_:sm h_.al),
 sm aj ->
 (gr h_) /\
 ∀ ay,aD h_=ay ->
 ((ay.2 != 0)=true ->
 Q false) /\
 ((ay.2 != 0)=false ->
 (gr h_) /\
 ∀ bb,cY h_=bb ->
 sm bb.1 ->
 ∀ (_:sm bb.2),
 ∃ (I1:Int->Prop) (μ1:Int->Nat),I1 0/\∀ (v129:Int),I1 v129 ->
 ((decide (v129 < (h_.ae.length:Int)))=true ->
 ((0:Int)≤v129/\v129 < (h_.ae.length:Int)) /\
 ∀ (_:sm ((gi h_.ae v129).Rows)),
 (yV aj aj bb.1 bb.2 v129) /\
 ∀ b9,bR aj aj bb.1 bb.2 v129=b9 ->
 sm b9 ->
 (kS (gi h_.ae v129) bb.1 b9) /\
 ∀ vr,cd (gi h_.ae v129) bb.1 b9=vr ->
 ((vr.2.2 != 0)=true ->
 Q false) /\
 ((vr.2.2 != 0)=false ->
 I1 (IntKind.i64.wrap (v129+1))/\μ1 (IntKind.i64.wrap (v129+1)) < μ1 v129)) /\
 ((decide (v129 < (h_.ae.length:Int)))=false ->
 VC12_J1 aj Q bb))
def VC13_J2 (aj:List aa) (Q:Bool->Prop) (bb:(List ab) × (List Int)):Prop :=
 ∀ dF,eG bb.1 aj=dF ->
 ((decide (dF < 0))=true ->
 (sC bb.1 aj false) /\
 ∀ bU,eW bb.1 aj false=bU ->
 sm bU ->
 Q ((bU.length:Int) == 0)) /\
 ((decide (dF < 0))=false ->
 Q false)
def VC13_J3 (objects:List ao) (Q:Bool->Prop) (bb:(List ab) × (List Int)) (I1:Int->Prop) (μ1:Int->Nat) (v136:Int) (v141:List aa):Prop :=
 ((0:Int)≤v136/\v136 < (objects.length:Int)) /\
 ∀ (_:sm ((gi objects v136).Rows)),
 ((0:Int)≤v136/\v136 < (objects.length:Int)) /\
 ∀ vq,cW (gi objects v136) bb.1 ((gi objects v136).aH) v141=vq ->
 ((vq.2.2 != 0)=true ->
 Q false) /\
 ((vq.2.2 != 0)=false ->
 I1 (IntKind.i64.wrap (v136+1))/\μ1 (IntKind.i64.wrap (v136+1)) < μ1 v136)
def VC13_J4 (I2:(List aa)->Int->Prop) (μ2:(List aa)->Int->Nat) (v166:List aa) (v170:Int) (v175:List aa):Prop :=
 I2 v175 (IntKind.i64.wrap (v170+1))/\μ2 v175 (IntKind.i64.wrap (v170+1)) < μ2 v166 v170
def VC13_J1 (objects:List ao) (aj:List aa) (Q:Bool->Prop) (bb:(List ab) × (List Int)):Prop :=
 ∃ (I1:Int->Prop) (μ1:Int->Nat),I1 0/\∀ (v136:Int),I1 v136 ->
 ((decide (v136 < (objects.length:Int)))=true ->
 ∃ (I2:(List aa)->Int->Prop) (μ2:(List aa)->Int->Nat),I2 [] 0/\∀ (v166:List aa) (v170:Int),I2 v166 v170 ->
 ((decide (v170 < (aj.length:Int)))=true ->
 ((0:Int)≤v170/\v170 < (aj.length:Int)) /\
 ((0:Int)≤((gi aj v170).Oper)/\((gi aj v170).Oper) < (bb.2.length:Int)) /\
 (((gi bb.2 ((gi aj v170).Oper)) == v136)=true ->
 ((0:Int)≤v170/\v170 < (aj.length:Int)) /\
 (v166.length+[gi aj v170].length≤1099511627776) /\
 VC13_J4 I2 μ2 v166 v170 (v166++[gi aj v170])) /\
 (((gi bb.2 ((gi aj v170).Oper)) == v136)=false ->
 VC13_J4 I2 μ2 v166 v170 v166)) /\
 ((decide (v170 < (aj.length:Int)))=false ->
 VC13_J3 objects Q bb I1 μ1 v136 v166)) /\
 ((decide (v136 < (objects.length:Int)))=false ->
 VC13_J2 aj Q bb)
def VC13_J5 (Q:Bool->Prop) (I3:Int->Prop) (μ3:Int->Nat) (v213:Int) (v218:Bool):Prop :=
 (v218=true ->
 Q false) /\
 (v218=false ->
 I3 (IntKind.i64.wrap (v213+1))/\μ3 (IntKind.i64.wrap (v213+1)) < μ3 v213)
def VC13 (objects:List ao) (l_:List aK) (aj:List aa) (Q:Bool->Prop):Prop :=
 sm objects ->
 ∀ (_:sm l_),
 sm aj ->
 (k5 objects l_) /\
 ∀ ay,dE objects l_=ay ->
 ((ay.2 != 0)=true ->
 Q false) /\
 ((ay.2 != 0)=false ->
 (k5 objects l_) /\
 ∀ bb,dc objects l_=bb ->
 sm bb.1 ->
 ∀ (_:sm bb.2),
 ∃ (I3:Int->Prop) (μ3:Int->Nat),I3 0/\∀ (v213:Int),I3 v213 ->
 ((decide (v213 < (aj.length:Int)))=true ->
 ((0:Int)≤v213/\v213 < (aj.length:Int)) /\
 ((decide (((gi aj v213).Oper) < 0))=true ->
 VC13_J5 Q I3 μ3 v213 true) /\
 ((decide (((gi aj v213).Oper) < 0))=false ->
 ((0:Int)≤v213/\v213 < (aj.length:Int)) /\
 VC13_J5 Q I3 μ3 v213 (decide (((gi aj v213).Oper)≥(bb.1.length:Int))))) /\
 ((decide (v213 < (aj.length:Int)))=false ->
 VC13_J1 objects aj Q bb))
def VC27 (Q:ao->Prop):Prop :=
 Q (⟨2,2,0,[(⟨0,0,1,0⟩:bc),(⟨0,1,0,0⟩:bc),(⟨1,0,1,0⟩:bc),(⟨1,1,1,1⟩:bc)]⟩:ao)
def VC22 (object:Int) (Q:ak->Prop):Prop :=
 ∀ ay,dy=ay ->
 sm ay.Rows ->
 ∀ bG,dy=bG ->
 sm bG.Rows ->
 Q (⟨[ay,bG],[(⟨0,(⟨1,1,0⟩:aw)⟩:aV),(⟨object,(⟨1,2,1⟩:aw)⟩:aV),(⟨0,(⟨2,1,0⟩:aw)⟩:aV),(⟨object,(⟨2,2,1⟩:aw)⟩:aV)]⟩:ak)
def VC11_J1 (Q:((List aK))->Prop) (v101:List aK):Prop :=
 Q v101
def VC11 (h_:ak) (Q:(List aK)->Prop):Prop :=
 sm h_.ae ->
 ∀ (_:sm h_.al),
 ∃ (I1:(List aK)->Int->Prop) (μ1:(List aK)->Int->Nat),I1 [] 0/\∀ (v107:List aK) (v111:Int),I1 v107 v111 ->
 ((decide (v111 < (h_.al.length:Int)))=true ->
 ((0:Int)≤v111/\v111 < (h_.al.length:Int)) /\
 ((0:Int)≤v111/\v111 < (h_.al.length:Int)) /\
 (v107.length+[(⟨(gi h_.al v111).az,((gi h_.al v111).aN)⟩:aK)].length≤1099511627776) /\
 I1 (v107++[(⟨(gi h_.al v111).az,((gi h_.al v111).aN)⟩:aK)]) (IntKind.i64.wrap (v111+1))/\μ1 (v107++[(⟨(gi h_.al v111).az,((gi h_.al v111).aN)⟩:aK)]) (IntKind.i64.wrap (v111+1)) < μ1 v107 v111) /\
 ((decide (v111 < (h_.al.length:Int)))=false ->
 VC11_J1 Q v107)
def VC7_J1 (Q:Int->Prop) (v101:Int):Prop :=
 Q v101
def VC7_J2 (I1:Int->Int->Prop) (μ1:Int->Int->Nat) (v102:Int) (v103:Int) (v106:Int):Prop :=
 I1 v106 (IntKind.i64.wrap (v103+1))/\μ1 v106 (IntKind.i64.wrap (v103+1)) < μ1 v102 v103
def VC7 (h_:ak) (Q:Int->Prop):Prop :=
 sm h_.ae ->
 ∀ (_:sm h_.al),
 ∃ (I1:Int->Int->Prop) (μ1:Int->Int->Nat),I1 0 0/\∀ (v102:Int) (v103:Int),I1 v102 v103 ->
 ((decide (v103 < (h_.al.length:Int)))=true ->
 ((0:Int)≤v103/\v103 < (h_.al.length:Int)) /\
 (((((gi h_.al v103).aN).bm) == 1)=true ->
 VC7_J2 I1 μ1 v102 v103 (IntKind.i64.wrap (v102+1))) /\
 (((((gi h_.al v103).aN).bm) == 1)=false ->
 VC7_J2 I1 μ1 v102 v103 v102)) /\
 ((decide (v103 < (h_.al.length:Int)))=false ->
 VC7_J1 Q v102)
def VC19_J1 (Q:Int->Prop) (v101:Int):Prop :=
 Q v101
def VC19_J2 (I1:Int->Int->Prop) (μ1:Int->Int->Nat) (v103:Int) (v104:Int) (v106:Int):Prop :=
 I1 v106 (IntKind.i64.wrap (v104+1))/\μ1 v106 (IntKind.i64.wrap (v104+1)) < μ1 v103 v104
def VC19 (dW:List Int) (i_:Int) (Q:Int->Prop):Prop :=
 sm dW ->
 ∃ (I1:Int->Int->Prop) (μ1:Int->Int->Nat),I1 0 0/\∀ (v103:Int) (v104:Int),I1 v103 v104 ->
 ((decide (v104 < i_))=true ->
 ((0:Int)≤v104/\v104 < (dW.length:Int)) /\
 ((0:Int)≤i_/\i_ < (dW.length:Int)) /\
 (((gi dW v104) == (gi dW i_))=true ->
 VC19_J2 I1 μ1 v103 v104 (IntKind.i64.wrap (v103+1))) /\
 (((gi dW v104) == (gi dW i_))=false ->
 VC19_J2 I1 μ1 v103 v104 v103)) /\
 ((decide (v104 < i_))=false ->
 VC19_J1 Q v103)
def VC6_J1 (Q:Bool->Prop):Prop :=
 Q true
def VC6 (h_:ak) (Q:Bool->Prop):Prop :=
 sm h_.ae ->
 ∀ (_:sm h_.al),
 (((decide ((h_.ae.length:Int) > 10)) || (decide ((h_.al.length:Int) > 20)))=true ->
 Q false) /\
 (((decide ((h_.ae.length:Int) > 10)) || (decide ((h_.al.length:Int) > 20)))=false ->
 ∃ (I1:Int->Prop) (μ1:Int->Nat),I1 0/\∀ (v101:Int),I1 v101 ->
 ((decide (v101 < (h_.ae.length:Int)))=true ->
 ((0:Int)≤v101/\v101 < (h_.ae.length:Int)) /\
 ∀ (_:sm ((gi h_.ae v101).Rows)),
 ∀ fX,ig (gi h_.ae v101)=fX ->
 ((!fX)=true ->
 Q false) /\
 ((!fX)=false ->
 I1 (IntKind.i64.wrap (v101+1))/\μ1 (IntKind.i64.wrap (v101+1)) < μ1 v101)) /\
 ((decide (v101 < (h_.ae.length:Int)))=false ->
 VC6_J1 Q))
def VC8 (Q:Bool->Prop):Prop :=
 ∀ ay,cy 0=ay ->
 sm ay.ae ->
 ∀ (_:sm ay.al),
 (gr ay) /\
 ∀ dA,fe ay=dA ->
 ∀ ir,cy 1=ir ->
 sm ir.ae ->
 ∀ (_:sm ir.al),
 (gr ir) /\
 ∀ bU,fe ir=bU ->
 ∀ gP,cy 0=gP ->
 sm gP.ae ->
 ∀ (_:sm gP.al),
 (gr gP) /\
 ∀ b9,bV gP=b9 ->
 sm b9.1 ->
 ∀ mu,cy 1=mu ->
 sm mu.ae ->
 ∀ (_:sm mu.al),
 (gr mu) /\
 ∀ iK,bV mu=iK ->
 sm iK.1 ->
 ∀ tP,cy 0=tP ->
 sm tP.ae ->
 ∀ (_:sm tP.al),
 (gr tP) /\
 ∀ fa,aD tP=fa ->
 (gr (⟨[],[]⟩:ak)) /\
 ∀ jt,aD (⟨[],[]⟩:ak)=jt ->
 ∀ gW,cy 0=gW ->
 sm gW.ae ->
 ∀ (_:sm gW.al),
 ((0:Int)≤3/\3 < (gW.al.length:Int)) /\
 (gr (⟨gW.ae,(gW.al.set (3:Int).toNat (⟨1,(gi gW.al 3).aN⟩:aV))⟩:ak)) /\
 ∀ fW,aD (⟨gW.ae,(gW.al.set (3:Int).toNat (⟨1,(gi gW.al 3).aN⟩:aV))⟩:ak)=fW ->
 ∀ tO,cy 1=tO ->
 sm tO.ae ->
 ∀ (_:sm tO.al),
 (gr tO) /\
 ∀ gl,cY tO=gl ->
 sm gl.1 ->
 ∀ (_:sm gl.2),
 ∀ tN,cy 1=tN ->
 sm tN.ae ->
 ∀ (_:sm tN.al),
 (vv tN 1) /\
 ∀ df,dG tN 1=df ->
 sm df.az.Rows ->
 ∀ (_:sm df.al),
 (((((dA.1 && (dA.2 == 0)) && (!bU.1)) && (bU.2 == 0)) && (b9.2 == 0))=true ->
 ∀ qG,cy 0=qG ->
 sm qG.ae ->
 ∀ (_:sm qG.al),
 (sE qG b9.1) /\
 ∀ ib,eH qG b9.1=ib ->
 (((((((((ib && ((b9.1.length:Int) == 2)) && (iK.2 == 41)) && (fa.1 == 4)) && (fa.2 == 0)) && (jt.2 == 2)) && (fW.1 == 3)) && (fW.2 == 32)) && ((gl.1.length:Int) == 2))=true ->
 ∀ r9,e8 gl.2 [0,1]=r9 ->
 ((r9 && ((df.al.length:Int) == 2))=true ->
 ∀ qF,dy=qF ->
 sm qF.Rows ->
 ∀ vm,ji df.az qF=vm ->
 (vm=true ->
 ∀ qE,cy 0=qE ->
 sm qE.ae ->
 ∀ (_:sm qE.al),
 (sE qE []) /\
 ∀ tM,eH qE []=tM ->
 Q (!tM)) /\
 (vm=false ->
 Q false)) /\
 ((r9 && ((df.al.length:Int) == 2))=false ->
 Q false)) /\
 (((((((((ib && ((b9.1.length:Int) == 2)) && (iK.2 == 41)) && (fa.1 == 4)) && (fa.2 == 0)) && (jt.2 == 2)) && (fW.1 == 3)) && (fW.2 == 32)) && ((gl.1.length:Int) == 2))=false ->
 Q false)) /\
 (((((dA.1 && (dA.2 == 0)) && (!bU.1)) && (bU.2 == 0)) && (b9.2 == 0))=false ->
 Q false)
def VC5_J3 (Q:Bool->Prop):Prop :=
 ∀ mu,fN=mu ->
 Q mu
def VC5_J4 (Q:Bool->Prop) (I1:Int->Prop) (μ1:Int->Nat) (v152:Int) (fG:fv) (lM:(List ab) × Int) (v175:List aa):Prop :=
 (kS fG.az lM.1 v175) /\
 ∀ xD,de fG.az lM.1 v175=xD ->
 ((!xD)=true ->
 Q false) /\
 ((!xD)=false ->
 I1 (IntKind.i64.wrap (v152+1))/\μ1 (IntKind.i64.wrap (v152+1)) < μ1 v152)
def VC5_J5 (I2:(List aa)->Int->Prop) (μ2:(List aa)->Int->Nat) (v190:List aa) (v194:Int) (v202:List aa):Prop :=
 I2 v202 (IntKind.i64.wrap (v194+1))/\μ2 v202 (IntKind.i64.wrap (v194+1)) < μ2 v190 v194
def VC5_J2 (h_:ak) (Q:Bool->Prop) (bG:(List aa) × Int) (v124:Bool):Prop :=
 (v124=true ->
 Q false) /\
 (v124=false ->
 (ln (⟨h_.ae,h_.al⟩:ak)) /\
 ∀ gP,fm (⟨h_.ae,h_.al⟩:ak)=gP ->
 sm gP ->
 (k5 h_.ae gP) /\
 ∀ gO,dc h_.ae gP=gO ->
 sm gO.1 ->
 ∀ (_:sm gO.2),
 ∃ (I1:Int->Prop) (μ1:Int->Nat),I1 0/\∀ (v152:Int),I1 v152 ->
 ((decide (v152 < (h_.ae.length:Int)))=true ->
 (vv (⟨h_.ae,h_.al⟩:ak) v152) /\
 ∀ fG,dG (⟨h_.ae,h_.al⟩:ak) v152=fG ->
 sm fG.az.Rows ->
 ∀ (_:sm fG.al),
 ∀ lM,gD fG.al=lM ->
 sm lM.1 ->
 ∃ (I2:(List aa)->Int->Prop) (μ2:(List aa)->Int->Nat),I2 [] 0/\∀ (v190:List aa) (v194:Int),I2 v190 v194 ->
 ((decide (v194 < (bG.1.length:Int)))=true ->
 ((0:Int)≤v194/\v194 < (bG.1.length:Int)) /\
 ((0:Int)≤((gi bG.1 v194).Oper)/\((gi bG.1 v194).Oper) < (gO.2.length:Int)) /\
 (((gi gO.2 ((gi bG.1 v194).Oper)) == v152)=true ->
 ((0:Int)≤v194/\v194 < (bG.1.length:Int)) /\
 ((0:Int)≤v194/\v194 < (bG.1.length:Int)) /\
 (yM gO.2 ((gi bG.1 v194).Oper)) /\
 ∀ p1,ew gO.2 ((gi bG.1 v194).Oper)=p1 ->
 (v190.length+[(⟨p1,(gi bG.1 v194).Result⟩:aa)].length≤1099511627776) /\
 VC5_J5 I2 μ2 v190 v194 (v190++[(⟨p1,(gi bG.1 v194).Result⟩:aa)])) /\
 (((gi gO.2 ((gi bG.1 v194).Oper)) == v152)=false ->
 VC5_J5 I2 μ2 v190 v194 v190)) /\
 ((decide (v194 < (bG.1.length:Int)))=false ->
 VC5_J4 Q I1 μ1 v152 fG lM v190)) /\
 ((decide (v152 < (h_.ae.length:Int)))=false ->
 VC5_J3 Q))
def VC5_J1 (h_:ak) (Q:Bool->Prop) (v101:Bool):Prop :=
 (v101=true ->
 ∀ nE,fN=nE ->
 Q nE) /\
 (v101=false ->
 (gr (⟨h_.ae,h_.al⟩:ak)) /\
 ∀ bG,bV (⟨h_.ae,h_.al⟩:ak)=bG ->
 sm bG.1 ->
 (gr (⟨h_.ae,h_.al⟩:ak)) /\
 ∀ ir,fe (⟨h_.ae,h_.al⟩:ak)=ir ->
 (((((bG.2 == 0) != ir.1) || ((bG.2 == 41) && (ir.2 != 0))) || ((bG.2 != 0) && ((bG.1.length:Int) != 0)))=true ->
 Q false) /\
 (((((bG.2 == 0) != ir.1) || ((bG.2 == 41) && (ir.2 != 0))) || ((bG.2 != 0) && ((bG.1.length:Int) != 0)))=false ->
 ((bG.2 != 0)=true ->
 ∀ xH,fN=xH ->
 Q xH) /\
 ((bG.2 != 0)=false ->
 (ln (⟨h_.ae,h_.al⟩:ak)) /\
 ∀ ib,fm (⟨h_.ae,h_.al⟩:ak)=ib ->
 sm ib ->
 (yN h_.ae ib bG.1) /\
 ∀ vn,fM h_.ae ib bG.1=vn ->
 ((!vn)=true ->
 VC5_J2 h_ Q bG true) /\
 ((!vn)=false ->
 (sE (⟨h_.ae,h_.al⟩:ak) bG.1) /\
 ∀ xC,eH (⟨h_.ae,h_.al⟩:ak) bG.1=xC ->
 VC5_J2 h_ Q bG (!xC)))))
def VC5 (h_:ak) (Q:Bool->Prop):Prop :=
 sm h_.ae ->
 ∀ (_:sm h_.al),
 ∀ xB,ie h_=xB ->
 ((!xB)=true ->
 VC5_J1 h_ Q true) /\
 ((!xB)=false ->
 ∀ Ah,fu h_=Ah ->
 VC5_J1 h_ Q (decide (Ah > 8)))
end Go.Proofs.YteahldlmkheleaaGreat
