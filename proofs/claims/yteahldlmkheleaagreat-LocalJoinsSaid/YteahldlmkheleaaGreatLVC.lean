import Derived.Test.YteahldlmkheleaaGreatLSpec
set_option linter.all false
namespace Go.Proofs.YteahldlmkheleaaGreat
open Go Go.Sv
/-- GT/Ca.Q9 -/
def VC21 (o_:al) (Q:Bool->Prop):Prop :=
 sm o_.Rows ->
 Q (decide ((o_.Rows.length:Int)≤300))
def VC81 (n_:Int) (top:Int) (Q:Bool->Prop):Prop :=
 Q ((decide (n_≥0)) && (decide (n_ < top)))
def VC107_J1 (Q:Int->Prop):Prop :=
 Q 0
def VC107 (vals:List Int) (Q:Int->Prop):Prop :=
 sm vals ->
 ∃ (I1:Int->Prop) (μ1:Int->Nat),I1 0/\∀ (v102:Int),I1 v102 ->
 ((decide (v102 < (vals.length:Int)))=true ->
 ((0:Int)≤v102/\v102 < (vals.length:Int)) /\
 (((gi vals v102) != 0)=true ->
 Q (gi vals v102)) /\
 (((gi vals v102) != 0)=false ->
 I1 (IntKind.i64.wrap (v102+1))/\μ1 (IntKind.i64.wrap (v102+1)) < μ1 v102)) /\
 ((decide (v102 < (vals.length:Int)))=false ->
 VC107_J1 Q)
def VC113 (x_:Int) (Q:Bool->Prop):Prop :=
 Q (x_ != x_)
def VC108 (x_:Int) (y_:Int) (Q:Int->Prop):Prop :=
 ∀ av,eH x_=av ->
 ∀ a8,eH y_=a8 ->
 (av=true ->
 (a8=true ->
 Q 0) /\
 (a8=false ->
 Q (-1))) /\
 (av=false ->
 (a8=true ->
 Q 1) /\
 (a8=false ->
 ((decide (x_ < y_))=true ->
 Q (-1)) /\
 ((decide (x_ < y_))=false ->
 ((decide (x_ > y_))=true ->
 Q 1) /\
 ((decide (x_ > y_))=false ->
 Q 0))))
def VC96 (a_:a9) (b_:a9) (Q:Int->Prop):Prop :=
 ∀ f8,df a_.State b_.State=f8 ->
 ∀ fa,df a_.Kind b_.Kind=fa ->
 ∀ gW,gf [f8,fa]=gW ->
 Q gW
def VC82_J2 (Q:Int->Prop) (v114:Bool):Prop :=
 (v114=true ->
 Q 32) /\
 (v114=false ->
 Q 0)
def VC82_J1 (o_:al) (i_:Int) (Q:Int->Prop) (v104:Bool):Prop :=
 (v104=true ->
 Q 30) /\
 (v104=false ->
 ∀ iI,bU ((gi o_.Rows i_).Kind) o_.ax=iI ->
 ((!iI)=true ->
 Q 31) /\
 ((!iI)=false ->
 ∀ fF,bU ((gi o_.Rows i_).Result) 1000001=fF ->
 ((!fF)=true ->
 Q 7) /\
 ((!fF)=false ->
 ((decide (i_ > 0))=true ->
 ((0:Int)≤(IntKind.i64.wrap (i_ - 1))/\(IntKind.i64.wrap (i_ - 1)) < (o_.Rows.length:Int)) /\
 ∀ um,fZ (gi o_.Rows (IntKind.i64.wrap (i_ - 1))) (gi o_.Rows i_)=um ->
 VC82_J2 Q (decide (um≥0))) /\
 ((decide (i_ > 0))=false ->
 VC82_J2 Q false))))
def VC82 (o_:al) (i_:Int) (Q:Int->Prop):Prop :=
 sm o_.Rows ->
 ((0:Int)≤i_/\i_ < (o_.Rows.length:Int)) /\
 ∀ wj,bU ((gi o_.Rows i_).State) o_.aq=wj ->
 ((!wj)=true ->
 VC82_J1 o_ i_ Q true) /\
 ((!wj)=false ->
 ∀ ji,bU ((gi o_.Rows i_).Next) o_.aq=ji ->
 VC82_J1 o_ i_ Q (!ji))
def VC53_J2 (o_:al) (Q:(Int × Int)->Prop):Prop :=
 Q ((o_.Rows.length:Int),0)
def VC53_J1 (o_:al) (Q:(Int × Int)->Prop) (v101:Bool):Prop :=
 (v101=true ->
 Q ((-1),2)) /\
 (v101=false ->
 ∃ (I1:Int->Prop) (μ1:Int->Nat),I1 0/\∀ (v104:Int),I1 v104 ->
 ((decide (v104 < (o_.Rows.length:Int)))=true ->
 (preRow o_ v104) /\
 ∀ iI,hK o_ v104=iI ->
 ((iI != 0)=true ->
 Q (v104,iI)) /\
 ((iI != 0)=false ->
 I1 (IntKind.i64.wrap (v104+1))/\μ1 (IntKind.i64.wrap (v104+1)) < μ1 v104)) /\
 ((decide (v104 < (o_.Rows.length:Int)))=false ->
 VC53_J2 o_ Q))
def VC53 (o_:al) (Q:Int × Int->Prop):Prop :=
 sm o_.Rows ->
 ∀ d4,bU (IntKind.i64.wrap (o_.aq - 1)) 32=d4 ->
 ((!d4)=true ->
 VC53_J1 o_ Q true) /\
 ((!d4)=false ->
 ∀ fy,bU (IntKind.i64.wrap (o_.ax - 1)) 64=fy ->
 ((!fy)=true ->
 VC53_J1 o_ Q true) /\
 ((!fy)=false ->
 ∀ yX,bU o_.aE o_.aq=yX ->
 VC53_J1 o_ Q (!yX)))
def VC85 (o_:al) (state:Int) (Q:Int->Prop):Prop :=
 sm o_.Rows ->
 (jV o_) /\
 ∀ av,bq o_=av ->
 ((av.2 != 0)=true ->
 Q 2) /\
 ((av.2 != 0)=false ->
 (((decide (state < 0)) || (decide (state≥o_.aq)))=true ->
 Q 30) /\
 (((decide (state < 0)) || (decide (state≥o_.aq)))=false ->
 Q 0))
def VC86 (o_:al) (l_:List ab) (state:Int) (Q:(List ab) × (List (Int × Int)) × al × Int->Prop):Prop :=
 sm o_.Rows ->
 ∀ (_:sm l_),
 Q (l_,([]:List (Int × Int)),o_,state)
def VC110 (r_:a9) (am:Int) (ap:Int) (Q:Bool->Prop):Prop :=
 Q (r_.State == am && (r_.Kind == ap && (r_.Next == r_.Next && (r_.Result == r_.Result && true))))
def VC111_110_J1 (Q:Int->Prop):Prop :=
 Q (-1)
def VC111_110 (s_:List a9) (am:Int) (ap:Int) (Q:Int->Prop):Prop :=
 sm s_ ->
 ∃ (I1:Int->Prop) (μ1:Int->Nat),I1 0/\∀ (v102:Int),I1 v102 ->
 ((decide (v102 < (s_.length:Int)))=true ->
 ((0:Int)≤v102/\v102 < (s_.length:Int)) /\
 ∀ iI,gl (gi s_ v102) am ap=iI ->
 (iI=true ->
 Q v102) /\
 (iI=false ->
 I1 (IntKind.i64.wrap (v102+1))/\μ1 (IntKind.i64.wrap (v102+1)) < μ1 v102)) /\
 ((decide (v102 < (s_.length:Int)))=false ->
 VC111_110_J1 Q)
def VC103 (o_:al) (state:Int) (kind:Int) (Q:Int × Int × Bool->Prop):Prop :=
 sm o_.Rows ->
 ∀ av,bg o_.Rows state kind=av ->
 ((decide (av < 0))=true ->
 Q (0,0,false)) /\
 ((decide (av < 0))=false ->
 ((0:Int)≤av/\av < (o_.Rows.length:Int)) /\
 ((0:Int)≤av/\av < (o_.Rows.length:Int)) /\
 Q ((gi o_.Rows av).Next,(gi o_.Rows av).Result,true))
def VC109 (t_:gU) (state:Int) (kind:Int) (Q:Int × Int × Bool->Prop):Prop :=
 sm t_.o.Rows ->
 ∀ av,cj t_.o state kind=av ->
 Q (av.1,av.2.1,av.2.2)
def VC98 (o_:al) (state:Int) (kind:Int) (result:Int) (Q:Int × Int->Prop):Prop :=
 sm o_.Rows ->
 (((decide (state < 0)) || (decide (state≥o_.aq)))=true ->
 Q (0,30)) /\
 (((decide (state < 0)) || (decide (state≥o_.aq)))=false ->
 ∀ av,eI (⟨o_⟩:gU) state kind=av ->
 (((!av.2.2) || (av.2.1 != result))=true ->
 Q (0,40)) /\
 (((!av.2.2) || (av.2.1 != result))=false ->
 Q (av.1,0)))
def VC97_J1 (p_:aa) (ap:List (Int × Int)) (bz:Int) (Q:(Int × Int × (List (Int × Int)) × Int)->Prop) (bA:Int × Int) (v112:Int):Prop :=
 ((v112 != 0)=true ->
 Q (0,v112,de ap p_.Oper (IntKind.i64.wrap (((aC ap p_.Oper).getD 0)+1)),bz)) /\
 ((v112 != 0)=false ->
 Q (bA.1,0,de ap p_.Oper (IntKind.i64.wrap (((aC ap p_.Oper).getD 0)+1)),bA.1))
def VC97 (p_:aa) (am:List ab) (ap:List (Int × Int)) (aM:al) (bz:Int) (Q:Int × Int × (List (Int × Int)) × Int->Prop):Prop :=
 sm am ->
 ∀ (_:sm aM.Rows),
 (((decide (p_.Oper < 0)) || (decide (p_.Oper≥(am.length:Int))))=true ->
 Q (0,2,ap,bz)) /\
 (((decide (p_.Oper < 0)) || (decide (p_.Oper≥(am.length:Int))))=false ->
 ((decide (((aC ap p_.Oper).getD 0) > 0))=true ->
 Q (0,21,ap,bz)) /\
 ((decide (((aC ap p_.Oper).getD 0) > 0))=false ->
 ((0:Int)≤p_.Oper/\p_.Oper < (am.length:Int)) /\
 ∀ bA,iu aM bz ((gi am p_.Oper).Kind) p_.Result=bA ->
 ((((bA.2 == 0) && (((gi am p_.Oper).End) != (-1))) && (((gi am p_.Oper).Result) != p_.Result))=true ->
 VC97_J1 p_ ap bz Q bA 40) /\
 ((((bA.2 == 0) && (((gi am p_.Oper).End) != (-1))) && (((gi am p_.Oper).Result) != p_.Result))=false ->
 VC97_J1 p_ ap bz Q bA bA.2)))
def VC62_J1 (ac:List aa) (Q:(Int × Int × Int)->Prop) (v126:Int):Prop :=
 Q (v126,(ac.length:Int),0)
def VC62 (o_:al) (l_:List ab) (state:Int) (ac:List aa) (Q:Int × Int × Int->Prop):Prop :=
 sm o_.Rows ->
 ∀ (_:sm l_),
 sm ac ->
 (xz o_ state) /\
 ∀ av,fG o_ state=av ->
 ((av != 0)=true ->
 Q (0,(-1),av)) /\
 ((av != 0)=false ->
 ∀ a8,dS o_ l_ state=a8 ->
 sm a8.1 ->
 ∀ (_:sm a8.2.2.1.Rows),
 ∃ (I1:Int->Int->(List (Int × Int))->Int->Prop) (μ1:Int->Int->(List (Int × Int))->Int->Nat),I1 state 0 a8.2.1 a8.2.2.2/\∀ (v128:Int) (v130:Int) (v132:List (Int × Int)) (v135:Int),I1 v128 v130 v132 v135 ->
 ((decide (v130 < (ac.length:Int)))=true ->
 ((0:Int)≤v130/\v130 < (ac.length:Int)) /\
 ∀ bZ,c7 (gi ac v130) a8.1 v132 a8.2.2.1 v135=bZ ->
 ((bZ.2.1 != 0)=true ->
 Q (0,v130,bZ.2.1)) /\
 ((bZ.2.1 != 0)=false ->
 I1 bZ.1 (IntKind.i64.wrap (v130+1)) bZ.2.2.1 bZ.2.2.2/\μ1 bZ.1 (IntKind.i64.wrap (v130+1)) bZ.2.2.1 bZ.2.2.2 < μ1 v128 v130 v132 v135)) /\
 ((decide (v130 < (ac.length:Int)))=false ->
 VC62_J1 ac Q v128))
def VC33 (o_:al) (l_:List ab) (ac:List aa) (Q:Int × Int × Int->Prop):Prop :=
 sm o_.Rows ->
 ∀ (_:sm l_),
 sm ac ->
 (xy o_ l_ o_.aE ac) /\
 ∀ av,iQ o_ l_ o_.aE ac=av ->
 Q (av.1,av.2.1,av.2.2)
def VC87_J1 (Q:((List (Int × Int)))->Prop) (v105:List (Int × Int)):Prop :=
 Q v105
def VC87 (ac:List aa) (Q:(List (Int × Int))->Prop):Prop :=
 sm ac ->
 ∃ (I1:Int->(List (Int × Int))->Prop) (μ1:Int->(List (Int × Int))->Nat),I1 0 ([]:List (Int × Int))/\∀ (v108:Int) (v109:List (Int × Int)),I1 v108 v109 ->
 ((decide (v108 < (ac.length:Int)))=true ->
 ((0:Int)≤v108/\v108 < (ac.length:Int)) /\
 I1 (IntKind.i64.wrap (v108+1)) (de v109 ((gi ac v108).Oper) (IntKind.i64.wrap (((aC v109 ((gi ac v108).Oper)).getD 0)+1)))/\μ1 (IntKind.i64.wrap (v108+1)) (de v109 ((gi ac v108).Oper) (IntKind.i64.wrap (((aC v109 ((gi ac v108).Oper)).getD 0)+1))) < μ1 v108 v109) /\
 ((decide (v108 < (ac.length:Int)))=false ->
 VC87_J1 Q v109)
def VC99 (i_:Int) (am:List (Int × Int)) (Q:Bool->Prop):Prop :=
 Q (((aC am i_).getD 0) == 0)
def VC64_J1 (Q:((List Int))->Prop) (v109:List Int):Prop :=
 Q v109
def VC64_J2 (I1:(List Int)->Int->Prop) (μ1:(List Int)->Int->Nat) (v115:List Int) (v120:Int) (v122:List Int):Prop :=
 I1 v122 (IntKind.i64.wrap (v120+1))/\μ1 v122 (IntKind.i64.wrap (v120+1)) < μ1 v115 v120
def VC64_J3 (I1:(List Int)->Int->Prop) (μ1:(List Int)->Int->Nat) (v115:List Int) (v120:Int) (v131:List Int) (v136:Bool):Prop :=
 (v136=true ->
 (v131.length+[v120].length≤1099511627776) /\
 VC64_J2 I1 μ1 v115 v120 (v131++[v120])) /\
 (v136=false ->
 VC64_J2 I1 μ1 v115 v120 v131)
def VC64 (l_:List ab) (ac:List aa) (pending:Bool) (Q:(List Int)->Prop):Prop :=
 sm l_ ->
 ∀ (_:sm ac),
 ∀ av,e7 ac=av ->
 ∃ (I1:(List Int)->Int->Prop) (μ1:(List Int)->Int->Nat),I1 [] 0/\∀ (v115:List Int) (v120:Int),I1 v115 v120 ->
 ((decide (v120 < (l_.length:Int)))=true ->
 ((0:Int)≤v120/\v120 < (l_.length:Int)) /\
 (((((gi l_ v120).End) == (-1)) == pending)=true ->
 ∀ yU,e6 v120 av=yU ->
 VC64_J3 I1 μ1 v115 v120 v115 yU) /\
 (((((gi l_ v120).End) == (-1)) == pending)=false ->
 VC64_J3 I1 μ1 v115 v120 v115 false)) /\
 ((decide (v120 < (l_.length:Int)))=false ->
 VC64_J1 Q v115)
def VC35 (l_:List ab) (ac:List aa) (Q:(List Int)->Prop):Prop :=
 sm l_ ->
 ∀ (_:sm ac),
 (uo l_ ac false) /\
 ∀ av,dR l_ ac false=av ->
 sm av ->
 Q av
def VC63 (a_:ab) (b_:ab) (Q:Bool->Prop):Prop :=
 Q ((decide (a_.End≥0)) && (decide (a_.End < b_.aD)))
def VC34_J1 (Q:Int->Prop):Prop :=
 Q (-1)
def VC34_J2 (I1:(List (Int × Int))->Int->Prop) (μ1:(List (Int × Int))->Int->Nat) (v106:List (Int × Int)) (v109:Int) (v111:List (Int × Int)):Prop :=
 I1 v111 (IntKind.i64.wrap (v109+1))/\μ1 v111 (IntKind.i64.wrap (v109+1)) < μ1 v106 v109
def VC34_J3 (ac:List aa) (I1:(List (Int × Int))->Int->Prop) (μ1:(List (Int × Int))->Int->Nat) (v106:List (Int × Int)) (v109:Int):Prop :=
 VC34_J2 I1 μ1 v106 v109 (de v106 ((gi ac v109).Oper) (IntKind.i64.wrap (((aC v106 ((gi ac v109).Oper)).getD 0)+1)))
def VC34_J4 (Q:Int->Prop) (v109:Int) (I2:Int->Prop) (μ2:Int->Nat) (v127:Int) (v135:Bool):Prop :=
 (v135=true ->
 Q v109) /\
 (v135=false ->
 I2 (IntKind.i64.wrap (v127+1))/\μ2 (IntKind.i64.wrap (v127+1)) < μ2 v127)
def VC34 (l_:List ab) (ac:List aa) (Q:Int->Prop):Prop :=
 sm l_ ->
 ∀ (_:sm ac),
 ∃ (I1:(List (Int × Int))->Int->Prop) (μ1:(List (Int × Int))->Int->Nat),I1 ([]:List (Int × Int)) 0/\∀ (v106:List (Int × Int)) (v109:Int),I1 v106 v109 ->
 ((decide (v109 < (ac.length:Int)))=true ->
 ((0:Int)≤v109/\v109 < (ac.length:Int)) /\
 (((decide (((gi ac v109).Oper) < 0)) || (decide (((gi ac v109).Oper)≥(l_.length:Int))))=true ->
 VC34_J2 I1 μ1 v106 v109 v106) /\
 (((decide (((gi ac v109).Oper) < 0)) || (decide (((gi ac v109).Oper)≥(l_.length:Int))))=false ->
 ∃ (I2:Int->Prop) (μ2:Int->Nat),I2 0/\∀ (v127:Int),I2 v127 ->
 ((decide (v127 < (l_.length:Int)))=true ->
 ((0:Int)≤v127/\v127 < (l_.length:Int)) /\
 ((0:Int)≤((gi ac v109).Oper)/\((gi ac v109).Oper) < (l_.length:Int)) /\
 ∀ gp,bb (gi l_ v127) (gi l_ ((gi ac v109).Oper))=gp ->
 (gp=true ->
 VC34_J4 Q v109 I2 μ2 v127 (((aC v106 v127).getD 0) == 0)) /\
 (gp=false ->
 VC34_J4 Q v109 I2 μ2 v127 false)) /\
 ((decide (v127 < (l_.length:Int)))=false ->
 VC34_J3 ac I1 μ1 v106 v109))) /\
 ((decide (v109 < (ac.length:Int)))=false ->
 VC34_J1 Q)
def VC106 (o_:ab) (Q:Bool->Prop):Prop :=
 ((o_.End == (-1))=true ->
 Q (o_.Result == (-1))) /\
 ((o_.End == (-1))=false ->
 Q ((((decide (o_.End > o_.aD)) && (decide (o_.End≤9999))) && (decide (o_.Result≥0))) && (decide (o_.Result≤1000000))))
def VC95 (o_:ab) (Q:Int->Prop):Prop :=
 (((((decide (o_.ah < 1)) || (decide (o_.ah > 1000))) || (decide (o_.aD < 0))) || (decide (o_.aD > 9999)))=true ->
 Q 2) /\
 (((((decide (o_.ah < 1)) || (decide (o_.ah > 1000))) || (decide (o_.aD < 0))) || (decide (o_.aD > 9999)))=false ->
 (((decide (o_.Kind < 0)) || (decide (o_.Kind≥64)))=true ->
 Q 31) /\
 (((decide (o_.Kind < 0)) || (decide (o_.Kind≥64)))=false ->
 ∀ av,dU o_=av ->
 ((!av)=true ->
 Q 7) /\
 ((!av)=false ->
 Q 0)))
def VC80_J1 (l_:List ab) (Q:(Int × Int)->Prop):Prop :=
 Q ((l_.length:Int),0)
def VC80_J2 (l_:List ab) (I1:(List (Int × Int))->(List (Int × ab))->Int->Prop) (μ1:(List (Int × Int))->(List (Int × ab))->Int->Nat) (v111:List (Int × Int)) (v113:List (Int × ab)) (v116:Int) (v118:List (Int × Int)):Prop :=
 I1 v118 (de v113 ((gi l_ v116).ah) (gi l_ v116)) (IntKind.i64.wrap (v116+1))/\μ1 v118 (de v113 ((gi l_ v116).ah) (gi l_ v116)) (IntKind.i64.wrap (v116+1)) < μ1 v111 v113 v116
def VC80_J4 (l_:List ab) (Q:(Int × Int)->Prop) (I1:(List (Int × Int))->(List (Int × ab))->Int->Prop) (μ1:(List (Int × Int))->(List (Int × ab))->Int->Nat) (v111:List (Int × Int)) (v113:List (Int × ab)) (v116:Int) (v139:Bool):Prop :=
 (v139=true ->
 Q (v116,33)) /\
 (v139=false ->
 ((decide (((gi l_ v116).End)≥0))=true ->
 VC80_J2 l_ I1 μ1 v111 v113 v116 (de (de v111 ((gi l_ v116).aD) (IntKind.i64.wrap (((aC v111 ((gi l_ v116).aD)).getD 0)+1))) ((gi l_ v116).End) (IntKind.i64.wrap (((aC (de v111 ((gi l_ v116).aD) (IntKind.i64.wrap (((aC v111 ((gi l_ v116).aD)).getD 0)+1))) ((gi l_ v116).End)).getD 0)+1)))) /\
 ((decide (((gi l_ v116).End)≥0))=false ->
 VC80_J2 l_ I1 μ1 v111 v113 v116 (de v111 ((gi l_ v116).aD) (IntKind.i64.wrap (((aC v111 ((gi l_ v116).aD)).getD 0)+1)))))
def VC80_J3 (l_:List ab) (Q:(Int × Int)->Prop) (I1:(List (Int × Int))->(List (Int × ab))->Int->Prop) (μ1:(List (Int × Int))->(List (Int × ab))->Int->Nat) (v111:List (Int × Int)) (v113:List (Int × ab)) (v116:Int) (v133:Bool):Prop :=
 (v133=true ->
 Q (v116,32)) /\
 (v133=false ->
 (((aC v113 ((gi l_ v116).ah)).isSome)=true ->
 ∀ oa,bb ((aC v113 ((gi l_ v116).ah)).getD (⟨0,0,0,0,0⟩:ab)) (gi l_ v116)=oa ->
 VC80_J4 l_ Q I1 μ1 v111 v113 v116 (!oa)) /\
 (((aC v113 ((gi l_ v116).ah)).isSome)=false ->
 VC80_J4 l_ Q I1 μ1 v111 v113 v116 false))
def VC80 (l_:List ab) (Q:Int × Int->Prop):Prop :=
 sm l_ ->
 ((decide ((l_.length:Int) > 5000))=true ->
 Q (0,3)) /\
 ((decide ((l_.length:Int) > 5000))=false ->
 ∃ (I1:(List (Int × Int))->(List (Int × ab))->Int->Prop) (μ1:(List (Int × Int))->(List (Int × ab))->Int->Nat),I1 ([]:List (Int × Int)) ([]:List (Int × ab)) 0/\∀ (v111:List (Int × Int)) (v113:List (Int × ab)) (v116:Int),I1 v111 v113 v116 ->
 ((decide (v116 < (l_.length:Int)))=true ->
 ((0:Int)≤v116/\v116 < (l_.length:Int)) /\
 ∀ bO,da (gi l_ v116)=bO ->
 ((bO != 0)=true ->
 Q (v116,bO)) /\
 ((bO != 0)=false ->
 ((decide (v116 > 0))=true ->
 ((0:Int)≤(IntKind.i64.wrap (v116 - 1))/\(IntKind.i64.wrap (v116 - 1)) < (l_.length:Int)) /\
 ((decide (((gi l_ v116).aD)≤((gi l_ (IntKind.i64.wrap (v116 - 1))).aD)))=true ->
 VC80_J3 l_ Q I1 μ1 v111 v113 v116 true) /\
 ((decide (((gi l_ v116).aD)≤((gi l_ (IntKind.i64.wrap (v116 - 1))).aD)))=false ->
 ((decide (((aC v111 ((gi l_ v116).aD)).getD 0) > 0))=true ->
 VC80_J3 l_ Q I1 μ1 v111 v113 v116 true) /\
 ((decide (((aC v111 ((gi l_ v116).aD)).getD 0) > 0))=false ->
 ((decide (((gi l_ v116).End)≥0))=true ->
 VC80_J3 l_ Q I1 μ1 v111 v113 v116 (decide (((aC v111 ((gi l_ v116).End)).getD 0) > 0))) /\
 ((decide (((gi l_ v116).End)≥0))=false ->
 VC80_J3 l_ Q I1 μ1 v111 v113 v116 false)))) /\
 ((decide (v116 > 0))=false ->
 ((decide (((aC v111 ((gi l_ v116).aD)).getD 0) > 0))=true ->
 VC80_J3 l_ Q I1 μ1 v111 v113 v116 true) /\
 ((decide (((aC v111 ((gi l_ v116).aD)).getD 0) > 0))=false ->
 ((decide (((gi l_ v116).End)≥0))=true ->
 VC80_J3 l_ Q I1 μ1 v111 v113 v116 (decide (((aC v111 ((gi l_ v116).End)).getD 0) > 0))) /\
 ((decide (((gi l_ v116).End)≥0))=false ->
 VC80_J3 l_ Q I1 μ1 v111 v113 v116 false))))) /\
 ((decide (v116 < (l_.length:Int)))=false ->
 VC80_J1 l_ Q))
def VC51 (o_:al) (l_:List ab) (ac:List aa) (Q:Int × Int->Prop):Prop :=
 sm o_.Rows ->
 ∀ (_:sm l_),
 sm ac ->
 (jV o_) /\
 ∀ av,bq o_=av ->
 ∀ a8,cc l_=a8 ->
 (((av.2 != 0) || (a8.2 != 0))=true ->
 Q ((-1),2)) /\
 (((av.2 != 0) || (a8.2 != 0))=false ->
 (ka o_ l_ ac) /\
 ∀ bG,b7 o_ l_ ac=bG ->
 ((bG.2.2 != 0)=true ->
 Q (bG.2.1,bG.2.2)) /\
 ((bG.2.2 != 0)=false ->
 ∀ o8,ct l_ ac=o8 ->
 ((decide (o8≥0))=true ->
 Q (o8,42)) /\
 ((decide (o8≥0))=false ->
 (pS l_ ac) /\
 ∀ jw,bX l_ ac=jw ->
 sm jw ->
 ((decide ((jw.length:Int) > 0))=true ->
 ((0:Int)≤0/\0 < (jw.length:Int)) /\
 Q (gi jw 0,41)) /\
 ((decide ((jw.length:Int) > 0))=false ->
 Q ((ac.length:Int),0)))))
def VC20 (o_:al) (l_:List ab) (ac:List aa) (Q:Bool->Prop):Prop :=
 sm o_.Rows ->
 ∀ (_:sm l_),
 sm ac ->
 (ka o_ l_ ac) /\
 ∀ av,eD o_ l_ ac=av ->
 Q (av.2 == 0)
def VC66_J1 (Q:Int->Prop):Prop :=
 Q (-1)
def VC66 (ac:List aa) (i_:Int) (Q:Int->Prop):Prop :=
 sm ac ->
 ∃ (I1:Int->Prop) (μ1:Int->Nat),I1 0/\∀ (v102:Int),I1 v102 ->
 ((decide (v102 < (ac.length:Int)))=true ->
 ((0:Int)≤v102/\v102 < (ac.length:Int)) /\
 ((((gi ac v102).Oper) == i_)=true ->
 Q v102) /\
 ((((gi ac v102).Oper) == i_)=false ->
 I1 (IntKind.i64.wrap (v102+1))/\μ1 (IntKind.i64.wrap (v102+1)) < μ1 v102)) /\
 ((decide (v102 < (ac.length:Int)))=false ->
 VC66_J1 Q)
def VC68_J1 (Q:(Int × Int × Bool)->Prop):Prop :=
 Q (0,0,false)
def VC68_J2 (o_:al) (Q:(Int × Int × Bool)->Prop) (I1:Int->Prop) (μ1:Int->Nat) (v101:Int) (v103:Bool):Prop :=
 (v103=true ->
 ((0:Int)≤v101/\v101 < (o_.Rows.length:Int)) /\
 ((0:Int)≤v101/\v101 < (o_.Rows.length:Int)) /\
 Q ((gi o_.Rows v101).Next,(gi o_.Rows v101).Result,true)) /\
 (v103=false ->
 I1 (IntKind.i64.wrap (v101+1))/\μ1 (IntKind.i64.wrap (v101+1)) < μ1 v101)
def VC68 (o_:al) (state:Int) (kind:Int) (Q:Int × Int × Bool->Prop):Prop :=
 sm o_.Rows ->
 ∃ (I1:Int->Prop) (μ1:Int->Nat),I1 0/\∀ (v101:Int),I1 v101 ->
 ((decide (v101 < (o_.Rows.length:Int)))=true ->
 ((0:Int)≤v101/\v101 < (o_.Rows.length:Int)) /\
 ((((gi o_.Rows v101).State) == state)=true ->
 ((0:Int)≤v101/\v101 < (o_.Rows.length:Int)) /\
 VC68_J2 o_ Q I1 μ1 v101 (((gi o_.Rows v101).Kind) == kind)) /\
 ((((gi o_.Rows v101).State) == state)=false ->
 VC68_J2 o_ Q I1 μ1 v101 false)) /\
 ((decide (v101 < (o_.Rows.length:Int)))=false ->
 VC68_J1 Q)
def VC65 (o_:al) (state:Int) (kind:Int) (result:Int) (Q:Int × Int->Prop):Prop :=
 sm o_.Rows ->
 (((decide (state < 0)) || (decide (state≥o_.aq)))=true ->
 Q (0,30)) /\
 (((decide (state < 0)) || (decide (state≥o_.aq)))=false ->
 ∀ av,cu o_ state kind=av ->
 (((!av.2.2) || (av.2.1 != result))=true ->
 Q (0,40)) /\
 (((!av.2.2) || (av.2.1 != result))=false ->
 Q (av.1,0)))
def VC58_J1 (o_:al) (Q:(Int × Int)->Prop):Prop :=
 Q ((o_.Rows.length:Int),0)
def VC58_J2 (Q:(Int × Int)->Prop) (I1:Int->Prop) (μ1:Int->Nat) (v102:Int) (v107:Bool):Prop :=
 (v107=true ->
 Q (v102,32)) /\
 (v107=false ->
 I1 (IntKind.i64.wrap (v102+1))/\μ1 (IntKind.i64.wrap (v102+1)) < μ1 v102)
def VC58 (o_:al) (Q:Int × Int->Prop):Prop :=
 sm o_.Rows ->
 (((((((decide (o_.aq < 1)) || (decide (o_.aq > 32))) || (decide (o_.ax < 1))) || (decide (o_.ax > 64))) || (decide (o_.aE < 0))) || (decide (o_.aE≥o_.aq)))=true ->
 Q ((-1),2)) /\
 (((((((decide (o_.aq < 1)) || (decide (o_.aq > 32))) || (decide (o_.ax < 1))) || (decide (o_.ax > 64))) || (decide (o_.aE < 0))) || (decide (o_.aE≥o_.aq)))=false ->
 ∃ (I1:Int->Prop) (μ1:Int->Nat),I1 0/\∀ (v102:Int),I1 v102 ->
 ((decide (v102 < (o_.Rows.length:Int)))=true ->
 ((0:Int)≤v102/\v102 < (o_.Rows.length:Int)) /\
 (((((decide (((gi o_.Rows v102).State) < 0)) || (decide (((gi o_.Rows v102).State)≥o_.aq))) || (decide (((gi o_.Rows v102).Next) < 0))) || (decide (((gi o_.Rows v102).Next)≥o_.aq)))=true ->
 Q (v102,30)) /\
 (((((decide (((gi o_.Rows v102).State) < 0)) || (decide (((gi o_.Rows v102).State)≥o_.aq))) || (decide (((gi o_.Rows v102).Next) < 0))) || (decide (((gi o_.Rows v102).Next)≥o_.aq)))=false ->
 (((decide (((gi o_.Rows v102).Kind) < 0)) || (decide (((gi o_.Rows v102).Kind)≥o_.ax)))=true ->
 Q (v102,31)) /\
 (((decide (((gi o_.Rows v102).Kind) < 0)) || (decide (((gi o_.Rows v102).Kind)≥o_.ax)))=false ->
 (((decide (((gi o_.Rows v102).Result) < 0)) || (decide (((gi o_.Rows v102).Result) > 1000000)))=true ->
 Q (v102,7)) /\
 (((decide (((gi o_.Rows v102).Result) < 0)) || (decide (((gi o_.Rows v102).Result) > 1000000)))=false ->
 ((decide (v102 > 0))=true ->
 ((0:Int)≤(IntKind.i64.wrap (v102 - 1))/\(IntKind.i64.wrap (v102 - 1)) < (o_.Rows.length:Int)) /\
 ((decide (((gi o_.Rows (IntKind.i64.wrap (v102 - 1))).State) > ((gi o_.Rows v102).State)))=true ->
 VC58_J2 Q I1 μ1 v102 true) /\
 ((decide (((gi o_.Rows (IntKind.i64.wrap (v102 - 1))).State) > ((gi o_.Rows v102).State)))=false ->
 ((0:Int)≤(IntKind.i64.wrap (v102 - 1))/\(IntKind.i64.wrap (v102 - 1)) < (o_.Rows.length:Int)) /\
 ((((gi o_.Rows (IntKind.i64.wrap (v102 - 1))).State) == ((gi o_.Rows v102).State))=true ->
 ((0:Int)≤(IntKind.i64.wrap (v102 - 1))/\(IntKind.i64.wrap (v102 - 1)) < (o_.Rows.length:Int)) /\
 VC58_J2 Q I1 μ1 v102 (decide (((gi o_.Rows (IntKind.i64.wrap (v102 - 1))).Kind)≥((gi o_.Rows v102).Kind)))) /\
 ((((gi o_.Rows (IntKind.i64.wrap (v102 - 1))).State) == ((gi o_.Rows v102).State))=false ->
 VC58_J2 Q I1 μ1 v102 false))) /\
 ((decide (v102 > 0))=false ->
 VC58_J2 Q I1 μ1 v102 false))))) /\
 ((decide (v102 < (o_.Rows.length:Int)))=false ->
 VC58_J1 o_ Q))
def VC36_J1 (ac:List aa) (Q:(Int × Int × Int)->Prop) (v105:Int):Prop :=
 Q (v105,(ac.length:Int),0)
def VC36_J3 (Q:(Int × Int × Int)->Prop) (I1:Int->Int->Prop) (μ1:Int->Int->Nat) (v108:Int) (v110:Int) (bO:Int × Int) (v131:Bool):Prop :=
 (v131=true ->
 Q (0,v110,40)) /\
 (v131=false ->
 I1 bO.1 (IntKind.i64.wrap (v110+1))/\μ1 bO.1 (IntKind.i64.wrap (v110+1)) < μ1 v108 v110)
def VC36_J2 (o_:al) (l_:List ab) (ac:List aa) (Q:(Int × Int × Int)->Prop) (I1:Int->Int->Prop) (μ1:Int->Int->Nat) (v108:Int) (v110:Int):Prop :=
 ((0:Int)≤((gi ac v110).Oper)/\((gi ac v110).Oper) < (l_.length:Int)) /\
 ∀ bO,c9 o_ v108 ((gi l_ ((gi ac v110).Oper)).Kind) ((gi ac v110).Result)=bO ->
 ((bO.2 != 0)=true ->
 Q (0,v110,bO.2)) /\
 ((bO.2 != 0)=false ->
 ((0:Int)≤((gi ac v110).Oper)/\((gi ac v110).Oper) < (l_.length:Int)) /\
 ((((gi l_ ((gi ac v110).Oper)).End) != (-1))=true ->
 ((0:Int)≤((gi ac v110).Oper)/\((gi ac v110).Oper) < (l_.length:Int)) /\
 VC36_J3 Q I1 μ1 v108 v110 bO (((gi l_ ((gi ac v110).Oper)).Result) != ((gi ac v110).Result))) /\
 ((((gi l_ ((gi ac v110).Oper)).End) != (-1))=false ->
 VC36_J3 Q I1 μ1 v108 v110 bO false))
def VC36 (o_:al) (l_:List ab) (state:Int) (ac:List aa) (Q:Int × Int × Int->Prop):Prop :=
 sm o_.Rows ->
 ∀ (_:sm l_),
 sm ac ->
 ∀ av,cD o_=av ->
 ((av.2 != 0)=true ->
 Q (0,(-1),2)) /\
 ((av.2 != 0)=false ->
 (((decide (state < 0)) || (decide (state≥o_.aq)))=true ->
 Q (0,(-1),30)) /\
 (((decide (state < 0)) || (decide (state≥o_.aq)))=false ->
 ∃ (I1:Int->Int->Prop) (μ1:Int->Int->Nat),I1 state 0/\∀ (v108:Int) (v110:Int),I1 v108 v110 ->
 ((decide (v110 < (ac.length:Int)))=true ->
 ((0:Int)≤v110/\v110 < (ac.length:Int)) /\
 (((decide (((gi ac v110).Oper) < 0)) || (decide (((gi ac v110).Oper)≥(l_.length:Int))))=true ->
 Q (0,v110,2)) /\
 (((decide (((gi ac v110).Oper) < 0)) || (decide (((gi ac v110).Oper)≥(l_.length:Int))))=false ->
 ∃ (I2:Int->Prop) (μ2:Int->Nat),I2 0/\∀ (v149:Int),I2 v149 ->
 ((decide (v149 < v110))=true ->
 ((0:Int)≤v149/\v149 < (ac.length:Int)) /\
 ((((gi ac v149).Oper) == ((gi ac v110).Oper))=true ->
 Q (0,v110,21)) /\
 ((((gi ac v149).Oper) == ((gi ac v110).Oper))=false ->
 I2 (IntKind.i64.wrap (v149+1))/\μ2 (IntKind.i64.wrap (v149+1)) < μ2 v149)) /\
 ((decide (v149 < v110))=false ->
 VC36_J2 o_ l_ ac Q I1 μ1 v108 v110))) /\
 ((decide (v110 < (ac.length:Int)))=false ->
 VC36_J1 ac Q v108)))
def VC67 (a_:ab) (b_:ab) (Q:Bool->Prop):Prop :=
 Q ((decide (a_.End≥0)) && (decide (b_.aD > a_.End)))
def VC37_J1 (Q:Int->Prop):Prop :=
 Q (-1)
def VC37_J2 (I1:Int->Prop) (μ1:Int->Nat) (v103:Int):Prop :=
 I1 (IntKind.i64.wrap (v103+1))/\μ1 (IntKind.i64.wrap (v103+1)) < μ1 v103
def VC37_J3 (Q:Int->Prop) (v103:Int) (I2:Int->Prop) (μ2:Int->Nat) (v113:Int) (v120:Bool):Prop :=
 (v120=true ->
 Q v103) /\
 (v120=false ->
 I2 (IntKind.i64.wrap (v113+1))/\μ2 (IntKind.i64.wrap (v113+1)) < μ2 v113)
def VC37 (l_:List ab) (ac:List aa) (Q:Int->Prop):Prop :=
 sm l_ ->
 ∀ (_:sm ac),
 ∃ (I1:Int->Prop) (μ1:Int->Nat),I1 0/\∀ (v103:Int),I1 v103 ->
 ((decide (v103 < (ac.length:Int)))=true ->
 ((0:Int)≤v103/\v103 < (ac.length:Int)) /\
 ∃ (I2:Int->Prop) (μ2:Int->Nat),I2 0/\∀ (v113:Int),I2 v113 ->
 ((((decide (v113 < (l_.length:Int))) && (decide (((gi ac v103).Oper)≥0))) && (decide (((gi ac v103).Oper) < (l_.length:Int))))=true ->
 ∀ d4,ca ac v113=d4 ->
 ((0:Int)≤v113/\v113 < (l_.length:Int)) /\
 ((0:Int)≤((gi ac v103).Oper)/\((gi ac v103).Oper) < (l_.length:Int)) /\
 ∀ gr,iR (gi l_ v113) (gi l_ ((gi ac v103).Oper))=gr ->
 (gr=true ->
 VC37_J3 Q v103 I2 μ2 v113 ((decide (d4 < 0)) || (decide (d4≥v103)))) /\
 (gr=false ->
 VC37_J3 Q v103 I2 μ2 v113 false)) /\
 ((((decide (v113 < (l_.length:Int))) && (decide (((gi ac v103).Oper)≥0))) && (decide (((gi ac v103).Oper) < (l_.length:Int))))=false ->
 VC37_J2 I1 μ1 v103)) /\
 ((decide (v103 < (ac.length:Int)))=false ->
 VC37_J1 Q)
def VC38_J1 (Q:((List Int))->Prop) (v101:List Int):Prop :=
 Q v101
def VC38_J2 (I1:(List Int)->Int->Prop) (μ1:(List Int)->Int->Nat) (v109:List Int) (v113:Int) (v116:List Int):Prop :=
 I1 v116 (IntKind.i64.wrap (v113+1))/\μ1 v116 (IntKind.i64.wrap (v113+1)) < μ1 v109 v113
def VC38_J3 (I1:(List Int)->Int->Prop) (μ1:(List Int)->Int->Nat) (v109:List Int) (v113:Int) (v122:List Int) (v126:Bool):Prop :=
 (v126=true ->
 (v122.length+[v113].length≤1099511627776) /\
 VC38_J2 I1 μ1 v109 v113 (v122++[v113])) /\
 (v126=false ->
 VC38_J2 I1 μ1 v109 v113 v122)
def VC38 (l_:List ab) (ac:List aa) (pending:Bool) (Q:(List Int)->Prop):Prop :=
 sm l_ ->
 ∀ (_:sm ac),
 ∃ (I1:(List Int)->Int->Prop) (μ1:(List Int)->Int->Nat),I1 [] 0/\∀ (v109:List Int) (v113:Int),I1 v109 v113 ->
 ((decide (v113 < (l_.length:Int)))=true ->
 ∀ gq,ca ac v113=gq ->
 ((decide (gq < 0))=true ->
 ((0:Int)≤v113/\v113 < (l_.length:Int)) /\
 VC38_J3 I1 μ1 v109 v113 v109 ((((gi l_ v113).End) == (-1)) == pending)) /\
 ((decide (gq < 0))=false ->
 VC38_J3 I1 μ1 v109 v113 v109 false)) /\
 ((decide (v113 < (l_.length:Int)))=false ->
 VC38_J1 Q v109)
def VC114 (i_:Int) (am:List Bool) (Q:Bool->Prop):Prop :=
 sm am ->
 ((decide (i_ < (am.length:Int)))=true ->
 ((0:Int)≤i_/\i_ < (am.length:Int)) /\
 Q (gi am i_)) /\
 ((decide (i_ < (am.length:Int)))=false ->
 Q false)
def VC112_J1 (Q:((List Int))->Prop) (v101:List Int):Prop :=
 Q v101
def VC112_J2 (I1:(List Int)->Int->Prop) (μ1:(List Int)->Int->Nat) (v108:List Int) (v113:Int) (v116:List Int):Prop :=
 I1 v116 (IntKind.i64.wrap (v113+1))/\μ1 v116 (IntKind.i64.wrap (v113+1)) < μ1 v108 v113
def VC112_J3 (I1:(List Int)->Int->Prop) (μ1:(List Int)->Int->Nat) (v108:List Int) (v113:Int) (v131:List Int) (v135:Bool):Prop :=
 (v135=true ->
 (v131.length+[v113].length≤1099511627776) /\
 VC112_J2 I1 μ1 v108 v113 (v131++[v113])) /\
 (v135=false ->
 VC112_J2 I1 μ1 v108 v113 v131)
def VC112_J4 (I2:(List Int)->Bool->Int->Prop) (μ2:(List Int)->Bool->Int->Nat) (v148:List Int) (v152:Bool) (v155:Int) (v158:List Int) (v162:Bool):Prop :=
 I2 v158 v162 (IntKind.i64.wrap (v155+1))/\μ2 v158 v162 (IntKind.i64.wrap (v155+1)) < μ2 v148 v152 v155
def VC112 (l_:List ab) (done:List Bool) (Q:(List Int)->Prop):Prop :=
 sm l_ ->
 ∀ (_:sm done),
 ∃ (I1:(List Int)->Int->Prop) (μ1:(List Int)->Int->Nat),I1 [] 0/\∀ (v108:List Int) (v113:Int),I1 v108 v113 ->
 ((decide (v113 < (l_.length:Int)))=true ->
 ((0:Int)≤v113/\v113 < (l_.length:Int)) /\
 (ur v113 done) /\
 ∀ bO,eX v113 done=bO ->
 ∃ (I2:(List Int)->Bool->Int->Prop) (μ2:(List Int)->Bool->Int->Nat),I2 v108 (!bO) 0/\∀ (v148:List Int) (v152:Bool) (v155:Int),I2 v148 v152 v155 ->
 ((decide (v155 < (l_.length:Int)))=true ->
 ((0:Int)≤v155/\v155 < (l_.length:Int)) /\
 (v152=true ->
 (ur v155 done) /\
 ∀ wd,eX v155 done=wd ->
 (wd=true ->
 VC112_J4 I2 μ2 v148 v152 v155 v148 true) /\
 (wd=false ->
 ∀ yS,bb (gi l_ v155) (gi l_ v113)=yS ->
 VC112_J4 I2 μ2 v148 v152 v155 v148 (!yS))) /\
 (v152=false ->
 VC112_J4 I2 μ2 v148 v152 v155 v148 false)) /\
 ((decide (v155 < (l_.length:Int)))=false ->
 VC112_J3 I1 μ1 v108 v113 v148 v152)) /\
 ((decide (v113 < (l_.length:Int)))=false ->
 VC112_J1 Q v108)
def VC105_J1 (Q:((List aa))->Prop) (v105:List aa):Prop :=
 Q v105
def VC105_J2 (I1:(List aa)->Int->Prop) (μ1:(List aa)->Int->Nat) (v117:List aa) (v122:Int) (v125:List aa):Prop :=
 I1 v125 (IntKind.i64.wrap (v122+1))/\μ1 v125 (IntKind.i64.wrap (v122+1)) < μ1 v117 v122
def VC105_J3 (bG:(List Int)) (I1:(List aa)->Int->Prop) (μ1:(List aa)->Int->Nat) (v117:List aa) (v122:Int) (gp:Int × Int × Bool) (v146:List aa) (v151:Bool):Prop :=
 (v151=true ->
 (v146.length+[(⟨gi bG v122,gp.2.1⟩:aa)].length≤1099511627776) /\
 VC105_J2 I1 μ1 v117 v122 (v146++[(⟨gi bG v122,gp.2.1⟩:aa)])) /\
 (v151=false ->
 VC105_J2 I1 μ1 v117 v122 v146)
def VC105 (o_:al) (l_:List ab) (state:Int) (done:List Bool) (Q:(List aa)->Prop):Prop :=
 sm o_.Rows ->
 ∀ (_:sm l_),
 sm done ->
 (jV o_) /\
 ∀ av,bq o_=av ->
 ((av.2 != 0)=true ->
 Q []) /\
 ((av.2 != 0)=false ->
 (xE l_ done) /\
 ∀ bG,eN l_ done=bG ->
 sm bG ->
 ∃ (I1:(List aa)->Int->Prop) (μ1:(List aa)->Int->Nat),I1 [] 0/\∀ (v117:List aa) (v122:Int),I1 v117 v122 ->
 ((decide (v122 < (bG.length:Int)))=true ->
 ((0:Int)≤v122/\v122 < (bG.length:Int)) /\
 ((0:Int)≤(gi bG v122)/\(gi bG v122) < (l_.length:Int)) /\
 ∀ gp,cj o_ state ((gi l_ (gi bG v122)).Kind)=gp ->
 (gp.2.2=true ->
 ((0:Int)≤(gi bG v122)/\(gi bG v122) < (l_.length:Int)) /\
 ((((gi l_ (gi bG v122)).End) == (-1))=true ->
 VC105_J3 bG I1 μ1 v117 v122 gp v117 true) /\
 ((((gi l_ (gi bG v122)).End) == (-1))=false ->
 ((0:Int)≤(gi bG v122)/\(gi bG v122) < (l_.length:Int)) /\
 VC105_J3 bG I1 μ1 v117 v122 gp v117 (((gi l_ (gi bG v122)).Result) == gp.2.1))) /\
 (gp.2.2=false ->
 VC105_J3 bG I1 μ1 v117 v122 gp v117 false)) /\
 ((decide (v122 < (bG.length:Int)))=false ->
 VC105_J1 Q v117))
def VC88 (o_:al) (l_:List ab) (jj:Int) (Q:Int->Prop):Prop :=
 sm o_.Rows ->
 ∀ (_:sm l_),
 (jV o_) /\
 ∀ av,bq o_=av ->
 ∀ a8,cc l_=a8 ->
 (((av.2 != 0) || (a8.2 != 0))=true ->
 Q 2) /\
 (((av.2 != 0) || (a8.2 != 0))=false ->
 ((decide ((l_.length:Int) > jj))=true ->
 Q 3) /\
 ((decide ((l_.length:Int) > jj))=false ->
 Q 0))
def VC104 (s_:List aa) (Q:(List aa)->Prop):Prop :=
 sm s_ ->
 ∀ (b101:Bool),(b101=true->s_=[]) ->
 (b101=true ->
 Q []) /\
 (b101=false ->
 (([]:List aa).length+s_.length≤1099511627776) /\
 Q (([]:List aa)++s_))
def VC101_J1 (Q:bW->Prop) (v101:Int) (v102:Int):Prop :=
 Q (⟨v101,v102⟩:bW)
def VC101_J2 (I1:Int->Int->Int->Prop) (μ1:Int->Int->Int->Nat) (v110:Int) (v111:Int) (v112:Int) (v118:Int):Prop :=
 I1 (IntKind.i64.wrap (v110+1)) v118 v112/\μ1 (IntKind.i64.wrap (v110+1)) v118 v112 < μ1 v110 v111 v112
def VC101 (state:Int) (am:aX) (Q:bW->Prop):Prop :=
 sm am.o.Rows ->
 ∀ (_:sm am.l),
 sm am.done ->
 ∃ (I1:Int->Int->Int->Prop) (μ1:Int->Int->Int->Nat),I1 0 0 state/\∀ (v110:Int) (v111:Int) (v112:Int),I1 v110 v111 v112 ->
 ((decide (v110 < (am.done.length:Int)))=true ->
 ((0:Int)≤v110/\v110 < (am.done.length:Int)) /\
 ((gi am.done v110)=true ->
 ((0:Int)≤v110) /\
 VC101_J2 I1 μ1 v110 v111 v112 (IntKind.u32.wrap ((BitVec.ofInt IntKind.u32.bits v111 ||| BitVec.ofInt IntKind.u32.bits (IntKind.u32.wrap (1 * 2 ^ (min v110.toNat IntKind.u32.bits)))).toNat:Int))) /\
 ((gi am.done v110)=false ->
 VC101_J2 I1 μ1 v110 v111 v112 v111)) /\
 ((decide (v110 < (am.done.length:Int)))=false ->
 VC101_J1 Q v111 v112)
def VC100_J1 (Q:Bool->Prop):Prop :=
 Q true
def VC100_J2 (Q:Bool->Prop) (I1:Int->Prop) (μ1:Int->Nat) (v106:Int) (v115:Bool):Prop :=
 (v115=true ->
 Q false) /\
 (v115=false ->
 I1 (IntKind.i64.wrap (v106+1))/\μ1 (IntKind.i64.wrap (v106+1)) < μ1 v106)
def VC100 (am:aX) (Q:Bool->Prop):Prop :=
 sm am.o.Rows ->
 ∀ (_:sm am.l),
 sm am.done ->
 ∃ (I1:Int->Prop) (μ1:Int->Nat),I1 0/\∀ (v106:Int),I1 v106 ->
 ((decide (v106 < (am.l.length:Int)))=true ->
 ((0:Int)≤v106/\v106 < (am.l.length:Int)) /\
 ((((gi am.l v106).End) != (-1))=true ->
 ((0:Int)≤v106/\v106 < (am.done.length:Int)) /\
 VC100_J2 Q I1 μ1 v106 (!(gi am.done v106))) /\
 ((((gi am.l v106).End) != (-1))=false ->
 VC100_J2 Q I1 μ1 v106 false)) /\
 ((decide (v106 < (am.l.length:Int)))=false ->
 VC100_J1 Q)
def VC102 (N:Nat) (p_:aa) (ap:aX) (aM:Int) (bz:List aa) (Q:(List aa) × Bool × aX->Prop):Prop :=
 sm ap.o.Rows ->
 ∀ (_:sm ap.l),
 sm ap.done ->
 ∀ (_:sm bz),
 ((0:Int)≤p_.Oper/\p_.Oper < (ap.l.length:Int)) /\
 ∀ bA,cj ap.o aM ((gi ap.l p_.Oper).Kind)=bA ->
 ((0:Int)≤p_.Oper/\p_.Oper < (ap.done.length:Int)) /\
 (xF bz) /\
 ∀ md,bV bz=md ->
 sm md ->
 (md.length+[p_].length≤1099511627776) /\
 (rC bA.1 (md++[p_]) (⟨ap.o,ap.l,(ap.done.set p_.Oper.toNat true),ap.failed⟩:aX)/\oh bA.1 (md++[p_]) (⟨ap.o,ap.l,(ap.done.set p_.Oper.toNat true),ap.failed⟩:aX) < N) /\
 ∀ co,aG bA.1 (md++[p_]) (⟨ap.o,ap.l,(ap.done.set p_.Oper.toNat true),ap.failed⟩:aX)=co ->
 sm co.1 ->
 ∀ (_:sm co.2.2.o.Rows),
 sm co.2.2.l ->
 ∀ (_:sm co.2.2.done),
 ((0:Int)≤p_.Oper/\p_.Oper < (co.2.2.done.length:Int)) /\
 Q (co.1,co.2.1,(⟨co.2.2.o,co.2.2.l,(co.2.2.done.set p_.Oper.toNat false),co.2.2.failed⟩:aX))
def VC90_J2 (N:Nat) (Q:((List aa) × Bool × aX)->Prop) (v120:Int) (v121:Int) (v122:Int) (v123:List a9) (v127:List ab) (v139:List Bool) (v143:List (bW × Int)):Prop :=
 Q ([],false,(⟨(⟨v120,v121,v122,v123⟩:al),v127,v139,v143⟩:aX))
def VC90_J1 (N:Nat) (state:Int) (Q:((List aa) × Bool × aX)->Prop) (bG:bW) (v120:Int) (v121:Int) (v122:Int) (v123:List a9) (v127:List ab) (v131:List Bool) (v135:List (bW × Int)):Prop :=
 ((!(bG.done == 0 && (bG.state == 0 && true)))=true ->
 VC90_J2 N Q v120 v121 v122 v123 v127 v131 (de v135 bG (IntKind.i64.wrap (((aC v135 bG).getD 0)+1)))) /\
 ((!(bG.done == 0 && (bG.state == 0 && true)))=false ->
 VC90_J2 N Q v120 v121 v122 v123 v127 v131 v135)
def VC90 (N:Nat) (state:Int) (so:List aa) (am:aX) (Q:(List aa) × Bool × aX->Prop):Prop :=
 sm so ->
 ∀ (_:sm am.o.Rows),
 sm am.l ->
 ∀ (_:sm am.done),
 (xm am) /\
 ∀ av,dE am=av ->
 (av=true ->
 Q (so,true,am)) /\
 (av=false ->
 ∀ bG,dt state am=bG ->
 ((decide (((aC am.failed bG).getD 0) > 0))=true ->
 Q ([],false,am)) /\
 ((decide (((aC am.failed bG).getD 0) > 0))=false ->
 (xA am.o am.l state am.done) /\
 ∀ mK,bF am.o am.l state am.done=mK ->
 sm mK ->
 ∃ (I1:(List aa)->Int->Int->Int->Int->(List a9)->(List ab)->(List Bool)->(List (bW × Int))->Prop) (μ1:(List aa)->Int->Int->Int->Int->(List a9)->(List ab)->(List Bool)->(List (bW × Int))->Nat),I1 mK 0 am.o.aq am.o.ax am.o.aE am.o.Rows am.l am.done am.failed/\∀ (v196:List aa) (v200:Int) (v202:Int) (v203:Int) (v204:Int) (v205:List a9) (v209:List ab) (v213:List Bool) (v217:List (bW × Int)),I1 v196 v200 v202 v203 v204 v205 v209 v213 v217 ->
 ((decide (v200 < (mK.length:Int)))=true ->
 ((0:Int)≤v200/\v200 < (v196.length:Int)) /\
 (xn (gi v196 v200) (⟨(⟨v202,v203,v204,v205⟩:al),v209,v213,v217⟩:aX) state so/\AY (gi v196 v200) (⟨(⟨v202,v203,v204,v205⟩:al),v209,v213,v217⟩:aX) state so < N) /\
 ∀ d3,bf (gi v196 v200) (⟨(⟨v202,v203,v204,v205⟩:al),v209,v213,v217⟩:aX) state so=d3 ->
 sm d3.1 ->
 ∀ (_:sm d3.2.2.o.Rows),
 sm d3.2.2.l ->
 ∀ (_:sm d3.2.2.done),
 (d3.2.1=true ->
 Q (d3.1,true,d3.2.2)) /\
 (d3.2.1=false ->
 I1 v196 (IntKind.i64.wrap (v200+1)) d3.2.2.o.aq d3.2.2.o.ax d3.2.2.o.aE d3.2.2.o.Rows d3.2.2.l d3.2.2.done d3.2.2.failed/\μ1 v196 (IntKind.i64.wrap (v200+1)) d3.2.2.o.aq d3.2.2.o.ax d3.2.2.o.aE d3.2.2.o.Rows d3.2.2.l d3.2.2.done d3.2.2.failed < μ1 v196 v200 v202 v203 v204 v205 v209 v213 v217)) /\
 ((decide (v200 < (mK.length:Int)))=false ->
 VC90_J1 N state Q bG v202 v203 v204 v205 v209 v213 v217)))
def VC89 (o_:al) (l_:List ab) (Q:aX->Prop):Prop :=
 sm o_.Rows ->
 ∀ (_:sm l_),
 ((0:Int)≤(l_.length:Int)/\(l_.length:Int)≤(l_.length:Int)/\(l_.length:Int)≤1099511627776) /\
 Q (⟨o_,l_,List.replicate (l_.length:Int).toNat (false:Bool),([]:List (bW × Int))⟩:aX)
def VC70_J1 (Q:((List aa) × Int)->Prop) (v143:List aa) (v147:Bool):Prop :=
 (v147=true ->
 Q ([],41)) /\
 (v147=false ->
 Q (v143,0))
def VC70 (o_:al) (l_:List ab) (Q:(List aa) × Int->Prop):Prop :=
 sm o_.Rows ->
 ∀ (_:sm l_),
 (xG o_ l_ 20) /\
 ∀ av,cq o_ l_ 20=av ->
 ((av != 0)=true ->
 Q ([],av)) /\
 ((av != 0)=false ->
 (xI o_ l_) /\
 ∀ fa,bB o_ l_=fa ->
 sm fa.o.Rows ->
 ∀ (_:sm fa.l),
 sm fa.done ->
 (rC o_.aE [] fa) /\
 ∀ bO,aG o_.aE [] fa=bO ->
 sm bO.1 ->
 ∀ (_:sm bO.2.2.o.Rows),
 sm bO.2.2.l ->
 ∀ (_:sm bO.2.2.done),
 ((!bO.2.1)=true ->
 VC70_J1 Q bO.1 true) /\
 ((!bO.2.1)=false ->
 (ka o_ l_ bO.1) /\
 ∀ oa,cY o_ l_ bO.1=oa ->
 VC70_J1 Q bO.1 (!oa)))
def VC84 (x_:au) (Q:Int->Prop):Prop :=
 (((x_.bh != 1) && (x_.bh != 2))=true ->
 Q 8) /\
 (((x_.bh != 1) && (x_.bh != 2))=false ->
 (((decide (x_.ah < 1)) || (decide (x_.ah > 1000)))=true ->
 Q 2) /\
 (((decide (x_.ah < 1)) || (decide (x_.ah > 1000)))=false ->
 (((x_.bh == 1) && ((decide (x_.N < 0)) || (decide (x_.N≥64))))=true ->
 Q 31) /\
 (((x_.bh == 1) && ((decide (x_.N < 0)) || (decide (x_.N≥64))))=false ->
 (((x_.bh == 2) && ((decide (x_.N < 0)) || (decide (x_.N > 1000000))))=true ->
 Q 7) /\
 (((x_.bh == 2) && ((decide (x_.N < 0)) || (decide (x_.N > 1000000))))=false ->
 Q 0))))
def VC55_J1 (l_:List au) (Q:(Int × Int)->Prop):Prop :=
 Q ((l_.length:Int),0)
def VC55 (l_:List au) (Q:Int × Int->Prop):Prop :=
 sm l_ ->
 ((decide ((l_.length:Int) > 10000))=true ->
 Q (0,3)) /\
 ((decide ((l_.length:Int) > 10000))=false ->
 ∃ (I1:(List (Int × Int))->Int->Prop) (μ1:(List (Int × Int))->Int->Nat),I1 ([]:List (Int × Int)) 0/\∀ (v107:List (Int × Int)) (v110:Int),I1 v107 v110 ->
 ((decide (v110 < (l_.length:Int)))=true ->
 ((0:Int)≤v110/\v110 < (l_.length:Int)) /\
 ∀ d4,fW (gi l_ v110)=d4 ->
 ((d4 != 0)=true ->
 Q (v110,d4)) /\
 ((d4 != 0)=false ->
 (((((aC v107 ((gi l_ v110).ah)).getD 0) == 1) == (((gi l_ v110).bh) == 1))=true ->
 Q (v110,33)) /\
 (((((aC v107 ((gi l_ v110).ah)).getD 0) == 1) == (((gi l_ v110).bh) == 1))=false ->
 I1 (de v107 ((gi l_ v110).ah) ((gi l_ v110).bh)) (IntKind.i64.wrap (v110+1))/\μ1 (de v107 ((gi l_ v110).ah) ((gi l_ v110).bh)) (IntKind.i64.wrap (v110+1)) < μ1 v107 v110))) /\
 ((decide (v110 < (l_.length:Int)))=false ->
 VC55_J1 l_ Q))
def VC94_J1 (Q:Int->Prop) (v101:Int):Prop :=
 Q v101
def VC94_J2 (I1:Int->Int->Prop) (μ1:Int->Int->Nat) (v103:Int) (v104:Int) (v106:Int):Prop :=
 I1 v106 (IntKind.i64.wrap (v104+1))/\μ1 v106 (IntKind.i64.wrap (v104+1)) < μ1 v103 v104
def VC94 (l_:List au) (process:Int) (Q:Int->Prop):Prop :=
 sm l_ ->
 ∃ (I1:Int->Int->Prop) (μ1:Int->Int->Nat),I1 (-1) 0/\∀ (v103:Int) (v104:Int),I1 v103 v104 ->
 ((decide (v104 < (l_.length:Int)))=true ->
 ((0:Int)≤v104/\v104 < (l_.length:Int)) /\
 ((((gi l_ v104).ah) == process)=true ->
 VC94_J2 I1 μ1 v103 v104 v104) /\
 ((((gi l_ v104).ah) == process)=false ->
 VC94_J2 I1 μ1 v103 v104 v103)) /\
 ((decide (v104 < (l_.length:Int)))=false ->
 VC94_J1 Q v103)
def VC79 (l_:List au) (process:Int) (Q:Bool->Prop):Prop :=
 sm l_ ->
 ∀ av,hJ l_ process=av ->
 ((decide (av≥0))=true ->
 ((0:Int)≤av/\av < (l_.length:Int)) /\
 Q (((gi l_ av).bh) == 1)) /\
 ((decide (av≥0))=false ->
 Q false)
def VC50_J1 (l_:List au) (Q:(Int × Int)->Prop):Prop :=
 Q ((l_.length:Int),0)
def VC50_J2 (Q:(Int × Int)->Prop) (I1:Int->Prop) (μ1:Int->Nat) (v103:Int) (v108:Bool):Prop :=
 (v108=true ->
 Q (v103,33)) /\
 (v108=false ->
 I1 (IntKind.i64.wrap (v103+1))/\μ1 (IntKind.i64.wrap (v103+1)) < μ1 v103)
def VC50 (l_:List au) (Q:Int × Int->Prop):Prop :=
 sm l_ ->
 ((decide ((l_.length:Int) > 10000))=true ->
 Q (0,3)) /\
 ((decide ((l_.length:Int) > 10000))=false ->
 ∃ (I1:Int->Prop) (μ1:Int->Nat),I1 0/\∀ (v103:Int),I1 v103 ->
 ((decide (v103 < (l_.length:Int)))=true ->
 ((0:Int)≤v103/\v103 < (l_.length:Int)) /\
 (((((gi l_ v103).bh) != 1) && (((gi l_ v103).bh) != 2))=true ->
 Q (v103,8)) /\
 (((((gi l_ v103).bh) != 1) && (((gi l_ v103).bh) != 2))=false ->
 (((decide (((gi l_ v103).ah) < 1)) || (decide (((gi l_ v103).ah) > 1000)))=true ->
 Q (v103,2)) /\
 (((decide (((gi l_ v103).ah) < 1)) || (decide (((gi l_ v103).ah) > 1000)))=false ->
 (((((gi l_ v103).bh) == 1) && ((decide (((gi l_ v103).N) < 0)) || (decide (((gi l_ v103).N) > 63))))=true ->
 Q (v103,31)) /\
 (((((gi l_ v103).bh) == 1) && ((decide (((gi l_ v103).N) < 0)) || (decide (((gi l_ v103).N) > 63))))=false ->
 (((((gi l_ v103).bh) == 2) && ((decide (((gi l_ v103).N) < 0)) || (decide (((gi l_ v103).N) > 1000000))))=true ->
 Q (v103,7)) /\
 (((((gi l_ v103).bh) == 2) && ((decide (((gi l_ v103).N) < 0)) || (decide (((gi l_ v103).N) > 1000000))))=false ->
 ((((gi l_ v103).bh) == 1)=true ->
 ((0:Int)≤v103/\v103≤(l_.length:Int)) /\
 ∀ d4,e9 (l_.take v103.toNat) ((gi l_ v103).ah)=d4 ->
 (d4=true ->
 VC50_J2 Q I1 μ1 v103 true) /\
 (d4=false ->
 ((((gi l_ v103).bh) == 2)=true ->
 ((0:Int)≤v103/\v103≤(l_.length:Int)) /\
 ∀ dv,e9 (l_.take v103.toNat) ((gi l_ v103).ah)=dv ->
 VC50_J2 Q I1 μ1 v103 (!dv)) /\
 ((((gi l_ v103).bh) == 2)=false ->
 VC50_J2 Q I1 μ1 v103 false))) /\
 ((((gi l_ v103).bh) == 1)=false ->
 ((((gi l_ v103).bh) == 2)=true ->
 ((0:Int)≤v103/\v103≤(l_.length:Int)) /\
 ∀ fR,e9 (l_.take v103.toNat) ((gi l_ v103).ah)=fR ->
 VC50_J2 Q I1 μ1 v103 (!fR)) /\
 ((((gi l_ v103).bh) == 2)=false ->
 VC50_J2 Q I1 μ1 v103 false))))))) /\
 ((decide (v103 < (l_.length:Int)))=false ->
 VC50_J1 l_ Q))
def VC57_J1 (Q:Bool->Prop):Prop :=
 Q true
def VC57 (a_:List a9) (b_:List a9) (Q:Bool->Prop):Prop :=
 sm a_ ->
 ∀ (_:sm b_),
 (((a_.length:Int) != (b_.length:Int))=true ->
 Q false) /\
 (((a_.length:Int) != (b_.length:Int))=false ->
 ∃ (I1:Int->Prop) (μ1:Int->Nat),I1 0/\∀ (v103:Int),I1 v103 ->
 ((decide (v103 < (a_.length:Int)))=true ->
 ((0:Int)≤v103/\v103 < (a_.length:Int)) /\
 ((0:Int)≤v103/\v103 < (b_.length:Int)) /\
 ((!(((gi a_ v103).State) == ((gi b_ v103).State) && (((gi a_ v103).Kind) == ((gi b_ v103).Kind) && (((gi a_ v103).Next) == ((gi b_ v103).Next) && (((gi a_ v103).Result) == ((gi b_ v103).Result) && true)))))=true ->
 Q false) /\
 ((!(((gi a_ v103).State) == ((gi b_ v103).State) && (((gi a_ v103).Kind) == ((gi b_ v103).Kind) && (((gi a_ v103).Next) == ((gi b_ v103).Next) && (((gi a_ v103).Result) == ((gi b_ v103).Result) && true)))))=false ->
 I1 (IntKind.i64.wrap (v103+1))/\μ1 (IntKind.i64.wrap (v103+1)) < μ1 v103)) /\
 ((decide (v103 < (a_.length:Int)))=false ->
 VC57_J1 Q))
def VC26 (a_:al) (b_:al) (Q:Bool->Prop):Prop :=
 sm a_.Rows ->
 ∀ (_:sm b_.Rows),
 ((((a_.aq == b_.aq) && (a_.ax == b_.ax)) && (a_.aE == b_.aE))=true ->
 ∀ av,dT a_.Rows b_.Rows=av ->
 Q av) /\
 ((((a_.aq == b_.aq) && (a_.ax == b_.ax)) && (a_.aE == b_.aE))=false ->
 Q false)
def VC56_J1 (Q:((List ab) × Int)->Prop) (v109:List ab):Prop :=
 Q (v109,0)
def VC56_J2 (I1:(List ab)->(List (Int × Int))->Int->Prop) (μ1:(List ab)->(List (Int × Int))->Int->Nat) (v115:List ab) (v119:List (Int × Int)) (v122:Int) (v123:List ab) (v127:List (Int × Int)):Prop :=
 I1 v123 v127 (IntKind.i64.wrap (v122+1))/\μ1 v123 v127 (IntKind.i64.wrap (v122+1)) < μ1 v115 v119 v122
def VC56 (l_:List au) (Q:(List ab) × Int->Prop):Prop :=
 sm l_ ->
 ∀ av,bw l_=av ->
 ((av.2 != 0)=true ->
 Q ([],av.2)) /\
 ((av.2 != 0)=false ->
 ∃ (I1:(List ab)->(List (Int × Int))->Int->Prop) (μ1:(List ab)->(List (Int × Int))->Int->Nat),I1 [] ([]:List (Int × Int)) 0/\∀ (v115:List ab) (v119:List (Int × Int)) (v122:Int),I1 v115 v119 v122 ->
 ((decide (v122 < (l_.length:Int)))=true ->
 ((0:Int)≤v122/\v122 < (l_.length:Int)) /\
 ((((gi l_ v122).bh) == 1)=true ->
 (v115.length+[(⟨(gi l_ v122).ah,(gi l_ v122).N,v122,(-1),(-1)⟩:ab)].length≤1099511627776) /\
 VC56_J2 I1 μ1 v115 v119 v122 (v115++[(⟨(gi l_ v122).ah,(gi l_ v122).N,v122,(-1),(-1)⟩:ab)]) (de v119 ((gi l_ v122).ah) (v115.length:Int))) /\
 ((((gi l_ v122).bh) == 1)=false ->
 ((0:Int)≤((aC v119 ((gi l_ v122).ah)).getD 0)/\((aC v119 ((gi l_ v122).ah)).getD 0) < (v115.length:Int)) /\
 VC56_J2 I1 μ1 v115 v119 v122 ((v115.set ((aC v119 ((gi l_ v122).ah)).getD 0).toNat (⟨(gi v115 ((aC v119 ((gi l_ v122).ah)).getD 0)).ah,(gi v115 ((aC v119 ((gi l_ v122).ah)).getD 0)).Kind,(gi v115 ((aC v119 ((gi l_ v122).ah)).getD 0)).aD,v122,(gi v115 ((aC v119 ((gi l_ v122).ah)).getD 0)).Result⟩:ab)).set ((aC v119 ((gi l_ v122).ah)).getD 0).toNat (⟨(gi (v115.set ((aC v119 ((gi l_ v122).ah)).getD 0).toNat (⟨(gi v115 ((aC v119 ((gi l_ v122).ah)).getD 0)).ah,(gi v115 ((aC v119 ((gi l_ v122).ah)).getD 0)).Kind,(gi v115 ((aC v119 ((gi l_ v122).ah)).getD 0)).aD,v122,(gi v115 ((aC v119 ((gi l_ v122).ah)).getD 0)).Result⟩:ab)) ((aC v119 ((gi l_ v122).ah)).getD 0)).ah,(gi (v115.set ((aC v119 ((gi l_ v122).ah)).getD 0).toNat (⟨(gi v115 ((aC v119 ((gi l_ v122).ah)).getD 0)).ah,(gi v115 ((aC v119 ((gi l_ v122).ah)).getD 0)).Kind,(gi v115 ((aC v119 ((gi l_ v122).ah)).getD 0)).aD,v122,(gi v115 ((aC v119 ((gi l_ v122).ah)).getD 0)).Result⟩:ab)) ((aC v119 ((gi l_ v122).ah)).getD 0)).Kind,(gi (v115.set ((aC v119 ((gi l_ v122).ah)).getD 0).toNat (⟨(gi v115 ((aC v119 ((gi l_ v122).ah)).getD 0)).ah,(gi v115 ((aC v119 ((gi l_ v122).ah)).getD 0)).Kind,(gi v115 ((aC v119 ((gi l_ v122).ah)).getD 0)).aD,v122,(gi v115 ((aC v119 ((gi l_ v122).ah)).getD 0)).Result⟩:ab)) ((aC v119 ((gi l_ v122).ah)).getD 0)).aD,(gi (v115.set ((aC v119 ((gi l_ v122).ah)).getD 0).toNat (⟨(gi v115 ((aC v119 ((gi l_ v122).ah)).getD 0)).ah,(gi v115 ((aC v119 ((gi l_ v122).ah)).getD 0)).Kind,(gi v115 ((aC v119 ((gi l_ v122).ah)).getD 0)).aD,v122,(gi v115 ((aC v119 ((gi l_ v122).ah)).getD 0)).Result⟩:ab)) ((aC v119 ((gi l_ v122).ah)).getD 0)).End,(gi l_ v122).N⟩:ab)) v119)) /\
 ((decide (v122 < (l_.length:Int)))=false ->
 VC56_J1 Q v115))
def VC18_J1 (Q:((List ab) × Int)->Prop) (v105:List ab):Prop :=
 Q (v105,0)
def VC18_J2 (I1:(List ab)->Int->Prop) (μ1:(List ab)->Int->Nat) (v112:List ab) (v116:Int) (v118:List ab):Prop :=
 I1 v118 (IntKind.i64.wrap (v116+1))/\μ1 v118 (IntKind.i64.wrap (v116+1)) < μ1 v112 v116
def VC18_J3 (I1:(List ab)->Int->Prop) (μ1:(List ab)->Int->Nat) (v112:List ab) (v116:Int) (v145:List ab) (v149:Int) (v150:Int) (v151:Int) (v152:Int) (v153:Int):Prop :=
 (v145.length+[(⟨v149,v150,v151,v152,v153⟩:ab)].length≤1099511627776) /\
 VC18_J2 I1 μ1 v112 v116 (v145++[(⟨v149,v150,v151,v152,v153⟩:ab)])
def VC18_J4 (I2:(List ab)->Int->Int->Int->Int->Int->Int->Prop) (μ2:(List ab)->Int->Int->Int->Int->Int->Int->Nat) (v164:List ab) (v168:Int) (v169:Int) (v170:Int) (v171:Int) (v172:Int) (v173:Int) (v175:List ab) (v179:Int) (v180:Int):Prop :=
 I2 v175 (IntKind.i64.wrap (v168+1)) v169 v170 v171 v179 v180/\μ2 v175 (IntKind.i64.wrap (v168+1)) v169 v170 v171 v179 v180 < μ2 v164 v168 v169 v170 v171 v172 v173
def VC18 (l_:List au) (Q:(List ab) × Int->Prop):Prop :=
 sm l_ ->
 ∀ av,eJ l_=av ->
 ((av.2 != 0)=true ->
 Q ([],av.2)) /\
 ((av.2 != 0)=false ->
 ∃ (I1:(List ab)->Int->Prop) (μ1:(List ab)->Int->Nat),I1 [] 0/\∀ (v112:List ab) (v116:Int),I1 v112 v116 ->
 ((decide (v116 < (l_.length:Int)))=true ->
 ((0:Int)≤v116/\v116 < (l_.length:Int)) /\
 ((((gi l_ v116).bh) != 1)=true ->
 VC18_J2 I1 μ1 v112 v116 v112) /\
 ((((gi l_ v116).bh) != 1)=false ->
 ((0:Int)≤v116/\v116 < (l_.length:Int)) /\
 ((0:Int)≤v116/\v116 < (l_.length:Int)) /\
 ∃ (I2:(List ab)->Int->Int->Int->Int->Int->Int->Prop) (μ2:(List ab)->Int->Int->Int->Int->Int->Int->Nat),I2 v112 (IntKind.i64.wrap (v116+1)) ((gi l_ v116).ah) ((gi l_ v116).N) v116 (-1) (-1)/\∀ (v164:List ab) (v168:Int) (v169:Int) (v170:Int) (v171:Int) (v172:Int) (v173:Int),I2 v164 v168 v169 v170 v171 v172 v173 ->
 (((decide (v168 < (l_.length:Int))) && (decide (v172 < 0)))=true ->
 ((0:Int)≤v168/\v168 < (l_.length:Int)) /\
 ((0:Int)≤v116/\v116 < (l_.length:Int)) /\
 ((((gi l_ v168).ah) == ((gi l_ v116).ah))=true ->
 ((0:Int)≤v168/\v168 < (l_.length:Int)) /\
 VC18_J4 I2 μ2 v164 v168 v169 v170 v171 v172 v173 v164 v168 ((gi l_ v168).N)) /\
 ((((gi l_ v168).ah) == ((gi l_ v116).ah))=false ->
 VC18_J4 I2 μ2 v164 v168 v169 v170 v171 v172 v173 v164 v172 v173)) /\
 (((decide (v168 < (l_.length:Int))) && (decide (v172 < 0)))=false ->
 VC18_J3 I1 μ1 v112 v116 v164 v169 v170 v171 v172 v173))) /\
 ((decide (v116 < (l_.length:Int)))=false ->
 VC18_J1 Q v112))
def VC25_J1 (Q:Bool->Prop):Prop :=
 Q true
def VC25 (a_:List Int) (b_:List Int) (Q:Bool->Prop):Prop :=
 sm a_ ->
 ∀ (_:sm b_),
 (((a_.length:Int) != (b_.length:Int))=true ->
 Q false) /\
 (((a_.length:Int) != (b_.length:Int))=false ->
 ∃ (I1:Int->Prop) (μ1:Int->Nat),I1 0/\∀ (v103:Int),I1 v103 ->
 ((decide (v103 < (a_.length:Int)))=true ->
 ((0:Int)≤v103/\v103 < (a_.length:Int)) /\
 ((0:Int)≤v103/\v103 < (b_.length:Int)) /\
 (((gi a_ v103) != (gi b_ v103))=true ->
 Q false) /\
 (((gi a_ v103) != (gi b_ v103))=false ->
 I1 (IntKind.i64.wrap (v103+1))/\μ1 (IntKind.i64.wrap (v103+1)) < μ1 v103)) /\
 ((decide (v103 < (a_.length:Int)))=false ->
 VC25_J1 Q))
def VC92_J1 (Q:Int->Prop):Prop :=
 Q (-1)
def VC92 (s_:List Int) (v_:Int) (Q:Int->Prop):Prop :=
 sm s_ ->
 ∃ (I1:Int->Prop) (μ1:Int->Nat),I1 0/\∀ (v102:Int),I1 v102 ->
 ((decide (v102 < (s_.length:Int)))=true ->
 ((0:Int)≤v102/\v102 < (s_.length:Int)) /\
 ((v_ == (gi s_ v102))=true ->
 Q v102) /\
 ((v_ == (gi s_ v102))=false ->
 I1 (IntKind.i64.wrap (v102+1))/\μ1 (IntKind.i64.wrap (v102+1)) < μ1 v102)) /\
 ((decide (v102 < (s_.length:Int)))=false ->
 VC92_J1 Q)
def VC77 (s_:List Int) (v_:Int) (Q:Bool->Prop):Prop :=
 sm s_ ->
 ∀ av,dM s_ v_=av ->
 Q (decide (av≥0))
def VC49 (s_:List a9) (Q:(List a9)->Prop):Prop :=
 sm s_ ->
 ∀ (b101:Bool),(b101=true->s_=[]) ->
 (b101=true ->
 Q []) /\
 (b101=false ->
 (([]:List a9).length+s_.length≤1099511627776) /\
 Q (([]:List a9)++s_))
def VC76 (p_:Int × Int) (n_:Int) (Q:Bool->Prop):Prop :=
 Q (((decide ((if p_.2 < p_.1 then p_.2 else p_.1)≥0)) && (decide ((if p_.2 > p_.1 then p_.2 else p_.1) < n_))) && (p_.1 != p_.2))
def VC75 (p_:Int × Int) (am:Int) (ap:Int) (aM:List Int) (Q:Bool->Prop):Prop :=
 sm aM ->
 ∀ av,dI (p_.1,p_.2) am=av ->
 ((av && (p_.2 == ap))=true ->
 ∀ a8,cn aM p_.1=a8 ->
 Q (!a8)) /\
 ((av && (p_.2 == ap))=false ->
 Q false)
def VC93_75_J1 (Q:Int->Prop):Prop :=
 Q (-1)
def VC93_75 (s_:List (Int × Int)) (am:Int) (ap:Int) (aM:List Int) (Q:Int->Prop):Prop :=
 sm s_ ->
 ∀ (_:sm aM),
 ∃ (I1:Int->Prop) (μ1:Int->Nat),I1 0/\∀ (v103:Int),I1 v103 ->
 ((decide (v103 < (s_.length:Int)))=true ->
 ((0:Int)≤v103/\v103 < (s_.length:Int)) /\
 ∀ bA,b9 (gi s_ v103) am ap aM=bA ->
 (bA=true ->
 Q v103) /\
 (bA=false ->
 I1 (IntKind.i64.wrap (v103+1))/\μ1 (IntKind.i64.wrap (v103+1)) < μ1 v103)) /\
 ((decide (v103 < (s_.length:Int)))=false ->
 VC93_75_J1 Q)
def VC78_75 (s_:List (Int × Int)) (am:Int) (ap:Int) (aM:List Int) (Q:Bool->Prop):Prop :=
 sm s_ ->
 ∀ (_:sm aM),
 ∀ av,bl s_ am ap aM=av ->
 Q (decide (av≥0))
def VC74 (x_:Int) (am:Int) (ap:List Int) (aM:List (Int × Int)) (Q:Bool->Prop):Prop :=
 sm ap ->
 ∀ (_:sm aM),
 ∀ av,cn ap x_=av ->
 (av=true ->
 Q true) /\
 (av=false ->
 ∀ a8,bC aM am x_ ap=a8 ->
 Q a8)
def VC44_J1 (Q:((List Int) × Bool)->Prop) (v105:List Int):Prop :=
 Q (v105,true)
def VC44_J2 (n_:Int) (Q:((List Int) × Bool)->Prop) (I1:(List Int)->Prop) (μ1:(List Int)->Nat) (v112:List Int) (v116:Int) (v118:List Int):Prop :=
 ((v116 == n_)=true ->
 Q ([],false)) /\
 ((v116 == n_)=false ->
 (v118.length+[v116].length≤1099511627776) /\
 I1 (v118++[v116])/\μ1 (v118++[v116]) < μ1 v112)
def VC44_J3 (n_:Int) (Q:((List Int) × Bool)->Prop) (I1:(List Int)->Prop) (μ1:(List Int)->Nat) (v112:List Int) (I2:Int->(List Int)->Prop) (μ2:Int->(List Int)->Nat) (v133:Int) (v135:List Int) (v139:Bool) (v141:List Int):Prop :=
 (v139=true ->
 I2 (IntKind.i64.wrap (v133+1)) v141/\μ2 (IntKind.i64.wrap (v133+1)) v141 < μ2 v133 v135) /\
 (v139=false ->
 VC44_J2 n_ Q I1 μ1 v112 v133 v141)
def VC44 (n_:Int) (pairs:List (Int × Int)) (Q:(List Int) × Bool->Prop):Prop :=
 sm pairs ->
 (((decide (n_ < 0)) || (decide (n_ > 64)))=true ->
 Q ([],false)) /\
 (((decide (n_ < 0)) || (decide (n_ > 64)))=false ->
 ((0:Int)≤0/\0≤n_/\n_≤1099511627776) /\
 ∃ (I1:(List Int)->Prop) (μ1:(List Int)->Nat),I1 (List.replicate (0:Int).toNat (0:Int))/\∀ (v112:List Int),I1 v112 ->
 ((decide ((v112.length:Int) < n_))=true ->
 ∃ (I2:Int->(List Int)->Prop) (μ2:Int->(List Int)->Nat),I2 0 v112/\∀ (v133:Int) (v135:List Int),I2 v133 v135 ->
 ((decide (v133 < n_))=true ->
 ∀ yV,cW v133 n_ v135 pairs=yV ->
 VC44_J3 n_ Q I1 μ1 v112 I2 μ2 v133 v135 yV v135) /\
 ((decide (v133 < n_))=false ->
 VC44_J3 n_ Q I1 μ1 v112 I2 μ2 v133 v135 false v135)) /\
 ((decide ((v112.length:Int) < n_))=false ->
 VC44_J1 Q v112))
def VC47_J1 (Q:((List au))->Prop) (v101:List au):Prop :=
 Q v101
def VC47 (h_:aj) (Q:(List au)->Prop):Prop :=
 sm h_.ae ->
 ∀ (_:sm h_.ak),
 ∃ (I1:(List au)->Int->Prop) (μ1:(List au)->Int->Nat),I1 [] 0/\∀ (v107:List au) (v112:Int),I1 v107 v112 ->
 ((decide (v112 < (h_.ak.length:Int)))=true ->
 ((0:Int)≤v112/\v112 < (h_.ak.length:Int)) /\
 (v107.length+[((gi h_.ak v112).aK)].length≤1099511627776) /\
 I1 (v107++[((gi h_.ak v112).aK)]) (IntKind.i64.wrap (v112+1))/\μ1 (v107++[((gi h_.ak v112).aK)]) (IntKind.i64.wrap (v112+1)) < μ1 v107 v112) /\
 ((decide (v112 < (h_.ak.length:Int)))=false ->
 VC47_J1 Q v107)
def VC52 (o_:al) (Q:Bool->Prop):Prop :=
 sm o_.Rows ->
 (jV o_) /\
 ∀ av,bq o_=av ->
 Q (av.2 != 0)
def VC83_52_J1 (Q:Int->Prop):Prop :=
 Q (-1)
def VC83_52 (s_:List al) (Q:Int->Prop):Prop :=
 sm s_ ->
 ∃ (I1:Int->Prop) (μ1:Int->Nat),I1 0/\∀ (v102:Int),I1 v102 ->
 ((decide (v102 < (s_.length:Int)))=true ->
 ((0:Int)≤v102/\v102 < (s_.length:Int)) /\
 ∀ (_:sm ((gi s_ v102).Rows)),
 (jV (gi s_ v102)) /\
 ∀ bG,cG (gi s_ v102)=bG ->
 (bG=true ->
 Q v102) /\
 (bG=false ->
 I1 (IntKind.i64.wrap (v102+1))/\μ1 (IntKind.i64.wrap (v102+1)) < μ1 v102)) /\
 ((decide (v102 < (s_.length:Int)))=false ->
 VC83_52_J1 Q)
def VC54_52 (s_:List al) (Q:Bool->Prop):Prop :=
 sm s_ ->
 (lK s_) /\
 ∀ av,ba s_=av ->
 Q (decide (av≥0))
def VC23_J2 (h_:aj) (Q:(Int × Int)->Prop):Prop :=
 Q ((h_.ak.length:Int),0)
def VC23_J4 (h_:aj) (Q:(Int × Int)->Prop) (I1:(List (Int × Int))->Int->Prop) (μ1:(List (Int × Int))->Int->Nat) (v121:List (Int × Int)) (v124:Int) (v137:Bool):Prop :=
 (v137=true ->
 Q (v124,31)) /\
 (v137=false ->
 I1 (de v121 (((gi h_.ak v124).aK).ah) ((gi h_.ak v124).aw)) (IntKind.i64.wrap (v124+1))/\μ1 (de v121 (((gi h_.ak v124).aK).ah) ((gi h_.ak v124).aw)) (IntKind.i64.wrap (v124+1)) < μ1 v121 v124)
def VC23_J3 (h_:aj) (Q:(Int × Int)->Prop) (I1:(List (Int × Int))->Int->Prop) (μ1:(List (Int × Int))->Int->Nat) (v121:List (Int × Int)) (v124:Int) (v132:Bool):Prop :=
 (v132=true ->
 Q (v124,32)) /\
 (v132=false ->
 (((((gi h_.ak v124).aK).bh) == 1)=true ->
 ((0:Int)≤((gi h_.ak v124).aw)/\((gi h_.ak v124).aw) < (h_.ae.length:Int)) /\
 VC23_J4 h_ Q I1 μ1 v121 v124 (decide ((((gi h_.ak v124).aK).N)≥((gi h_.ae ((gi h_.ak v124).aw)).ax)))) /\
 (((((gi h_.ak v124).aK).bh) == 1)=false ->
 VC23_J4 h_ Q I1 μ1 v121 v124 false))
def VC23_J1 (h_:aj) (Q:(Int × Int)->Prop) (v101:Bool):Prop :=
 (v101=true ->
 Q ((-1),2)) /\
 (v101=false ->
 (kD (⟨h_.ae,h_.ak⟩:aj)) /\
 ∀ mL,bk (⟨h_.ae,h_.ak⟩:aj)=mL ->
 sm mL ->
 ∀ dp,bw mL=dp ->
 ((dp.2 != 0)=true ->
 Q (dp.1,dp.2)) /\
 ((dp.2 != 0)=false ->
 ∃ (I1:(List (Int × Int))->Int->Prop) (μ1:(List (Int × Int))->Int->Nat),I1 ([]:List (Int × Int)) 0/\∀ (v121:List (Int × Int)) (v124:Int),I1 v121 v124 ->
 ((decide (v124 < (h_.ak.length:Int)))=true ->
 ((0:Int)≤v124/\v124 < (h_.ak.length:Int)) /\
 (((decide (((gi h_.ak v124).aw) < 0)) || (decide (((gi h_.ak v124).aw)≥(h_.ae.length:Int))))=true ->
 Q (v124,2)) /\
 (((decide (((gi h_.ak v124).aw) < 0)) || (decide (((gi h_.ak v124).aw)≥(h_.ae.length:Int))))=false ->
 (((((gi h_.ak v124).aK).bh) == 2)=true ->
 VC23_J3 h_ Q I1 μ1 v121 v124 (((aC v121 (((gi h_.ak v124).aK).ah)).getD 0) != ((gi h_.ak v124).aw))) /\
 (((((gi h_.ak v124).aK).bh) == 2)=false ->
 VC23_J3 h_ Q I1 μ1 v121 v124 false))) /\
 ((decide (v124 < (h_.ak.length:Int)))=false ->
 VC23_J2 h_ Q)))
def VC23 (h_:aj) (Q:Int × Int->Prop):Prop :=
 sm h_.ae ->
 ∀ (_:sm h_.ak),
 (((decide ((h_.ae.length:Int) < 1)) || (decide ((h_.ae.length:Int) > 8)))=true ->
 VC23_J1 h_ Q true) /\
 (((decide ((h_.ae.length:Int) < 1)) || (decide ((h_.ae.length:Int) > 8)))=false ->
 (lK h_.ae) /\
 ∀ yT,aW h_.ae=yT ->
 VC23_J1 h_ Q yT)
def VC45_J1 (Q:((List au))->Prop) (v101:List au):Prop :=
 Q v101
def VC45 (l_:List aH) (Q:(List au)->Prop):Prop :=
 sm l_ ->
 ∃ (I1:(List au)->Int->Prop) (μ1:(List au)->Int->Nat),I1 [] 0/\∀ (v108:List au) (v112:Int),I1 v108 v112 ->
 ((decide (v112 < (l_.length:Int)))=true ->
 ((0:Int)≤v112/\v112 < (l_.length:Int)) /\
 (v108.length+[(gi l_ v112).aK].length≤1099511627776) /\
 I1 (v108++[(gi l_ v112).aK]) (IntKind.i64.wrap (v112+1))/\μ1 (v108++[(gi l_ v112).aK]) (IntKind.i64.wrap (v112+1)) < μ1 v108 v112) /\
 ((decide (v112 < (l_.length:Int)))=false ->
 VC45_J1 Q v108)
def VC59_J1 (Q:Int->Prop):Prop :=
 Q (-1)
def VC59 (l_:List aH) (at_:Int) (Q:Int->Prop):Prop :=
 sm l_ ->
 ∃ (I1:Int->Prop) (μ1:Int->Nat),I1 (IntKind.i64.wrap (at_ - 1))/\∀ (v102:Int),I1 v102 ->
 ((decide (v102≥0))=true ->
 ((0:Int)≤v102/\v102 < (l_.length:Int)) /\
 ((0:Int)≤at_/\at_ < (l_.length:Int)) /\
 (((((gi l_ v102).aK).ah) == (((gi l_ at_).aK).ah))=true ->
 ((0:Int)≤v102/\v102 < (l_.length:Int)) /\
 Q ((gi l_ v102).aw)) /\
 (((((gi l_ v102).aK).ah) == (((gi l_ at_).aK).ah))=false ->
 I1 (IntKind.i64.wrap (v102 - 1))/\μ1 (IntKind.i64.wrap (v102 - 1)) < μ1 v102)) /\
 ((decide (v102≥0))=false ->
 VC59_J1 Q)
def VC28_J2 (l_:List aH) (Q:(Int × Int)->Prop):Prop :=
 Q ((l_.length:Int),0)
def VC28_J4 (Q:(Int × Int)->Prop) (I1:Int->Prop) (μ1:Int->Nat) (v117:Int) (v126:Bool):Prop :=
 (v126=true ->
 Q (v117,31)) /\
 (v126=false ->
 I1 (IntKind.i64.wrap (v117+1))/\μ1 (IntKind.i64.wrap (v117+1)) < μ1 v117)
def VC28_J3 (objects:List al) (l_:List aH) (Q:(Int × Int)->Prop) (I1:Int->Prop) (μ1:Int->Nat) (v117:Int) (v123:Bool):Prop :=
 (v123=true ->
 Q (v117,32)) /\
 (v123=false ->
 (((((gi l_ v117).aK).bh) == 1)=true ->
 ((0:Int)≤((gi l_ v117).aw)/\((gi l_ v117).aw) < (objects.length:Int)) /\
 VC28_J4 Q I1 μ1 v117 (decide ((((gi l_ v117).aK).N)≥((gi objects ((gi l_ v117).aw)).ax)))) /\
 (((((gi l_ v117).aK).bh) == 1)=false ->
 VC28_J4 Q I1 μ1 v117 false))
def VC28_J1 (objects:List al) (l_:List aH) (Q:(Int × Int)->Prop):Prop :=
 (ry l_) /\
 ∀ f8,cC l_=f8 ->
 sm f8 ->
 ∀ fF,eJ f8=fF ->
 ((fF.2 != 0)=true ->
 Q (fF.1,fF.2)) /\
 ((fF.2 != 0)=false ->
 ∃ (I1:Int->Prop) (μ1:Int->Nat),I1 0/\∀ (v117:Int),I1 v117 ->
 ((decide (v117 < (l_.length:Int)))=true ->
 ((0:Int)≤v117/\v117 < (l_.length:Int)) /\
 (((decide (((gi l_ v117).aw) < 0)) || (decide (((gi l_ v117).aw)≥(objects.length:Int))))=true ->
 Q (v117,2)) /\
 (((decide (((gi l_ v117).aw) < 0)) || (decide (((gi l_ v117).aw)≥(objects.length:Int))))=false ->
 (((((gi l_ v117).aK).bh) == 2)=true ->
 (sM l_ v117) /\
 ∀ wf,fp l_ v117=wf ->
 VC28_J3 objects l_ Q I1 μ1 v117 (wf != ((gi l_ v117).aw))) /\
 (((((gi l_ v117).aK).bh) == 2)=false ->
 VC28_J3 objects l_ Q I1 μ1 v117 false))) /\
 ((decide (v117 < (l_.length:Int)))=false ->
 VC28_J2 l_ Q))
def VC28 (objects:List al) (l_:List aH) (Q:Int × Int->Prop):Prop :=
 sm objects ->
 ∀ (_:sm l_),
 (((decide ((objects.length:Int) < 1)) || (decide ((objects.length:Int) > 8)))=true ->
 Q ((-1),2)) /\
 (((decide ((objects.length:Int) < 1)) || (decide ((objects.length:Int) > 8)))=false ->
 ∃ (I2:Int->Prop) (μ2:Int->Nat),I2 0/\∀ (v152:Int),I2 v152 ->
 ((decide (v152 < (objects.length:Int)))=true ->
 ((0:Int)≤v152/\v152 < (objects.length:Int)) /\
 ∀ (_:sm ((gi objects v152).Rows)),
 ∀ t9,cD (gi objects v152)=t9 ->
 ((t9.2 != 0)=true ->
 Q ((-1),2)) /\
 ((t9.2 != 0)=false ->
 I2 (IntKind.i64.wrap (v152+1))/\μ2 (IntKind.i64.wrap (v152+1)) < μ2 v152)) /\
 ((decide (v152 < (objects.length:Int)))=false ->
 VC28_J1 objects l_ Q))
def VC48 (i_:Int) (am:aj) (ap:Int) (Q:Bool->Prop):Prop :=
 sm am.ae ->
 ∀ (_:sm am.ak),
 ((0:Int)≤i_/\i_ < (am.ak.length:Int)) /\
 Q (((gi am.ak i_).aw) == ap)
def VC46_48_J1 (Q:((List au))->Prop) (v101:List au):Prop :=
 Q v101
def VC46_48_J2 (I1:(List au)->Int->Prop) (μ1:(List au)->Int->Nat) (v109:List au) (v114:Int) (v117:List au):Prop :=
 I1 v117 (IntKind.i64.wrap (v114+1))/\μ1 v117 (IntKind.i64.wrap (v114+1)) < μ1 v109 v114
def VC46_48 (l_:List au) (am:aj) (ap:Int) (Q:(List au)->Prop):Prop :=
 sm l_ ->
 ∀ (_:sm am.ae),
 sm am.ak ->
 ∃ (I1:(List au)->Int->Prop) (μ1:(List au)->Int->Nat),I1 [] 0/\∀ (v109:List au) (v114:Int),I1 v109 v114 ->
 ((decide (v114 < (l_.length:Int)))=true ->
 ((0:Int)≤v114/\v114 < (l_.length:Int)) /\
 (xv v114 (⟨am.ae,am.ak⟩:aj) ap) /\
 ∀ sJ,eG v114 (⟨am.ae,am.ak⟩:aj) ap=sJ ->
 (sJ=true ->
 (v109.length+[(gi l_ v114)].length≤1099511627776) /\
 VC46_48_J2 I1 μ1 v109 v114 (v109++[(gi l_ v114)])) /\
 (sJ=false ->
 VC46_48_J2 I1 μ1 v109 v114 v109)) /\
 ((decide (v114 < (l_.length:Int)))=false ->
 VC46_48_J1 Q v109)
def VC17 (h_:aj) (k_:Int) (Q:eZ->Prop):Prop :=
 sm h_.ae ->
 ∀ (_:sm h_.ak),
 (fV h_) /\
 ∀ av,aA h_=av ->
 ((((av.2 != 0) || (decide (k_ < 0))) || (decide (k_≥(h_.ae.length:Int))))=true ->
 Q (⟨(⟨0,0,0,[]⟩:al),[]⟩:eZ)) /\
 ((((av.2 != 0) || (decide (k_ < 0))) || (decide (k_≥(h_.ae.length:Int))))=false ->
 (kD h_) /\
 ∀ fa,bk h_=fa ->
 sm fa ->
 (xx fa h_ k_) /\
 ∀ d4,bM fa h_ k_=d4 ->
 sm d4 ->
 ((0:Int)≤k_/\k_ < (h_.ae.length:Int)) /\
 ∀ (_:sm ((gi h_.ae k_).Rows)),
 (xH ((gi h_.ae k_).Rows)) /\
 ∀ gr,cS ((gi h_.ae k_).Rows)=gr ->
 sm gr ->
 Q (⟨(⟨(gi h_.ae k_).aq,(gi h_.ae k_).ax,(gi h_.ae k_).aE,gr⟩:al),d4⟩:eZ))
def VC24_J1 (Q:((List ab) × (List Int))->Prop) (cU:(List ab) × Int) (v120:List Int):Prop :=
 Q (cU.1,v120)
def VC24 (h_:aj) (Q:(List ab) × (List Int)->Prop):Prop :=
 sm h_.ae ->
 ∀ (_:sm h_.ak),
 (fV h_) /\
 ∀ av,aA h_=av ->
 ((av.2 != 0)=true ->
 Q ([],[])) /\
 ((av.2 != 0)=false ->
 (kD h_) /\
 ∀ a8,bk h_=a8 ->
 sm a8 ->
 ∀ cU,gw a8=cU ->
 sm cU.1 ->
 ∃ (I1:(List Int)->Int->Prop) (μ1:(List Int)->Int->Nat),I1 [] 0/\∀ (v127:List Int) (v132:Int),I1 v127 v132 ->
 ((decide (v132 < (cU.1.length:Int)))=true ->
 ((0:Int)≤v132/\v132 < (cU.1.length:Int)) /\
 ((0:Int)≤((gi cU.1 v132).aD)/\((gi cU.1 v132).aD) < (h_.ak.length:Int)) /\
 (v127.length+[(gi h_.ak ((gi cU.1 v132).aD)).aw].length≤1099511627776) /\
 I1 (v127++[(gi h_.ak ((gi cU.1 v132).aD)).aw]) (IntKind.i64.wrap (v132+1))/\μ1 (v127++[(gi h_.ak ((gi cU.1 v132).aD)).aw]) (IntKind.i64.wrap (v132+1)) < μ1 v127 v132) /\
 ((decide (v132 < (cU.1.length:Int)))=false ->
 VC24_J1 Q cU v127))
def VC16_J1 (Q:((List ab) × (List Int))->Prop) (cU:(List ab) × Int) (v120:List Int):Prop :=
 Q (cU.1,v120)
def VC16 (objects:List al) (l_:List aH) (Q:(List ab) × (List Int)->Prop):Prop :=
 sm objects ->
 ∀ (_:sm l_),
 (ko objects l_) /\
 ∀ av,du objects l_=av ->
 ((av.2 != 0)=true ->
 Q ([],[])) /\
 ((av.2 != 0)=false ->
 (ry l_) /\
 ∀ a8,cC l_=a8 ->
 sm a8 ->
 ∀ cU,gh a8=cU ->
 sm cU.1 ->
 ∃ (I1:(List Int)->Int->Prop) (μ1:(List Int)->Int->Nat),I1 [] 0/\∀ (v128:List Int) (v132:Int),I1 v128 v132 ->
 ((decide (v132 < (cU.1.length:Int)))=true ->
 ((0:Int)≤v132/\v132 < (cU.1.length:Int)) /\
 ((0:Int)≤((gi cU.1 v132).aD)/\((gi cU.1 v132).aD) < (l_.length:Int)) /\
 (v128.length+[(gi l_ ((gi cU.1 v132).aD)).aw].length≤1099511627776) /\
 I1 (v128++[(gi l_ ((gi cU.1 v132).aD)).aw]) (IntKind.i64.wrap (v132+1))/\μ1 (v128++[(gi l_ ((gi cU.1 v132).aD)).aw]) (IntKind.i64.wrap (v132+1)) < μ1 v128 v132) /\
 ((decide (v132 < (cU.1.length:Int)))=false ->
 VC16_J1 Q cU v128))
def VC41 (h_:aj) (Q:(List ab) × (List Int) × Int->Prop):Prop :=
 sm h_.ae ->
 ∀ (_:sm h_.ak),
 (fV h_) /\
 ∀ av,aA h_=av ->
 ((av.2 != 0)=true ->
 Q ([],[],av.2)) /\
 ((av.2 != 0)=false ->
 (fV h_) /\
 ∀ a8,cJ h_=a8 ->
 sm a8.1 ->
 ∀ (_:sm a8.2),
 ((decide ((a8.1.length:Int) > 20))=true ->
 Q ([],[],3)) /\
 ((decide ((a8.1.length:Int) > 20))=false ->
 Q (a8.1,a8.2,0)))
def VC69_J1 (Q:((List Int))->Prop) (v101:List Int):Prop :=
 Q v101
def VC69_J2 (I1:(List Int)->Int->Prop) (μ1:(List Int)->Int->Nat) (v107:List Int) (v112:Int) (v113:List Int):Prop :=
 I1 v113 (IntKind.i64.wrap (v112+1))/\μ1 v113 (IntKind.i64.wrap (v112+1)) < μ1 v107 v112
def VC69 (of:List Int) (k_:Int) (Q:(List Int)->Prop):Prop :=
 sm of ->
 ∃ (I1:(List Int)->Int->Prop) (μ1:(List Int)->Int->Nat),I1 [] 0/\∀ (v107:List Int) (v112:Int),I1 v107 v112 ->
 ((decide (v112 < (of.length:Int)))=true ->
 ((0:Int)≤v112/\v112 < (of.length:Int)) /\
 (((gi of v112) == k_)=true ->
 (v107.length+[v112].length≤1099511627776) /\
 VC69_J2 I1 μ1 v107 v112 (v107++[v112])) /\
 (((gi of v112) == k_)=false ->
 VC69_J2 I1 μ1 v107 v112 v107)) /\
 ((decide (v112 < (of.length:Int)))=false ->
 VC69_J1 Q v107)
def VC72 (i_:Int) (am:List Int) (ap:Int) (Q:Bool->Prop):Prop :=
 sm am ->
 ((0:Int)≤i_/\i_ < (am.length:Int)) /\
 Q ((gi am i_) == ap)
def VC71_72_J1 (Q:((List ab))->Prop) (v101:List ab):Prop :=
 Q v101
def VC71_72_J2 (I1:(List ab)->Int->Prop) (μ1:(List ab)->Int->Nat) (v108:List ab) (v113:Int) (v115:List ab):Prop :=
 I1 v115 (IntKind.i64.wrap (v113+1))/\μ1 v115 (IntKind.i64.wrap (v113+1)) < μ1 v108 v113
def VC71_72 (l_:List ab) (am:List Int) (ap:Int) (Q:(List ab)->Prop):Prop :=
 sm l_ ->
 ∀ (_:sm am),
 ∃ (I1:(List ab)->Int->Prop) (μ1:(List ab)->Int->Nat),I1 [] 0/\∀ (v108:List ab) (v113:Int),I1 v108 v113 ->
 ((decide (v113 < (l_.length:Int)))=true ->
 ((0:Int)≤v113/\v113 < (l_.length:Int)) /\
 (sK v113 am ap) /\
 ∀ yW,di v113 am ap=yW ->
 (yW=true ->
 (v108.length+[(gi l_ v113)].length≤1099511627776) /\
 VC71_72_J2 I1 μ1 v108 v113 (v108++[(gi l_ v113)])) /\
 (yW=false ->
 VC71_72_J2 I1 μ1 v108 v113 v108)) /\
 ((decide (v113 < (l_.length:Int)))=false ->
 VC71_72_J1 Q v108)
def VC42_J1 (Q:((List (List aa)) × Int)->Prop) (v101:List (List aa)):Prop :=
 Q (v101,0)
def VC42_J2 (I1:(List (List aa))->Int->Prop) (μ1:(List (List aa))->Int->Nat) (v108:List (List aa)) (v113:Int) (v147:List (List aa)) (v151:List aa):Prop :=
 (v147.length+[v151].length≤1099511627776) /\
 I1 (v147++[v151]) (IntKind.i64.wrap (v113+1))/\μ1 (v147++[v151]) (IntKind.i64.wrap (v113+1)) < μ1 v108 v113
def VC42 (h_:aj) (l_:List ab) (of:List Int) (Q:(List (List aa)) × Int->Prop):Prop :=
 sm h_.ae ->
 ∀ (_:sm h_.ak),
 sm l_ ->
 ∀ (_:sm of),
 ∃ (I1:(List (List aa))->Int->Prop) (μ1:(List (List aa))->Int->Nat),I1 [] 0/\∀ (v108:List (List aa)) (v113:Int),I1 v108 v113 ->
 ((decide (v113 < (h_.ae.length:Int)))=true ->
 ((0:Int)≤v113/\v113 < (h_.ae.length:Int)) /\
 ∀ (_:sm ((gi h_.ae v113).Rows)),
 (rA of v113) /\
 ∀ dv,aS of v113=dv ->
 sm dv ->
 (xw l_ of v113) /\
 ∀ ji,bp l_ of v113=ji ->
 sm ji ->
 (xp (gi h_.ae v113) ji) /\
 ∀ bZ,bj (gi h_.ae v113) ji=bZ ->
 sm bZ.1 ->
 ((bZ.2 != 0)=true ->
 Q ([],bZ.2)) /\
 ((bZ.2 != 0)=false ->
 ∃ (I2:(List (List aa))->(List aa)->Int->Prop) (μ2:(List (List aa))->(List aa)->Int->Nat),I2 v108 bZ.1 0/\∀ (v169:List (List aa)) (v174:List aa) (v179:Int),I2 v169 v174 v179 ->
 ((decide (v179 < (bZ.1.length:Int)))=true ->
 ((0:Int)≤v179/\v179 < (v174.length:Int)) /\
 ((0:Int)≤((gi v174 v179).Oper)/\((gi v174 v179).Oper) < (dv.length:Int)) /\
 ((0:Int)≤v179/\v179 < (v174.length:Int)) /\
 I2 v169 (v174.set v179.toNat (⟨gi dv ((gi v174 v179).Oper),(gi v174 v179).Result⟩:aa)) (IntKind.i64.wrap (v179+1))/\μ2 v169 (v174.set v179.toNat (⟨gi dv ((gi v174 v179).Oper),(gi v174 v179).Result⟩:aa)) (IntKind.i64.wrap (v179+1)) < μ2 v169 v174 v179) /\
 ((decide (v179 < (bZ.1.length:Int)))=false ->
 VC42_J2 I1 μ1 v108 v113 v169 v174))) /\
 ((decide (v113 < (h_.ae.length:Int)))=false ->
 VC42_J1 Q v108)
def VC91_J1 (Q:((List aa))->Prop) (v101:List aa):Prop :=
 Q v101
def VC91 (n_:Int) (Q:(List aa)->Prop):Prop :=
 ((decide (n_ < 0))=true ->
 False) /\
 ((decide (n_ < 0))=false ->
 ((decide ((IntKind.i64.wrap (n_ - (IntKind.i64.wrap (0 - 0)))) > 0))=true ->
 ((0:Int)≤0/\0≤(([]:List aa).length:Int)) /\
 ((0:Int) < (IntKind.i64.wrap (n_ - (IntKind.i64.wrap (0 - 0))))/\(IntKind.i64.wrap (n_ - (IntKind.i64.wrap (0 - 0))))≤1099511627776) /\
 ((0:Int)≤0/\0≤((List.replicate (IntKind.i64.wrap (n_ - (IntKind.i64.wrap (0 - 0)))).toNat (⟨0,0⟩:aa)).length:Int)) /\
 VC91_J1 Q ((List.replicate (IntKind.i64.wrap (n_ - (IntKind.i64.wrap (0 - 0)))).toNat (⟨0,0⟩:aa)).take (0:Int).toNat)) /\
 ((decide ((IntKind.i64.wrap (n_ - (IntKind.i64.wrap (0 - 0)))) > 0))=false ->
 VC91_J1 Q []))
def VC73_J2 (Q:((List aa))->Prop) (v110:List aa):Prop :=
 Q v110
def VC73_J1 (bQ:List (List aa)) (Q:((List aa))->Prop) (v102:Int):Prop :=
 (xD v102) /\
 ∀ f8,cg v102=f8 ->
 sm f8 ->
 ∃ (I1:(List aa)->Int->Prop) (μ1:(List aa)->Int->Nat),I1 f8 0/\∀ (v116:List aa) (v121:Int),I1 v116 v121 ->
 ((decide (v121 < (bQ.length:Int)))=true ->
 ((0:Int)≤v121/\v121 < (bQ.length:Int)) /\
 ∀ (_:sm (gi bQ v121)),
 (v116.length+(gi bQ v121).length≤1099511627776) /\
 I1 (v116++(gi bQ v121)) (IntKind.i64.wrap (v121+1))/\μ1 (v116++(gi bQ v121)) (IntKind.i64.wrap (v121+1)) < μ1 v116 v121) /\
 ((decide (v121 < (bQ.length:Int)))=false ->
 VC73_J2 Q v116)
def VC73 (bQ:List (List aa)) (Q:(List aa)->Prop):Prop :=
 sm bQ ->
 ∃ (I2:Int->Int->Prop) (μ2:Int->Int->Nat),I2 0 0/\∀ (v138:Int) (v140:Int),I2 v138 v140 ->
 ((decide (v140 < (bQ.length:Int)))=true ->
 ((0:Int)≤v140/\v140 < (bQ.length:Int)) /\
 ∀ (_:sm (gi bQ v140)),
 ((decide ((IntKind.i64.wrap (v138+((gi bQ v140).length:Int))) < 0))=true ->
 False) /\
 ((decide ((IntKind.i64.wrap (v138+((gi bQ v140).length:Int))) < 0))=false ->
 I2 (IntKind.i64.wrap (v138+((gi bQ v140).length:Int))) (IntKind.i64.wrap (v140+1))/\μ2 (IntKind.i64.wrap (v138+((gi bQ v140).length:Int))) (IntKind.i64.wrap (v140+1)) < μ2 v138 v140)) /\
 ((decide (v140 < (bQ.length:Int)))=false ->
 VC73_J1 bQ Q v138)
def VC43_J2 (Q:((List aa) × (List (Int × Int)))->Prop) (av:(List aa)) (v115:List (Int × Int)):Prop :=
 Q (av,v115)
def VC43_J3 (I1:(List (Int × Int))->Int->Prop) (μ1:(List (Int × Int))->Int->Nat) (v123:List (Int × Int)) (v128:Int) (v131:List (Int × Int)):Prop :=
 I1 v131 (IntKind.i64.wrap (v128+1))/\μ1 v131 (IntKind.i64.wrap (v128+1)) < μ1 v123 v128
def VC43_J4 (I2:(List (Int × Int))->Int->Prop) (μ2:(List (Int × Int))->Int->Nat) (v141:List (Int × Int)) (v147:Int) (v150:List (Int × Int)):Prop :=
 I2 v150 (IntKind.i64.wrap (v147+1))/\μ2 v150 (IntKind.i64.wrap (v147+1)) < μ2 v141 v147
def VC43_J1 (l_:List ab) (Q:((List aa) × (List (Int × Int)))->Prop) (av:(List aa)) (v110:List (Int × Int)):Prop :=
 ∃ (I1:(List (Int × Int))->Int->Prop) (μ1:(List (Int × Int))->Int->Nat),I1 v110 0/\∀ (v123:List (Int × Int)) (v128:Int),I1 v123 v128 ->
 ((decide (v128 < (av.length:Int)))=true ->
 ((0:Int)≤v128/\v128 < (av.length:Int)) /\
 ∃ (I2:(List (Int × Int))->Int->Prop) (μ2:(List (Int × Int))->Int->Nat),I2 v123 0/\∀ (v141:List (Int × Int)) (v147:Int),I2 v141 v147 ->
 ((decide (v147 < (av.length:Int)))=true ->
 ((0:Int)≤v147/\v147 < (av.length:Int)) /\
 ((0:Int)≤((gi av v128).Oper)/\((gi av v128).Oper) < (l_.length:Int)) /\
 ((0:Int)≤((gi av v147).Oper)/\((gi av v147).Oper) < (l_.length:Int)) /\
 ∀ t8,bb (gi l_ ((gi av v128).Oper)) (gi l_ ((gi av v147).Oper))=t8 ->
 (t8=true ->
 (v141.length+[(v128,v147)].length≤1099511627776) /\
 VC43_J4 I2 μ2 v141 v147 (v141++[(v128,v147)])) /\
 (t8=false ->
 VC43_J4 I2 μ2 v141 v147 v141)) /\
 ((decide (v147 < (av.length:Int)))=false ->
 VC43_J3 I1 μ1 v123 v128 v141)) /\
 ((decide (v128 < (av.length:Int)))=false ->
 VC43_J2 Q av v123)
def VC43_J5 (rows:List (List aa)) (I3:(List (Int × Int))->Int->Int->Prop) (μ3:(List (Int × Int))->Int->Int->Nat) (v196:List (Int × Int)) (v200:Int) (v202:Int) (v211:List (Int × Int)):Prop :=
 I3 v211 (IntKind.i64.wrap (v200+((gi rows v202).length:Int))) (IntKind.i64.wrap (v202+1))/\μ3 v211 (IntKind.i64.wrap (v200+((gi rows v202).length:Int))) (IntKind.i64.wrap (v202+1)) < μ3 v196 v200 v202
def VC43 (l_:List ab) (rows:List (List aa)) (Q:(List aa) × (List (Int × Int))->Prop):Prop :=
 sm l_ ->
 ∀ (_:sm rows),
 (rD rows) /\
 ∀ av,b6 rows=av ->
 sm av ->
 ∃ (I3:(List (Int × Int))->Int->Int->Prop) (μ3:(List (Int × Int))->Int->Int->Nat),I3 [] 0 0/\∀ (v196:List (Int × Int)) (v200:Int) (v202:Int),I3 v196 v200 v202 ->
 ((decide (v202 < (rows.length:Int)))=true ->
 ((0:Int)≤v202/\v202 < (rows.length:Int)) /\
 ∀ (_:sm (gi rows v202)),
 ∃ (I4:(List (Int × Int))->Int->Prop) (μ4:(List (Int × Int))->Int->Nat),I4 v196 1/\∀ (v219:List (Int × Int)) (v224:Int),I4 v219 v224 ->
 ((decide (v224 < ((gi rows v202).length:Int)))=true ->
 (v219.length+[(IntKind.i64.wrap ((IntKind.i64.wrap (v200+v224)) - 1),IntKind.i64.wrap (v200+v224))].length≤1099511627776) /\
 I4 (v219++[(IntKind.i64.wrap ((IntKind.i64.wrap (v200+v224)) - 1),IntKind.i64.wrap (v200+v224))]) (IntKind.i64.wrap (v224+1))/\μ4 (v219++[(IntKind.i64.wrap ((IntKind.i64.wrap (v200+v224)) - 1),IntKind.i64.wrap (v200+v224))]) (IntKind.i64.wrap (v224+1)) < μ4 v219 v224) /\
 ((decide (v224 < ((gi rows v202).length:Int)))=false ->
 VC43_J5 rows I3 μ3 v196 v200 v202 v219)) /\
 ((decide (v202 < (rows.length:Int)))=false ->
 VC43_J1 l_ Q av v196)
def VC15_J1 (Q:((List aa) × Int)->Prop) (v139:List aa):Prop :=
 Q (v139,0)
def VC15 (h_:aj) (Q:(List aa) × Int->Prop):Prop :=
 sm h_.ae ->
 ∀ (_:sm h_.ak),
 (fV h_) /\
 ∀ av,cb h_=av ->
 sm av.1 ->
 ∀ (_:sm av.2.1),
 ((av.2.2 != 0)=true ->
 Q ([],av.2.2)) /\
 ((av.2.2 != 0)=false ->
 (xu h_ av.1 av.2.1) /\
 ∀ dp,cv h_ av.1 av.2.1=dp ->
 sm dp.1 ->
 ((dp.2 != 0)=true ->
 Q ([],dp.2)) /\
 ((dp.2 != 0)=false ->
 (uu av.1 dp.1) /\
 ∀ fy,b8 av.1 dp.1=fy ->
 sm fy.1 ->
 ∀ (_:sm fy.2),
 ∀ fR,c8 (fy.1.length:Int) fy.2=fR ->
 sm fR.1 ->
 ((!fR.2)=true ->
 Q ([],41)) /\
 ((!fR.2)=false ->
 ∃ (I1:(List aa)->Int->Prop) (μ1:(List aa)->Int->Nat),I1 ([]:List aa) 0/\∀ (v146:List aa) (v151:Int),I1 v146 v151 ->
 ((decide (v151 < (fR.1.length:Int)))=true ->
 ((0:Int)≤v151/\v151 < (fR.1.length:Int)) /\
 ((0:Int)≤(gi fR.1 v151)/\(gi fR.1 v151) < (fy.1.length:Int)) /\
 (v146.length+[gi fy.1 (gi fR.1 v151)].length≤1099511627776) /\
 I1 (v146++[gi fy.1 (gi fR.1 v151)]) (IntKind.i64.wrap (v151+1))/\μ1 (v146++[gi fy.1 (gi fR.1 v151)]) (IntKind.i64.wrap (v151+1)) < μ1 v146 v151) /\
 ((decide (v151 < (fR.1.length:Int)))=false ->
 VC15_J1 Q v146))))
def VC9 (h_:aj) (Q:Bool × Int->Prop):Prop :=
 sm h_.ae ->
 ∀ (_:sm h_.ak),
 (fV h_) /\
 ∀ av,bP h_=av ->
 sm av.1 ->
 ((av.2 == 41)=true ->
 Q (false,0)) /\
 ((av.2 == 41)=false ->
 Q ((av.2 == 0),av.2))
def VC32 (i_:Int) (am:List aa) (ap:List ab) (aM:List Int) (bz:Int) (Q:Bool->Prop):Prop :=
 sm am ->
 ∀ (_:sm ap),
 sm aM ->
 ((0:Int)≤i_/\i_ < (am.length:Int)) /\
 (((decide (((gi am i_).Oper) < 0)) || (decide (((gi am i_).Oper)≥(ap.length:Int))))=true ->
 Q true) /\
 (((decide (((gi am i_).Oper) < 0)) || (decide (((gi am i_).Oper)≥(ap.length:Int))))=false ->
 ((0:Int)≤((gi am i_).Oper)/\((gi am i_).Oper) < (aM.length:Int)) /\
 Q ((gi aM ((gi am i_).Oper)) == bz))
def VC31_32_J1 (Q:((List aa))->Prop) (v101:List aa):Prop :=
 Q v101
def VC31_32_J2 (I1:(List aa)->Int->Prop) (μ1:(List aa)->Int->Nat) (v110:List aa) (v115:Int) (v119:List aa):Prop :=
 I1 v119 (IntKind.i64.wrap (v115+1))/\μ1 v119 (IntKind.i64.wrap (v115+1)) < μ1 v110 v115
def VC31_32 (l_:List aa) (am:List aa) (ap:List ab) (aM:List Int) (bz:Int) (Q:(List aa)->Prop):Prop :=
 sm l_ ->
 ∀ (_:sm am),
 sm ap ->
 ∀ (_:sm aM),
 ∃ (I1:(List aa)->Int->Prop) (μ1:(List aa)->Int->Nat),I1 [] 0/\∀ (v110:List aa) (v115:Int),I1 v110 v115 ->
 ((decide (v115 < (l_.length:Int)))=true ->
 ((0:Int)≤v115/\v115 < (l_.length:Int)) /\
 (xC v115 am ap aM bz) /\
 ∀ ji,dy v115 am ap aM bz=ji ->
 (ji=true ->
 (v110.length+[(gi l_ v115)].length≤1099511627776) /\
 VC31_32_J2 I1 μ1 v110 v115 (v110++[(gi l_ v115)])) /\
 (ji=false ->
 VC31_32_J2 I1 μ1 v110 v115 v110)) /\
 ((decide (v115 < (l_.length:Int)))=false ->
 VC31_32_J1 Q v110)
def VC12_J1 (ac:List aa) (Q:Bool->Prop) (a8:(List ab) × (List Int)):Prop :=
 ∀ jw,ct a8.1 ac=jw ->
 ((decide (jw < 0))=true ->
 (pS a8.1 ac) /\
 ∀ dv,bX a8.1 ac=dv ->
 sm dv ->
 Q ((dv.length:Int) == 0)) /\
 ((decide (jw < 0))=false ->
 Q false)
def VC12 (h_:aj) (ac:List aa) (Q:Bool->Prop):Prop :=
 sm h_.ae ->
 ∀ (_:sm h_.ak),
 sm ac ->
 (fV h_) /\
 ∀ av,aA h_=av ->
 ((av.2 != 0)=true ->
 Q false) /\
 ((av.2 != 0)=false ->
 (fV h_) /\
 ∀ a8,cJ h_=a8 ->
 sm a8.1 ->
 ∀ (_:sm a8.2),
 ∃ (I1:Int->Prop) (μ1:Int->Nat),I1 0/\∀ (v129:Int),I1 v129 ->
 ((decide (v129 < (h_.ae.length:Int)))=true ->
 ((0:Int)≤v129/\v129 < (h_.ae.length:Int)) /\
 ∀ (_:sm ((gi h_.ae v129).Rows)),
 (xB ac ac a8.1 a8.2 v129) /\
 ∀ bZ,bL ac ac a8.1 a8.2 v129=bZ ->
 sm bZ ->
 (ka (gi h_.ae v129) a8.1 bZ) /\
 ∀ ul,b7 (gi h_.ae v129) a8.1 bZ=ul ->
 ((ul.2.2 != 0)=true ->
 Q false) /\
 ((ul.2.2 != 0)=false ->
 I1 (IntKind.i64.wrap (v129+1))/\μ1 (IntKind.i64.wrap (v129+1)) < μ1 v129)) /\
 ((decide (v129 < (h_.ae.length:Int)))=false ->
 VC12_J1 ac Q a8))
def VC13_J2 (ac:List aa) (Q:Bool->Prop) (a8:(List ab) × (List Int)):Prop :=
 ∀ dv,ea a8.1 ac=dv ->
 ((decide (dv < 0))=true ->
 (rz a8.1 ac false) /\
 ∀ bO,eF a8.1 ac false=bO ->
 sm bO ->
 Q ((bO.length:Int) == 0)) /\
 ((decide (dv < 0))=false ->
 Q false)
def VC13_J3 (objects:List al) (Q:Bool->Prop) (a8:(List ab) × (List Int)) (I1:Int->Prop) (μ1:Int->Nat) (v136:Int) (v141:List aa):Prop :=
 ((0:Int)≤v136/\v136 < (objects.length:Int)) /\
 ∀ (_:sm ((gi objects v136).Rows)),
 ((0:Int)≤v136/\v136 < (objects.length:Int)) /\
 ∀ uk,cH (gi objects v136) a8.1 ((gi objects v136).aE) v141=uk ->
 ((uk.2.2 != 0)=true ->
 Q false) /\
 ((uk.2.2 != 0)=false ->
 I1 (IntKind.i64.wrap (v136+1))/\μ1 (IntKind.i64.wrap (v136+1)) < μ1 v136)
def VC13_J4 (I2:(List aa)->Int->Prop) (μ2:(List aa)->Int->Nat) (v166:List aa) (v170:Int) (v175:List aa):Prop :=
 I2 v175 (IntKind.i64.wrap (v170+1))/\μ2 v175 (IntKind.i64.wrap (v170+1)) < μ2 v166 v170
def VC13_J1 (objects:List al) (ac:List aa) (Q:Bool->Prop) (a8:(List ab) × (List Int)):Prop :=
 ∃ (I1:Int->Prop) (μ1:Int->Nat),I1 0/\∀ (v136:Int),I1 v136 ->
 ((decide (v136 < (objects.length:Int)))=true ->
 ∃ (I2:(List aa)->Int->Prop) (μ2:(List aa)->Int->Nat),I2 [] 0/\∀ (v166:List aa) (v170:Int),I2 v166 v170 ->
 ((decide (v170 < (ac.length:Int)))=true ->
 ((0:Int)≤v170/\v170 < (ac.length:Int)) /\
 ((0:Int)≤((gi ac v170).Oper)/\((gi ac v170).Oper) < (a8.2.length:Int)) /\
 (((gi a8.2 ((gi ac v170).Oper)) == v136)=true ->
 ((0:Int)≤v170/\v170 < (ac.length:Int)) /\
 (v166.length+[gi ac v170].length≤1099511627776) /\
 VC13_J4 I2 μ2 v166 v170 (v166++[gi ac v170])) /\
 (((gi a8.2 ((gi ac v170).Oper)) == v136)=false ->
 VC13_J4 I2 μ2 v166 v170 v166)) /\
 ((decide (v170 < (ac.length:Int)))=false ->
 VC13_J3 objects Q a8 I1 μ1 v136 v166)) /\
 ((decide (v136 < (objects.length:Int)))=false ->
 VC13_J2 ac Q a8)
def VC13_J5 (Q:Bool->Prop) (I3:Int->Prop) (μ3:Int->Nat) (v213:Int) (v218:Bool):Prop :=
 (v218=true ->
 Q false) /\
 (v218=false ->
 I3 (IntKind.i64.wrap (v213+1))/\μ3 (IntKind.i64.wrap (v213+1)) < μ3 v213)
def VC13 (objects:List al) (l_:List aH) (ac:List aa) (Q:Bool->Prop):Prop :=
 sm objects ->
 ∀ (_:sm l_),
 sm ac ->
 (ko objects l_) /\
 ∀ av,du objects l_=av ->
 ((av.2 != 0)=true ->
 Q false) /\
 ((av.2 != 0)=false ->
 (ko objects l_) /\
 ∀ a8,cX objects l_=a8 ->
 sm a8.1 ->
 ∀ (_:sm a8.2),
 ∃ (I3:Int->Prop) (μ3:Int->Nat),I3 0/\∀ (v213:Int),I3 v213 ->
 ((decide (v213 < (ac.length:Int)))=true ->
 ((0:Int)≤v213/\v213 < (ac.length:Int)) /\
 ((decide (((gi ac v213).Oper) < 0))=true ->
 VC13_J5 Q I3 μ3 v213 true) /\
 ((decide (((gi ac v213).Oper) < 0))=false ->
 ((0:Int)≤v213/\v213 < (ac.length:Int)) /\
 VC13_J5 Q I3 μ3 v213 (decide (((gi ac v213).Oper)≥(a8.1.length:Int))))) /\
 ((decide (v213 < (ac.length:Int)))=false ->
 VC13_J1 objects ac Q a8))
def VC27 (Q:al->Prop):Prop :=
 Q (⟨2,2,0,[(⟨0,0,1,0⟩:a9),(⟨0,1,0,0⟩:a9),(⟨1,0,1,0⟩:a9),(⟨1,1,1,1⟩:a9)]⟩:al)
def VC22 (object:Int) (Q:aj->Prop):Prop :=
 ∀ av,dm=av ->
 sm av.Rows ->
 ∀ bA,dm=bA ->
 sm bA.Rows ->
 Q (⟨[av,bA],[(⟨0,(⟨1,1,0⟩:au)⟩:aR),(⟨object,(⟨1,2,1⟩:au)⟩:aR),(⟨0,(⟨2,1,0⟩:au)⟩:aR),(⟨object,(⟨2,2,1⟩:au)⟩:aR)]⟩:aj)
def VC11_J1 (Q:((List aH))->Prop) (v101:List aH):Prop :=
 Q v101
def VC11 (h_:aj) (Q:(List aH)->Prop):Prop :=
 sm h_.ae ->
 ∀ (_:sm h_.ak),
 ∃ (I1:(List aH)->Int->Prop) (μ1:(List aH)->Int->Nat),I1 [] 0/\∀ (v107:List aH) (v111:Int),I1 v107 v111 ->
 ((decide (v111 < (h_.ak.length:Int)))=true ->
 ((0:Int)≤v111/\v111 < (h_.ak.length:Int)) /\
 ((0:Int)≤v111/\v111 < (h_.ak.length:Int)) /\
 (v107.length+[(⟨(gi h_.ak v111).aw,((gi h_.ak v111).aK)⟩:aH)].length≤1099511627776) /\
 I1 (v107++[(⟨(gi h_.ak v111).aw,((gi h_.ak v111).aK)⟩:aH)]) (IntKind.i64.wrap (v111+1))/\μ1 (v107++[(⟨(gi h_.ak v111).aw,((gi h_.ak v111).aK)⟩:aH)]) (IntKind.i64.wrap (v111+1)) < μ1 v107 v111) /\
 ((decide (v111 < (h_.ak.length:Int)))=false ->
 VC11_J1 Q v107)
def VC7_J1 (Q:Int->Prop) (v101:Int):Prop :=
 Q v101
def VC7_J2 (I1:Int->Int->Prop) (μ1:Int->Int->Nat) (v102:Int) (v103:Int) (v106:Int):Prop :=
 I1 v106 (IntKind.i64.wrap (v103+1))/\μ1 v106 (IntKind.i64.wrap (v103+1)) < μ1 v102 v103
def VC7 (h_:aj) (Q:Int->Prop):Prop :=
 sm h_.ae ->
 ∀ (_:sm h_.ak),
 ∃ (I1:Int->Int->Prop) (μ1:Int->Int->Nat),I1 0 0/\∀ (v102:Int) (v103:Int),I1 v102 v103 ->
 ((decide (v103 < (h_.ak.length:Int)))=true ->
 ((0:Int)≤v103/\v103 < (h_.ak.length:Int)) /\
 (((((gi h_.ak v103).aK).bh) == 1)=true ->
 VC7_J2 I1 μ1 v102 v103 (IntKind.i64.wrap (v102+1))) /\
 (((((gi h_.ak v103).aK).bh) == 1)=false ->
 VC7_J2 I1 μ1 v102 v103 v102)) /\
 ((decide (v103 < (h_.ak.length:Int)))=false ->
 VC7_J1 Q v102)
def VC19_J1 (Q:Int->Prop) (v101:Int):Prop :=
 Q v101
def VC19_J2 (I1:Int->Int->Prop) (μ1:Int->Int->Nat) (v103:Int) (v104:Int) (v106:Int):Prop :=
 I1 v106 (IntKind.i64.wrap (v104+1))/\μ1 v106 (IntKind.i64.wrap (v104+1)) < μ1 v103 v104
def VC19 (dL:List Int) (i_:Int) (Q:Int->Prop):Prop :=
 sm dL ->
 ∃ (I1:Int->Int->Prop) (μ1:Int->Int->Nat),I1 0 0/\∀ (v103:Int) (v104:Int),I1 v103 v104 ->
 ((decide (v104 < i_))=true ->
 ((0:Int)≤v104/\v104 < (dL.length:Int)) /\
 ((0:Int)≤i_/\i_ < (dL.length:Int)) /\
 (((gi dL v104) == (gi dL i_))=true ->
 VC19_J2 I1 μ1 v103 v104 (IntKind.i64.wrap (v103+1))) /\
 (((gi dL v104) == (gi dL i_))=false ->
 VC19_J2 I1 μ1 v103 v104 v103)) /\
 ((decide (v104 < i_))=false ->
 VC19_J1 Q v103)
def VC6_J1 (Q:Bool->Prop):Prop :=
 Q true
def VC6 (h_:aj) (Q:Bool->Prop):Prop :=
 sm h_.ae ->
 ∀ (_:sm h_.ak),
 (((decide ((h_.ae.length:Int) > 10)) || (decide ((h_.ak.length:Int) > 20)))=true ->
 Q false) /\
 (((decide ((h_.ae.length:Int) > 10)) || (decide ((h_.ak.length:Int) > 20)))=false ->
 ∃ (I1:Int->Prop) (μ1:Int->Nat),I1 0/\∀ (v101:Int),I1 v101 ->
 ((decide (v101 < (h_.ae.length:Int)))=true ->
 ((0:Int)≤v101/\v101 < (h_.ae.length:Int)) /\
 ∀ (_:sm ((gi h_.ae v101).Rows)),
 ∀ fF,gR (gi h_.ae v101)=fF ->
 ((!fF)=true ->
 Q false) /\
 ((!fF)=false ->
 I1 (IntKind.i64.wrap (v101+1))/\μ1 (IntKind.i64.wrap (v101+1)) < μ1 v101)) /\
 ((decide (v101 < (h_.ae.length:Int)))=false ->
 VC6_J1 Q))
def VC8 (Q:Bool->Prop):Prop :=
 ∀ av,cr 0=av ->
 sm av.ae ->
 ∀ (_:sm av.ak),
 (fV av) /\
 ∀ dp,eQ av=dp ->
 ∀ gW,cr 1=gW ->
 sm gW.ae ->
 ∀ (_:sm gW.ak),
 (fV gW) /\
 ∀ bO,eQ gW=bO ->
 ∀ gr,cr 0=gr ->
 sm gr.ae ->
 ∀ (_:sm gr.ak),
 (fV gr) /\
 ∀ bZ,bP gr=bZ ->
 sm bZ.1 ->
 ∀ lJ,cr 1=lJ ->
 sm lJ.ae ->
 ∀ (_:sm lJ.ak),
 (fV lJ) /\
 ∀ ic,bP lJ=ic ->
 sm ic.1 ->
 ∀ sI,cr 0=sI ->
 sm sI.ae ->
 ∀ (_:sm sI.ak),
 (fV sI) /\
 ∀ d8,aA sI=d8 ->
 (fV (⟨[],[]⟩:aj)) /\
 ∀ iS,aA (⟨[],[]⟩:aj)=iS ->
 ∀ gz,cr 0=gz ->
 sm gz.ae ->
 ∀ (_:sm gz.ak),
 ((0:Int)≤3/\3 < (gz.ak.length:Int)) /\
 (fV (⟨gz.ae,(gz.ak.set (3:Int).toNat (⟨1,(gi gz.ak 3).aK⟩:aR))⟩:aj)) /\
 ∀ fE,aA (⟨gz.ae,(gz.ak.set (3:Int).toNat (⟨1,(gi gz.ak 3).aK⟩:aR))⟩:aj)=fE ->
 ∀ sH,cr 1=sH ->
 sm sH.ae ->
 ∀ (_:sm sH.ak),
 (fV sH) /\
 ∀ fQ,cJ sH=fQ ->
 sm fQ.1 ->
 ∀ (_:sm fQ.2),
 ∀ sG,cr 1=sG ->
 sm sG.ae ->
 ∀ (_:sm sG.ak),
 (uq sG 1) /\
 ∀ cZ,dw sG 1=cZ ->
 sm cZ.aw.Rows ->
 ∀ (_:sm cZ.ak),
 (((((dp.1 && (dp.2 == 0)) && (!bO.1)) && (bO.2 == 0)) && (bZ.2 == 0))=true ->
 ∀ pQ,cr 0=pQ ->
 sm pQ.ae ->
 ∀ (_:sm pQ.ak),
 (rB pQ bZ.1) /\
 ∀ gO,ec pQ bZ.1=gO ->
 (((((((((gO && ((bZ.1.length:Int) == 2)) && (ic.2 == 41)) && (d8.1 == 4)) && (d8.2 == 0)) && (iS.2 == 2)) && (fE.1 == 3)) && (fE.2 == 32)) && ((fQ.1.length:Int) == 2))=true ->
 ∀ q6,eK fQ.2 [0,1]=q6 ->
 ((q6 && ((cZ.ak.length:Int) == 2))=true ->
 ∀ pP,dm=pP ->
 sm pP.Rows ->
 ∀ t6,iH cZ.aw pP=t6 ->
 (t6=true ->
 ∀ pO,cr 0=pO ->
 sm pO.ae ->
 ∀ (_:sm pO.ak),
 (rB pO []) /\
 ∀ sE,ec pO []=sE ->
 Q (!sE)) /\
 (t6=false ->
 Q false)) /\
 ((q6 && ((cZ.ak.length:Int) == 2))=false ->
 Q false)) /\
 (((((((((gO && ((bZ.1.length:Int) == 2)) && (ic.2 == 41)) && (d8.1 == 4)) && (d8.2 == 0)) && (iS.2 == 2)) && (fE.1 == 3)) && (fE.2 == 32)) && ((fQ.1.length:Int) == 2))=false ->
 Q false)) /\
 (((((dp.1 && (dp.2 == 0)) && (!bO.1)) && (bO.2 == 0)) && (bZ.2 == 0))=false ->
 Q false)
def VC5_J3 (Q:Bool->Prop):Prop :=
 ∀ lJ,fu=lJ ->
 Q lJ
def VC5_J4 (Q:Bool->Prop) (I1:Int->Prop) (μ1:Int->Nat) (v152:Int) (fg:eZ) (kZ:(List ab) × Int) (v175:List aa):Prop :=
 (ka fg.aw kZ.1 v175) /\
 ∀ v4,cY fg.aw kZ.1 v175=v4 ->
 ((!v4)=true ->
 Q false) /\
 ((!v4)=false ->
 I1 (IntKind.i64.wrap (v152+1))/\μ1 (IntKind.i64.wrap (v152+1)) < μ1 v152)
def VC5_J5 (I2:(List aa)->Int->Prop) (μ2:(List aa)->Int->Nat) (v190:List aa) (v194:Int) (v202:List aa):Prop :=
 I2 v202 (IntKind.i64.wrap (v194+1))/\μ2 v202 (IntKind.i64.wrap (v194+1)) < μ2 v190 v194
def VC5_J2 (h_:aj) (Q:Bool->Prop) (bA:(List aa) × Int) (v124:Bool):Prop :=
 (v124=true ->
 Q false) /\
 (v124=false ->
 (kD (⟨h_.ae,h_.ak⟩:aj)) /\
 ∀ gr,eV (⟨h_.ae,h_.ak⟩:aj)=gr ->
 sm gr ->
 (ko h_.ae gr) /\
 ∀ gq,cX h_.ae gr=gq ->
 sm gq.1 ->
 ∀ (_:sm gq.2),
 ∃ (I1:Int->Prop) (μ1:Int->Nat),I1 0/\∀ (v152:Int),I1 v152 ->
 ((decide (v152 < (h_.ae.length:Int)))=true ->
 (uq (⟨h_.ae,h_.ak⟩:aj) v152) /\
 ∀ fg,dw (⟨h_.ae,h_.ak⟩:aj) v152=fg ->
 sm fg.aw.Rows ->
 ∀ (_:sm fg.ak),
 ∀ kZ,gh fg.ak=kZ ->
 sm kZ.1 ->
 ∃ (I2:(List aa)->Int->Prop) (μ2:(List aa)->Int->Nat),I2 [] 0/\∀ (v190:List aa) (v194:Int),I2 v190 v194 ->
 ((decide (v194 < (bA.1.length:Int)))=true ->
 ((0:Int)≤v194/\v194 < (bA.1.length:Int)) /\
 ((0:Int)≤((gi bA.1 v194).Oper)/\((gi bA.1 v194).Oper) < (gq.2.length:Int)) /\
 (((gi gq.2 ((gi bA.1 v194).Oper)) == v152)=true ->
 ((0:Int)≤v194/\v194 < (bA.1.length:Int)) /\
 ((0:Int)≤v194/\v194 < (bA.1.length:Int)) /\
 (xq gq.2 ((gi bA.1 v194).Oper)) /\
 ∀ o7,dV gq.2 ((gi bA.1 v194).Oper)=o7 ->
 (v190.length+[(⟨o7,(gi bA.1 v194).Result⟩:aa)].length≤1099511627776) /\
 VC5_J5 I2 μ2 v190 v194 (v190++[(⟨o7,(gi bA.1 v194).Result⟩:aa)])) /\
 (((gi gq.2 ((gi bA.1 v194).Oper)) == v152)=false ->
 VC5_J5 I2 μ2 v190 v194 v190)) /\
 ((decide (v194 < (bA.1.length:Int)))=false ->
 VC5_J4 Q I1 μ1 v152 fg kZ v190)) /\
 ((decide (v152 < (h_.ae.length:Int)))=false ->
 VC5_J3 Q))
def VC5_J1 (h_:aj) (Q:Bool->Prop) (v101:Bool):Prop :=
 (v101=true ->
 ∀ mL,fu=mL ->
 Q mL) /\
 (v101=false ->
 (fV (⟨h_.ae,h_.ak⟩:aj)) /\
 ∀ bA,bP (⟨h_.ae,h_.ak⟩:aj)=bA ->
 sm bA.1 ->
 (fV (⟨h_.ae,h_.ak⟩:aj)) /\
 ∀ gW,eQ (⟨h_.ae,h_.ak⟩:aj)=gW ->
 (((((bA.2 == 0) != gW.1) || ((bA.2 == 41) && (gW.2 != 0))) || ((bA.2 != 0) && ((bA.1.length:Int) != 0)))=true ->
 Q false) /\
 (((((bA.2 == 0) != gW.1) || ((bA.2 == 41) && (gW.2 != 0))) || ((bA.2 != 0) && ((bA.1.length:Int) != 0)))=false ->
 ((bA.2 != 0)=true ->
 ∀ wk,fu=wk ->
 Q wk) /\
 ((bA.2 != 0)=false ->
 (kD (⟨h_.ae,h_.ak⟩:aj)) /\
 ∀ gO,eV (⟨h_.ae,h_.ak⟩:aj)=gO ->
 sm gO ->
 (xt h_.ae gO bA.1) /\
 ∀ t7,fq h_.ae gO bA.1=t7 ->
 ((!t7)=true ->
 VC5_J2 h_ Q bA true) /\
 ((!t7)=false ->
 (rB (⟨h_.ae,h_.ak⟩:aj) bA.1) /\
 ∀ v2,ec (⟨h_.ae,h_.ak⟩:aj) bA.1=v2 ->
 VC5_J2 h_ Q bA (!v2)))))
def VC5 (h_:aj) (Q:Bool->Prop):Prop :=
 sm h_.ae ->
 ∀ (_:sm h_.ak),
 ∀ v1,gQ h_=v1 ->
 ((!v1)=true ->
 VC5_J1 h_ Q true) /\
 ((!v1)=false ->
 ∀ yR,eY h_=yR ->
 VC5_J1 h_ Q (decide (yR > 8)))
end Go.Proofs.YteahldlmkheleaaGreat
