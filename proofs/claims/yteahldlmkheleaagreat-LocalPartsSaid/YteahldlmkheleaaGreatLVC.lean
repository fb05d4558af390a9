/- The conditions of the functions, in terms of their callees. -/
import Derived.Test.YteahldlmkheleaaGreatLSpec
set_option linter.all false
namespace Go.Proofs.YteahldlmkheleaaGreat
open Go Go.Sv
def VC21 (o_:aj) (Q:Bool->Prop):Prop :=
 sm o_.Rows ->
 Q (decide ((o_.Rows.length:Int)≤300))
def VC81 (n_:Int) (top:Int) (Q:Bool->Prop):Prop :=
 Q ((decide (n_≥0)) && (decide (n_ < top)))
def VC107_J1 (Q:Int->Prop):Prop :=
 Q 0
def VC107 (vals:List Int) (Q:Int->Prop):Prop :=
 sm vals ->
 ∃ (I1:Int->Prop) (μ1:Int->Nat),I1 0/\∀ (v102:Int),I1 v102 ->
 ((decide (v102 < (vals.length:Int)))=true ->
 ((0:Int)≤v102/\v102 < (vals.length:Int)) /\
 (((gi vals v102) != 0)=true ->
 Q (gi vals v102)) /\
 (((gi vals v102) != 0)=false ->
 I1 (IntKind.i64.wrap (v102+1))/\μ1 (IntKind.i64.wrap (v102+1)) < μ1 v102)) /\
 ((decide (v102 < (vals.length:Int)))=false ->
 VC107_J1 Q)
def VC113 (x_:Int) (Q:Bool->Prop):Prop :=
 Q (x_ != x_)
def VC108 (x_:Int) (y_:Int) (Q:Int->Prop):Prop :=
 ∀ ax,eY x_=ax ->
 ∀ ba,eY y_=ba ->
 (ax=true ->
 (ba=true ->
 Q 0) /\
 (ba=false ->
 Q (-1))) /\
 (ax=false ->
 (ba=true ->
 Q 1) /\
 (ba=false ->
 ((decide (x_ < y_))=true ->
 Q (-1)) /\
 ((decide (x_ < y_))=false ->
 ((decide (x_ > y_))=true ->
 Q 1) /\
 ((decide (x_ > y_))=false ->
 Q 0))))
def VC96 (a_:bb) (b_:bb) (Q:Int->Prop):Prop :=
 ∀ gC,dw a_.State b_.State=gC ->
 ∀ fu,dw a_.Kind b_.Kind=fu ->
 ∀ lJ,gA [gC,fu]=lJ ->
 Q lJ
def VC82_J2 (Q:Int->Prop) (v114:Bool):Prop :=
 (v114=true ->
 Q 32) /\
 (v114=false ->
 Q 0)
def VC82_J1 (o_:aj) (i_:Int) (Q:Int->Prop) (v104:Bool):Prop :=
 (v104=true ->
 Q 30) /\
 (v104=false ->
 ∀ jg,b6 ((gi o_.Rows i_).Kind) o_.az=jg ->
 ((!jg)=true ->
 Q 31) /\
 ((!jg)=false ->
 ∀ fT,b6 ((gi o_.Rows i_).Result) 1000001=fT ->
 ((!fT)=true ->
 Q 7) /\
 ((!fT)=false ->
 ((decide (i_ > 0))=true ->
 ((0:Int)≤(IntKind.i64.wrap (i_ - 1))/\(IntKind.i64.wrap (i_ - 1)) < (o_.Rows.length:Int)) /\
 ∀ vf,gv (gi o_.Rows (IntKind.i64.wrap (i_ - 1))) (gi o_.Rows i_)=vf ->
 VC82_J2 Q (decide (vf≥0))) /\
 ((decide (i_ > 0))=false ->
 VC82_J2 Q false))))
def VC82 (o_:aj) (i_:Int) (Q:Int->Prop):Prop :=
 sm o_.Rows ->
 ((0:Int)≤i_/\i_ < (o_.Rows.length:Int)) /\
 ∀ xk,b6 ((gi o_.Rows i_).State) o_.au=xk ->
 ((!xk)=true ->
 VC82_J1 o_ i_ Q true) /\
 ((!xk)=false ->
 ∀ gk,b6 ((gi o_.Rows i_).Next) o_.au=gk ->
 VC82_J1 o_ i_ Q (!gk))
def VC53_J2 (o_:aj) (Q:(Int × Int)->Prop):Prop :=
 Q ((o_.Rows.length:Int),0)
def VC53_J1 (o_:aj) (Q:(Int × Int)->Prop) (v101:Bool):Prop :=
 (v101=true ->
 Q ((-1),2)) /\
 (v101=false ->
 ∃ (I1:Int->Prop) (μ1:Int->Nat),I1 0/\∀ (v104:Int),I1 v104 ->
 ((decide (v104 < (o_.Rows.length:Int)))=true ->
 (preRow o_ v104) /\
 ∀ jg,ix o_ v104=jg ->
 ((jg != 0)=true ->
 Q (v104,jg)) /\
 ((jg != 0)=false ->
 I1 (IntKind.i64.wrap (v104+1))/\μ1 (IntKind.i64.wrap (v104+1)) < μ1 v104)) /\
 ((decide (v104 < (o_.Rows.length:Int)))=false ->
 VC53_J2 o_ Q))
def VC53 (o_:aj) (Q:Int × Int->Prop):Prop :=
 sm o_.Rows ->
 ∀ eN,b6 (IntKind.i64.wrap (o_.au - 1)) 32=eN ->
 ((!eN)=true ->
 VC53_J1 o_ Q true) /\
 ((!eN)=false ->
 ∀ e8,b6 (IntKind.i64.wrap (o_.az - 1)) 64=e8 ->
 ((!e8)=true ->
 VC53_J1 o_ Q true) /\
 ((!e8)=false ->
 ∀ z6,b6 o_.aH o_.au=z6 ->
 VC53_J1 o_ Q (!z6)))
def VC85 (o_:aj) (state:Int) (Q:Int->Prop):Prop :=
 sm o_.Rows ->
 (kL o_) /\
 ∀ ax,bB o_=ax ->
 ((ax.2 != 0)=true ->
 Q 2) /\
 ((ax.2 != 0)=false ->
 (((decide (state < 0)) || (decide (state≥o_.au)))=true ->
 Q 30) /\
 (((decide (state < 0)) || (decide (state≥o_.au)))=false ->
 Q 0))
def VC86 (o_:aj) (l_:List ab) (state:Int) (Q:(List ab) × (List (Int × Int)) × aj × Int->Prop):Prop :=
 sm o_.Rows ->
 ∀ (_:sm l_),
 Q (l_,([]:List (Int × Int)),o_,state)
def VC110 (r_:bb) (ao:Int) (ay:Int) (Q:Bool->Prop):Prop :=
 Q (r_.State == ao && (r_.Kind == ay && (r_.Next == r_.Next && (r_.Result == r_.Result && true))))
def VC111_110_J1 (Q:Int->Prop):Prop :=
 Q (-1)
def VC111_110 (s_:List bb) (ao:Int) (ay:Int) (Q:Int->Prop):Prop :=
 sm s_ ->
 ∃ (I1:Int->Prop) (μ1:Int->Nat),I1 0/\∀ (v102:Int),I1 v102 ->
 ((decide (v102 < (s_.length:Int)))=true ->
 ((0:Int)≤v102/\v102 < (s_.length:Int)) /\
 ∀ jg,gE (gi s_ v102) ao ay=jg ->
 (jg=true ->
 Q v102) /\
 (jg=false ->
 I1 (IntKind.i64.wrap (v102+1))/\μ1 (IntKind.i64.wrap (v102+1)) < μ1 v102)) /\
 ((decide (v102 < (s_.length:Int)))=false ->
 VC111_110_J1 Q)
def VC103 (o_:aj) (state:Int) (kind:Int) (Q:Int × Int × Bool->Prop):Prop :=
 sm o_.Rows ->
 ∀ ax,bk o_.Rows state kind=ax ->
 ((decide (ax < 0))=true ->
 Q (0,0,false)) /\
 ((decide (ax < 0))=false ->
 ((0:Int)≤ax/\ax < (o_.Rows.length:Int)) /\
 ((0:Int)≤ax/\ax < (o_.Rows.length:Int)) /\
 Q ((gi o_.Rows ax).Next,(gi o_.Rows ax).Result,true))
def VC109 (t_:ie) (state:Int) (kind:Int) (Q:Int × Int × Bool->Prop):Prop :=
 sm t_.o.Rows ->
 ∀ ax,cw t_.o state kind=ax ->
 Q (ax.1,ax.2.1,ax.2.2)
def VC98 (o_:aj) (state:Int) (kind:Int) (result:Int) (Q:Int × Int->Prop):Prop :=
 sm o_.Rows ->
 (((decide (state < 0)) || (decide (state≥o_.au)))=true ->
 Q (0,30)) /\
 (((decide (state < 0)) || (decide (state≥o_.au)))=false ->
 ∀ ax,eZ (⟨o_⟩:ie) state kind=ax ->
 (((!ax.2.2) || (ax.2.1 != result))=true ->
 Q (0,40)) /\
 (((!ax.2.2) || (ax.2.1 != result))=false ->
 Q (ax.1,0)))
def VC97_J1 (p_:aa) (ay:List (Int × Int)) (bF:Int) (Q:(Int × Int × (List (Int × Int)) × Int)->Prop) (df:Int × Int) (v112:Int):Prop :=
 ((v112 != 0)=true ->
 Q (0,v112,dv ay p_.Oper (IntKind.i64.wrap (((aF ay p_.Oper).getD 0)+1)),bF)) /\
 ((v112 != 0)=false ->
 Q (df.1,0,dv ay p_.Oper (IntKind.i64.wrap (((aF ay p_.Oper).getD 0)+1)),df.1))
def VC97 (p_:aa) (ao:List ab) (ay:List (Int × Int)) (aO:aj) (bF:Int) (Q:Int × Int × (List (Int × Int)) × Int->Prop):Prop :=
 sm ao ->
 ∀ (_:sm aO.Rows),
 (((decide (p_.Oper < 0)) || (decide (p_.Oper≥(ao.length:Int))))=true ->
 Q (0,2,ay,bF)) /\
 (((decide (p_.Oper < 0)) || (decide (p_.Oper≥(ao.length:Int))))=false ->
 ((decide (((aF ay p_.Oper).getD 0) > 0))=true ->
 Q (0,21,ay,bF)) /\
 ((decide (((aF ay p_.Oper).getD 0) > 0))=false ->
 ((0:Int)≤p_.Oper/\p_.Oper < (ao.length:Int)) /\
 ∀ df,iR aO bF ((gi ao p_.Oper).Kind) p_.Result=df ->
 ((((df.2 == 0) && (((gi ao p_.Oper).End) != (-1))) && (((gi ao p_.Oper).Result) != p_.Result))=true ->
 VC97_J1 p_ ay bF Q df 40) /\
 ((((df.2 == 0) && (((gi ao p_.Oper).End) != (-1))) && (((gi ao p_.Oper).Result) != p_.Result))=false ->
 VC97_J1 p_ ay bF Q df df.2)))
def VC62_J1 (ah:List aa) (Q:(Int × Int × Int)->Prop) (v126:Int):Prop :=
 Q (v126,(ah.length:Int),0)
def VC62 (o_:aj) (l_:List ab) (state:Int) (ah:List aa) (Q:Int × Int × Int->Prop):Prop :=
 sm o_.Rows ->
 ∀ (_:sm l_),
 sm ah ->
 (yw o_ state) /\
 ∀ ax,fF o_ state=ax ->
 ((ax != 0)=true ->
 Q (0,(-1),ax)) /\
 ((ax != 0)=false ->
 ∀ ba,eD o_ l_ state=ba ->
 sm ba.1 ->
 ∀ (_:sm ba.2.2.1.Rows),
 ∃ (I1:Int->Int->(List (Int × Int))->Int->Prop) (μ1:Int->Int->(List (Int × Int))->Int->Nat),I1 state 0 ba.2.1 ba.2.2.2/\∀ (v128:Int) (v130:Int) (v132:List (Int × Int)) (v135:Int),I1 v128 v130 v132 v135 ->
 ((decide (v130 < (ah.length:Int)))=true ->
 ((0:Int)≤v130/\v130 < (ah.length:Int)) /\
 ∀ cc,dn (gi ah v130) ba.1 v132 ba.2.2.1 v135=cc ->
 ((cc.2.1 != 0)=true ->
 Q (0,v130,cc.2.1)) /\
 ((cc.2.1 != 0)=false ->
 I1 cc.1 (IntKind.i64.wrap (v130+1)) cc.2.2.1 cc.2.2.2/\μ1 cc.1 (IntKind.i64.wrap (v130+1)) cc.2.2.1 cc.2.2.2 < μ1 v128 v130 v132 v135)) /\
 ((decide (v130 < (ah.length:Int)))=false ->
 VC62_J1 ah Q v128))
def VC33 (o_:aj) (l_:List ab) (ah:List aa) (Q:Int × Int × Int->Prop):Prop :=
 sm o_.Rows ->
 ∀ (_:sm l_),
 sm ah ->
 (yv o_ l_ o_.aH ah) /\
 ∀ ax,jq o_ l_ o_.aH ah=ax ->
 Q (ax.1,ax.2.1,ax.2.2)
def VC87_J1 (Q:((List (Int × Int)))->Prop) (v105:List (Int × Int)):Prop :=
 Q v105
def VC87 (ah:List aa) (Q:(List (Int × Int))->Prop):Prop :=
 sm ah ->
 ∃ (I1:Int->(List (Int × Int))->Prop) (μ1:Int->(List (Int × Int))->Nat),I1 0 ([]:List (Int × Int))/\∀ (v108:Int) (v109:List (Int × Int)),I1 v108 v109 ->
 ((decide (v108 < (ah.length:Int)))=true ->
 ((0:Int)≤v108/\v108 < (ah.length:Int)) /\
 I1 (IntKind.i64.wrap (v108+1)) (dv v109 ((gi ah v108).Oper) (IntKind.i64.wrap (((aF v109 ((gi ah v108).Oper)).getD 0)+1)))/\μ1 (IntKind.i64.wrap (v108+1)) (dv v109 ((gi ah v108).Oper) (IntKind.i64.wrap (((aF v109 ((gi ah v108).Oper)).getD 0)+1))) < μ1 v108 v109) /\
 ((decide (v108 < (ah.length:Int)))=false ->
 VC87_J1 Q v109)
def VC99 (i_:Int) (ao:List (Int × Int)) (Q:Bool->Prop):Prop :=
 Q (((aF ao i_).getD 0) == 0)
def VC64_J1 (Q:((List Int))->Prop) (v109:List Int):Prop :=
 Q v109
def VC64_J2 (I1:(List Int)->Int->Prop) (μ1:(List Int)->Int->Nat) (v115:List Int) (v120:Int) (v122:List Int):Prop :=
 I1 v122 (IntKind.i64.wrap (v120+1))/\μ1 v122 (IntKind.i64.wrap (v120+1)) < μ1 v115 v120
def VC64_J3 (I1:(List Int)->Int->Prop) (μ1:(List Int)->Int->Nat) (v115:List Int) (v120:Int) (v131:List Int) (v136:Bool):Prop :=
 (v136=true ->
 (v131.length+[v120].length≤1099511627776) /\
 VC64_J2 I1 μ1 v115 v120 (v131++[v120])) /\
 (v136=false ->
 VC64_J2 I1 μ1 v115 v120 v131)
def VC64 (l_:List ab) (ah:List aa) (pending:Bool) (Q:(List Int)->Prop):Prop :=
 sm l_ ->
 ∀ (_:sm ah),
 ∀ ax,fo ah=ax ->
 ∃ (I1:(List Int)->Int->Prop) (μ1:(List Int)->Int->Nat),I1 [] 0/\∀ (v115:List Int) (v120:Int),I1 v115 v120 ->
 ((decide (v120 < (l_.length:Int)))=true ->
 ((0:Int)≤v120/\v120 < (l_.length:Int)) /\
 (((((gi l_ v120).End) == (-1)) == pending)=true ->
 ∀ zZ,fk v120 ax=zZ ->
 VC64_J3 I1 μ1 v115 v120 v115 zZ) /\
 (((((gi l_ v120).End) == (-1)) == pending)=false ->
 VC64_J3 I1 μ1 v115 v120 v115 false)) /\
 ((decide (v120 < (l_.length:Int)))=false ->
 VC64_J1 Q v115)
def VC35 (l_:List ab) (ah:List aa) (Q:(List Int)->Prop):Prop :=
 sm l_ ->
 ∀ (_:sm ah),
 (vg l_ ah false) /\
 ∀ ax,eC l_ ah false=ax ->
 sm ax ->
 Q ax
def VC63 (a_:ab) (b_:ab) (Q:Bool->Prop):Prop :=
 Q ((decide (a_.End≥0)) && (decide (a_.End < b_.aI)))
def VC34_J1 (Q:Int->Prop):Prop :=
 Q (-1)
def VC34_J2 (I1:(List (Int × Int))->Int->Prop) (μ1:(List (Int × Int))->Int->Nat) (v106:List (Int × Int)) (v109:Int) (v111:List (Int × Int)):Prop :=
 I1 v111 (IntKind.i64.wrap (v109+1))/\μ1 v111 (IntKind.i64.wrap (v109+1)) < μ1 v106 v109
def VC34_J3 (ah:List aa) (I1:(List (Int × Int))->Int->Prop) (μ1:(List (Int × Int))->Int->Nat) (v106:List (Int × Int)) (v109:Int):Prop :=
 VC34_J2 I1 μ1 v106 v109 (dv v106 ((gi ah v109).Oper) (IntKind.i64.wrap (((aF v106 ((gi ah v109).Oper)).getD 0)+1)))
def VC34_J4 (Q:Int->Prop) (v109:Int) (I2:Int->Prop) (μ2:Int->Nat) (v127:Int) (v135:Bool):Prop :=
 (v135=true ->
 Q v109) /\
 (v135=false ->
 I2 (IntKind.i64.wrap (v127+1))/\μ2 (IntKind.i64.wrap (v127+1)) < μ2 v127)
def VC34 (l_:List ab) (ah:List aa) (Q:Int->Prop):Prop :=
 sm l_ ->
 ∀ (_:sm ah),
 ∃ (I1:(List (Int × Int))->Int->Prop) (μ1:(List (Int × Int))->Int->Nat),I1 ([]:List (Int × Int)) 0/\∀ (v106:List (Int × Int)) (v109:Int),I1 v106 v109 ->
 ((decide (v109 < (ah.length:Int)))=true ->
 ((0:Int)≤v109/\v109 < (ah.length:Int)) /\
 (((decide (((gi ah v109).Oper) < 0)) || (decide (((gi ah v109).Oper)≥(l_.length:Int))))=true ->
 VC34_J2 I1 μ1 v106 v109 v106) /\
 (((decide (((gi ah v109).Oper) < 0)) || (decide (((gi ah v109).Oper)≥(l_.length:Int))))=false ->
 ∃ (I2:Int->Prop) (μ2:Int->Nat),I2 0/\∀ (v127:Int),I2 v127 ->
 ((decide (v127 < (l_.length:Int)))=true ->
 ((0:Int)≤v127/\v127 < (l_.length:Int)) /\
 ((0:Int)≤((gi ah v109).Oper)/\((gi ah v109).Oper) < (l_.length:Int)) /\
 ∀ gH,bl (gi l_ v127) (gi l_ ((gi ah v109).Oper))=gH ->
 (gH=true ->
 VC34_J4 Q v109 I2 μ2 v127 (((aF v106 v127).getD 0) == 0)) /\
 (gH=false ->
 VC34_J4 Q v109 I2 μ2 v127 false)) /\
 ((decide (v127 < (l_.length:Int)))=false ->
 VC34_J3 ah I1 μ1 v106 v109))) /\
 ((decide (v109 < (ah.length:Int)))=false ->
 VC34_J1 Q)
def VC106 (o_:ab) (Q:Bool->Prop):Prop :=
 ((o_.End == (-1))=true ->
 Q (o_.Result == (-1))) /\
 ((o_.End == (-1))=false ->
 Q ((((decide (o_.End > o_.aI)) && (decide (o_.End≤9999))) && (decide (o_.Result≥0))) && (decide (o_.Result≤1000000))))
def VC95 (o_:ab) (Q:Int->Prop):Prop :=
 (((((decide (o_.ak < 1)) || (decide (o_.ak > 1000))) || (decide (o_.aI < 0))) || (decide (o_.aI > 9999)))=true ->
 Q 2) /\
 (((((decide (o_.ak < 1)) || (decide (o_.ak > 1000))) || (decide (o_.aI < 0))) || (decide (o_.aI > 9999)))=false ->
 (((decide (o_.Kind < 0)) || (decide (o_.Kind≥64)))=true ->
 Q 31) /\
 (((decide (o_.Kind < 0)) || (decide (o_.Kind≥64)))=false ->
 ∀ ax,eG o_=ax ->
 ((!ax)=true ->
 Q 7) /\
 ((!ax)=false ->
 Q 0)))
def VC80_J1 (l_:List ab) (Q:(Int × Int)->Prop):Prop :=
 Q ((l_.length:Int),0)
def VC80_J2 (l_:List ab) (I1:(List (Int × Int))->(List (Int × ab))->Int->Prop) (μ1:(List (Int × Int))->(List (Int × ab))->Int->Nat) (v111:List (Int × Int)) (v113:List (Int × ab)) (v116:Int) (v118:List (Int × Int)):Prop :=
 I1 v118 (dv v113 ((gi l_ v116).ak) (gi l_ v116)) (IntKind.i64.wrap (v116+1))/\μ1 v118 (dv v113 ((gi l_ v116).ak) (gi l_ v116)) (IntKind.i64.wrap (v116+1)) < μ1 v111 v113 v116
def VC80_J4 (l_:List ab) (Q:(Int × Int)->Prop) (I1:(List (Int × Int))->(List (Int × ab))->Int->Prop) (μ1:(List (Int × Int))->(List (Int × ab))->Int->Nat) (v111:List (Int × Int)) (v113:List (Int × ab)) (v116:Int) (v139:Bool):Prop :=
 (v139=true ->
 Q (v116,33)) /\
 (v139=false ->
 ((decide (((gi l_ v116).End)≥0))=true ->
 VC80_J2 l_ I1 μ1 v111 v113 v116 (dv (dv v111 ((gi l_ v116).aI) (IntKind.i64.wrap (((aF v111 ((gi l_ v116).aI)).getD 0)+1))) ((gi l_ v116).End) (IntKind.i64.wrap (((aF (dv v111 ((gi l_ v116).aI) (IntKind.i64.wrap (((aF v111 ((gi l_ v116).aI)).getD 0)+1))) ((gi l_ v116).End)).getD 0)+1)))) /\
 ((decide (((gi l_ v116).End)≥0))=false ->
 VC80_J2 l_ I1 μ1 v111 v113 v116 (dv v111 ((gi l_ v116).aI) (IntKind.i64.wrap (((aF v111 ((gi l_ v116).aI)).getD 0)+1)))))
def VC80_J3 (l_:List ab) (Q:(Int × Int)->Prop) (I1:(List (Int × Int))->(List (Int × ab))->Int->Prop) (μ1:(List (Int × Int))->(List (Int × ab))->Int->Nat) (v111:List (Int × Int)) (v113:List (Int × ab)) (v116:Int) (v133:Bool):Prop :=
 (v133=true ->
 Q (v116,32)) /\
 (v133=false ->
 (((aF v113 ((gi l_ v116).ak)).isSome)=true ->
 ∀ oV,bl ((aF v113 ((gi l_ v116).ak)).getD (⟨0,0,0,0,0⟩:ab)) (gi l_ v116)=oV ->
 VC80_J4 l_ Q I1 μ1 v111 v113 v116 (!oV)) /\
 (((aF v113 ((gi l_ v116).ak)).isSome)=false ->
 VC80_J4 l_ Q I1 μ1 v111 v113 v116 false))
def VC80 (l_:List ab) (Q:Int × Int->Prop):Prop :=
 sm l_ ->
 ((decide ((l_.length:Int) > 5000))=true ->
 Q (0,3)) /\
 ((decide ((l_.length:Int) > 5000))=false ->
 ∃ (I1:(List (Int × Int))->(List (Int × ab))->Int->Prop) (μ1:(List (Int × Int))->(List (Int × ab))->Int->Nat),I1 ([]:List (Int × Int)) ([]:List (Int × ab)) 0/\∀ (v111:List (Int × Int)) (v113:List (Int × ab)) (v116:Int),I1 v111 v113 v116 ->
 ((decide (v116 < (l_.length:Int)))=true ->
 ((0:Int)≤v116/\v116 < (l_.length:Int)) /\
 ∀ bO,dq (gi l_ v116)=bO ->
 ((bO != 0)=true ->
 Q (v116,bO)) /\
 ((bO != 0)=false ->
 ((decide (v116 > 0))=true ->
 ((0:Int)≤(IntKind.i64.wrap (v116 - 1))/\(IntKind.i64.wrap (v116 - 1)) < (l_.length:Int)) /\
 ((decide (((gi l_ v116).aI)≤((gi l_ (IntKind.i64.wrap (v116 - 1))).aI)))=true ->
 VC80_J3 l_ Q I1 μ1 v111 v113 v116 true) /\
 ((decide (((gi l_ v116).aI)≤((gi l_ (IntKind.i64.wrap (v116 - 1))).aI)))=false ->
 ((decide (((aF v111 ((gi l_ v116).aI)).getD 0) > 0))=true ->
 VC80_J3 l_ Q I1 μ1 v111 v113 v116 true) /\
 ((decide (((aF v111 ((gi l_ v116).aI)).getD 0) > 0))=false ->
 ((decide (((gi l_ v116).End)≥0))=true ->
 VC80_J3 l_ Q I1 μ1 v111 v113 v116 (decide (((aF v111 ((gi l_ v116).End)).getD 0) > 0))) /\
 ((decide (((gi l_ v116).End)≥0))=false ->
 VC80_J3 l_ Q I1 μ1 v111 v113 v116 false)))) /\
 ((decide (v116 > 0))=false ->
 ((decide (((aF v111 ((gi l_ v116).aI)).getD 0) > 0))=true ->
 VC80_J3 l_ Q I1 μ1 v111 v113 v116 true) /\
 ((decide (((aF v111 ((gi l_ v116).aI)).getD 0) > 0))=false ->
 ((decide (((gi l_ v116).End)≥0))=true ->
 VC80_J3 l_ Q I1 μ1 v111 v113 v116 (decide (((aF v111 ((gi l_ v116).End)).getD 0) > 0))) /\
 ((decide (((gi l_ v116).End)≥0))=false ->
 VC80_J3 l_ Q I1 μ1 v111 v113 v116 false))))) /\
 ((decide (v116 < (l_.length:Int)))=false ->
 VC80_J1 l_ Q))
def VC51 (o_:aj) (l_:List ab) (ah:List aa) (Q:Int × Int->Prop):Prop :=
 sm o_.Rows ->
 ∀ (_:sm l_),
 sm ah ->
 (kL o_) /\
 ∀ ax,bB o_=ax ->
 ∀ ba,c7 l_=ba ->
 (((ax.2 != 0) || (ba.2 != 0))=true ->
 Q ((-1),2)) /\
 (((ax.2 != 0) || (ba.2 != 0))=false ->
 (lq o_ l_ ah) /\
 ∀ bN,cS o_ l_ ah=bN ->
 ((bN.2.2 != 0)=true ->
 Q (bN.2.1,bN.2.2)) /\
 ((bN.2.2 != 0)=false ->
 ∀ pX,cW l_ ah=pX ->
 ((decide (pX≥0))=true ->
 Q (pX,42)) /\
 ((decide (pX≥0))=false ->
 (qK l_ ah) /\
 ∀ ka,b9 l_ ah=ka ->
 sm ka ->
 ((decide ((ka.length:Int) > 0))=true ->
 ((0:Int)≤0/\0 < (ka.length:Int)) /\
 Q (gi ka 0,41)) /\
 ((decide ((ka.length:Int) > 0))=false ->
 Q ((ah.length:Int),0)))))
def VC20 (o_:aj) (l_:List ab) (ah:List aa) (Q:Bool->Prop):Prop :=
 sm o_.Rows ->
 ∀ (_:sm l_),
 sm ah ->
 (lq o_ l_ ah) /\
 ∀ ax,eV o_ l_ ah=ax ->
 Q (ax.2 == 0)
def VC66_J1 (Q:Int->Prop):Prop :=
 Q (-1)
def VC66 (ah:List aa) (i_:Int) (Q:Int->Prop):Prop :=
 sm ah ->
 ∃ (I1:Int->Prop) (μ1:Int->Nat),I1 0/\∀ (v102:Int),I1 v102 ->
 ((decide (v102 < (ah.length:Int)))=true ->
 ((0:Int)≤v102/\v102 < (ah.length:Int)) /\
 ((((gi ah v102).Oper) == i_)=true ->
 Q v102) /\
 ((((gi ah v102).Oper) == i_)=false ->
 I1 (IntKind.i64.wrap (v102+1))/\μ1 (IntKind.i64.wrap (v102+1)) < μ1 v102)) /\
 ((decide (v102 < (ah.length:Int)))=false ->
 VC66_J1 Q)
def VC68_J1 (Q:(Int × Int × Bool)->Prop):Prop :=
 Q (0,0,false)
def VC68_J2 (o_:aj) (Q:(Int × Int × Bool)->Prop) (I1:Int->Prop) (μ1:Int->Nat) (v101:Int) (v103:Bool):Prop :=
 (v103=true ->
 ((0:Int)≤v101/\v101 < (o_.Rows.length:Int)) /\
 ((0:Int)≤v101/\v101 < (o_.Rows.length:Int)) /\
 Q ((gi o_.Rows v101).Next,(gi o_.Rows v101).Result,true)) /\
 (v103=false ->
 I1 (IntKind.i64.wrap (v101+1))/\μ1 (IntKind.i64.wrap (v101+1)) < μ1 v101)
def VC68 (o_:aj) (state:Int) (kind:Int) (Q:Int × Int × Bool->Prop):Prop :=
 sm o_.Rows ->
 ∃ (I1:Int->Prop) (μ1:Int->Nat),I1 0/\∀ (v101:Int),I1 v101 ->
 ((decide (v101 < (o_.Rows.length:Int)))=true ->
 ((0:Int)≤v101/\v101 < (o_.Rows.length:Int)) /\
 ((((gi o_.Rows v101).State) == state)=true ->
 ((0:Int)≤v101/\v101 < (o_.Rows.length:Int)) /\
 VC68_J2 o_ Q I1 μ1 v101 (((gi o_.Rows v101).Kind) == kind)) /\
 ((((gi o_.Rows v101).State) == state)=false ->
 VC68_J2 o_ Q I1 μ1 v101 false)) /\
 ((decide (v101 < (o_.Rows.length:Int)))=false ->
 VC68_J1 Q)
def VC65 (o_:aj) (state:Int) (kind:Int) (result:Int) (Q:Int × Int->Prop):Prop :=
 sm o_.Rows ->
 (((decide (state < 0)) || (decide (state≥o_.au)))=true ->
 Q (0,30)) /\
 (((decide (state < 0)) || (decide (state≥o_.au)))=false ->
 ∀ ax,bA o_ state kind=ax ->
 (((!ax.2.2) || (ax.2.1 != result))=true ->
 Q (0,40)) /\
 (((!ax.2.2) || (ax.2.1 != result))=false ->
 Q (ax.1,0)))
def VC58_J1 (o_:aj) (Q:(Int × Int)->Prop):Prop :=
 Q ((o_.Rows.length:Int),0)
def VC58_J2 (Q:(Int × Int)->Prop) (I1:Int->Prop) (μ1:Int->Nat) (v102:Int) (v107:Bool):Prop :=
 (v107=true ->
 Q (v102,32)) /\
 (v107=false ->
 I1 (IntKind.i64.wrap (v102+1))/\μ1 (IntKind.i64.wrap (v102+1)) < μ1 v102)
def VC58 (o_:aj) (Q:Int × Int->Prop):Prop :=
 sm o_.Rows ->
 (((((((decide (o_.au < 1)) || (decide (o_.au > 32))) || (decide (o_.az < 1))) || (decide (o_.az > 64))) || (decide (o_.aH < 0))) || (decide (o_.aH≥o_.au)))=true ->
 Q ((-1),2)) /\
 (((((((decide (o_.au < 1)) || (decide (o_.au > 32))) || (decide (o_.az < 1))) || (decide (o_.az > 64))) || (decide (o_.aH < 0))) || (decide (o_.aH≥o_.au)))=false ->
 ∃ (I1:Int->Prop) (μ1:Int->Nat),I1 0/\∀ (v102:Int),I1 v102 ->
 ((decide (v102 < (o_.Rows.length:Int)))=true ->
 ((0:Int)≤v102/\v102 < (o_.Rows.length:Int)) /\
 (((((decide (((gi o_.Rows v102).State) < 0)) || (decide (((gi o_.Rows v102).State)≥o_.au))) || (decide (((gi o_.Rows v102).Next) < 0))) || (decide (((gi o_.Rows v102).Next)≥o_.au)))=true ->
 Q (v102,30)) /\
 (((((decide (((gi o_.Rows v102).State) < 0)) || (decide (((gi o_.Rows v102).State)≥o_.au))) || (decide (((gi o_.Rows v102).Next) < 0))) || (decide (((gi o_.Rows v102).Next)≥o_.au)))=false ->
 (((decide (((gi o_.Rows v102).Kind) < 0)) || (decide (((gi o_.Rows v102).Kind)≥o_.az)))=true ->
 Q (v102,31)) /\
 (((decide (((gi o_.Rows v102).Kind) < 0)) || (decide (((gi o_.Rows v102).Kind)≥o_.az)))=false ->
 (((decide (((gi o_.Rows v102).Result) < 0)) || (decide (((gi o_.Rows v102).Result) > 1000000)))=true ->
 Q (v102,7)) /\
 (((decide (((gi o_.Rows v102).Result) < 0)) || (decide (((gi o_.Rows v102).Result) > 1000000)))=false ->
 ((decide (v102 > 0))=true ->
 ((0:Int)≤(IntKind.i64.wrap (v102 - 1))/\(IntKind.i64.wrap (v102 - 1)) < (o_.Rows.length:Int)) /\
 ((decide (((gi o_.Rows (IntKind.i64.wrap (v102 - 1))).State) > ((gi o_.Rows v102).State)))=true ->
 VC58_J2 Q I1 μ1 v102 true) /\
 ((decide (((gi o_.Rows (IntKind.i64.wrap (v102 - 1))).State) > ((gi o_.Rows v102).State)))=false ->
 ((0:Int)≤(IntKind.i64.wrap (v102 - 1))/\(IntKind.i64.wrap (v102 - 1)) < (o_.Rows.length:Int)) /\
 ((((gi o_.Rows (IntKind.i64.wrap (v102 - 1))).State) == ((gi o_.Rows v102).State))=true ->
 ((0:Int)≤(IntKind.i64.wrap (v102 - 1))/\(IntKind.i64.wrap (v102 - 1)) < (o_.Rows.length:Int)) /\
 VC58_J2 Q I1 μ1 v102 (decide (((gi o_.Rows (IntKind.i64.wrap (v102 - 1))).Kind)≥((gi o_.Rows v102).Kind)))) /\
 ((((gi o_.Rows (IntKind.i64.wrap (v102 - 1))).State) == ((gi o_.Rows v102).State))=false ->
 VC58_J2 Q I1 μ1 v102 false))) /\
 ((decide (v102 > 0))=false ->
 VC58_J2 Q I1 μ1 v102 false))))) /\
 ((decide (v102 < (o_.Rows.length:Int)))=false ->
 VC58_J1 o_ Q))
def VC36_J1 (ah:List aa) (Q:(Int × Int × Int)->Prop) (v105:Int):Prop :=
 Q (v105,(ah.length:Int),0)
def VC36_J3 (Q:(Int × Int × Int)->Prop) (I1:Int->Int->Prop) (μ1:Int->Int->Nat) (v108:Int) (v110:Int) (bO:Int × Int) (v131:Bool):Prop :=
 (v131=true ->
 Q (0,v110,40)) /\
 (v131=false ->
 I1 bO.1 (IntKind.i64.wrap (v110+1))/\μ1 bO.1 (IntKind.i64.wrap (v110+1)) < μ1 v108 v110)
def VC36_J2 (o_:aj) (l_:List ab) (ah:List aa) (Q:(Int × Int × Int)->Prop) (I1:Int->Int->Prop) (μ1:Int->Int->Nat) (v108:Int) (v110:Int):Prop :=
 ((0:Int)≤((gi ah v110).Oper)/\((gi ah v110).Oper) < (l_.length:Int)) /\
 ∀ bO,dc o_ v108 ((gi l_ ((gi ah v110).Oper)).Kind) ((gi ah v110).Result)=bO ->
 ((bO.2 != 0)=true ->
 Q (0,v110,bO.2)) /\
 ((bO.2 != 0)=false ->
 ((0:Int)≤((gi ah v110).Oper)/\((gi ah v110).Oper) < (l_.length:Int)) /\
 ((((gi l_ ((gi ah v110).Oper)).End) != (-1))=true ->
 ((0:Int)≤((gi ah v110).Oper)/\((gi ah v110).Oper) < (l_.length:Int)) /\
 VC36_J3 Q I1 μ1 v108 v110 bO (((gi l_ ((gi ah v110).Oper)).Result) != ((gi ah v110).Result))) /\
 ((((gi l_ ((gi ah v110).Oper)).End) != (-1))=false ->
 VC36_J3 Q I1 μ1 v108 v110 bO false))
def VC36 (o_:aj) (l_:List ab) (state:Int) (ah:List aa) (Q:Int × Int × Int->Prop):Prop :=
 sm o_.Rows ->
 ∀ (_:sm l_),
 sm ah ->
 ∀ ax,cX o_=ax ->
 ((ax.2 != 0)=true ->
 Q (0,(-1),2)) /\
 ((ax.2 != 0)=false ->
 (((decide (state < 0)) || (decide (state≥o_.au)))=true ->
 Q (0,(-1),30)) /\
 (((decide (state < 0)) || (decide (state≥o_.au)))=false ->
 ∃ (I1:Int->Int->Prop) (μ1:Int->Int->Nat),I1 state 0/\∀ (v108:Int) (v110:Int),I1 v108 v110 ->
 ((decide (v110 < (ah.length:Int)))=true ->
 ((0:Int)≤v110/\v110 < (ah.length:Int)) /\
 (((decide (((gi ah v110).Oper) < 0)) || (decide (((gi ah v110).Oper)≥(l_.length:Int))))=true ->
 Q (0,v110,2)) /\
 (((decide (((gi ah v110).Oper) < 0)) || (decide (((gi ah v110).Oper)≥(l_.length:Int))))=false ->
 ∃ (I2:Int->Prop) (μ2:Int->Nat),I2 0/\∀ (v149:Int),I2 v149 ->
 ((decide (v149 < v110))=true ->
 ((0:Int)≤v149/\v149 < (ah.length:Int)) /\
 ((((gi ah v149).Oper) == ((gi ah v110).Oper))=true ->
 Q (0,v110,21)) /\
 ((((gi ah v149).Oper) == ((gi ah v110).Oper))=false ->
 I2 (IntKind.i64.wrap (v149+1))/\μ2 (IntKind.i64.wrap (v149+1)) < μ2 v149)) /\
 ((decide (v149 < v110))=false ->
 VC36_J2 o_ l_ ah Q I1 μ1 v108 v110))) /\
 ((decide (v110 < (ah.length:Int)))=false ->
 VC36_J1 ah Q v108)))
def VC67 (a_:ab) (b_:ab) (Q:Bool->Prop):Prop :=
 Q ((decide (a_.End≥0)) && (decide (b_.aI > a_.End)))
def VC37_J1 (Q:Int->Prop):Prop :=
 Q (-1)
def VC37_J2 (I1:Int->Prop) (μ1:Int->Nat) (v103:Int):Prop :=
 I1 (IntKind.i64.wrap (v103+1))/\μ1 (IntKind.i64.wrap (v103+1)) < μ1 v103
def VC37_J3 (Q:Int->Prop) (v103:Int) (I2:Int->Prop) (μ2:Int->Nat) (v113:Int) (v120:Bool):Prop :=
 (v120=true ->
 Q v103) /\
 (v120=false ->
 I2 (IntKind.i64.wrap (v113+1))/\μ2 (IntKind.i64.wrap (v113+1)) < μ2 v113)
def VC37 (l_:List ab) (ah:List aa) (Q:Int->Prop):Prop :=
 sm l_ ->
 ∀ (_:sm ah),
 ∃ (I1:Int->Prop) (μ1:Int->Nat),I1 0/\∀ (v103:Int),I1 v103 ->
 ((decide (v103 < (ah.length:Int)))=true ->
 ((0:Int)≤v103/\v103 < (ah.length:Int)) /\
 ∃ (I2:Int->Prop) (μ2:Int->Nat),I2 0/\∀ (v113:Int),I2 v113 ->
 ((((decide (v113 < (l_.length:Int))) && (decide (((gi ah v103).Oper)≥0))) && (decide (((gi ah v103).Oper) < (l_.length:Int))))=true ->
 ∀ eN,cn ah v113=eN ->
 ((0:Int)≤v113/\v113 < (l_.length:Int)) /\
 ((0:Int)≤((gi ah v103).Oper)/\((gi ah v103).Oper) < (l_.length:Int)) /\
 ∀ gI,jr (gi l_ v113) (gi l_ ((gi ah v103).Oper))=gI ->
 (gI=true ->
 VC37_J3 Q v103 I2 μ2 v113 ((decide (eN < 0)) || (decide (eN≥v103)))) /\
 (gI=false ->
 VC37_J3 Q v103 I2 μ2 v113 false)) /\
 ((((decide (v113 < (l_.length:Int))) && (decide (((gi ah v103).Oper)≥0))) && (decide (((gi ah v103).Oper) < (l_.length:Int))))=false ->
 VC37_J2 I1 μ1 v103)) /\
 ((decide (v103 < (ah.length:Int)))=false ->
 VC37_J1 Q)
def VC38_J1 (Q:((List Int))->Prop) (v101:List Int):Prop :=
 Q v101
def VC38_J2 (I1:(List Int)->Int->Prop) (μ1:(List Int)->Int->Nat) (v109:List Int) (v113:Int) (v116:List Int):Prop :=
 I1 v116 (IntKind.i64.wrap (v113+1))/\μ1 v116 (IntKind.i64.wrap (v113+1)) < μ1 v109 v113
def VC38_J3 (I1:(List Int)->Int->Prop) (μ1:(List Int)->Int->Nat) (v109:List Int) (v113:Int) (v122:List Int) (v126:Bool):Prop :=
 (v126=true ->
 (v122.length+[v113].length≤1099511627776) /\
 VC38_J2 I1 μ1 v109 v113 (v122++[v113])) /\
 (v126=false ->
 VC38_J2 I1 μ1 v109 v113 v122)
def VC38 (l_:List ab) (ah:List aa) (pending:Bool) (Q:(List Int)->Prop):Prop :=
 sm l_ ->
 ∀ (_:sm ah),
 ∃ (I1:(List Int)->Int->Prop) (μ1:(List Int)->Int->Nat),I1 [] 0/\∀ (v109:List Int) (v113:Int),I1 v109 v113 ->
 ((decide (v113 < (l_.length:Int)))=true ->
 ∀ xi,cn ah v113=xi ->
 ((decide (xi < 0))=true ->
 ((0:Int)≤v113/\v113 < (l_.length:Int)) /\
 VC38_J3 I1 μ1 v109 v113 v109 ((((gi l_ v113).End) == (-1)) == pending)) /\
 ((decide (xi < 0))=false ->
 VC38_J3 I1 μ1 v109 v113 v109 false)) /\
 ((decide (v113 < (l_.length:Int)))=false ->
 VC38_J1 Q v109)
def VC39_J1 (Q:((List (List Int)))->Prop) (v109:List (List Int)):Prop :=
 Q v109
def VC39_J2 (I1:(List (List Int))->(List (List Int))->Prop) (μ1:(List (List Int))->(List (List Int))->Nat) (v115:List (List Int)) (v119:List (List Int)) (v123:List (List Int)) (v127:List (List Int)):Prop :=
 (v123.length+v127.length≤1099511627776) /\
 I1 (v123++v127) v127/\μ1 (v123++v127) v127 < μ1 v115 v119
def VC39_J3 (I2:(List (List Int))->(List (List Int))->Int->Prop) (μ2:(List (List Int))->(List (List Int))->Int->Nat) (v138:List (List Int)) (v143:List (List Int)) (v147:Int) (v148:List (List Int)) (v153:List (List Int)):Prop :=
 I2 v148 v153 (IntKind.i64.wrap (v147+1))/\μ2 v148 v153 (IntKind.i64.wrap (v147+1)) < μ2 v138 v143 v147
def VC39_J4 (I3:(List (List Int))->(List (List Int))->Int->Prop) (μ3:(List (List Int))->(List (List Int))->Int->Nat) (v157:List (List Int)) (v162:List (List Int)) (v166:Int) (v167:List (List Int)) (v172:List (List Int)):Prop :=
 I3 v167 v172 (IntKind.i64.wrap (v166+1))/\μ3 v167 v172 (IntKind.i64.wrap (v166+1)) < μ3 v157 v162 v166
def VC39_J5 (v119:List (List Int)) (v147:Int) (I3:(List (List Int))->(List (List Int))->Int->Prop) (μ3:(List (List Int))->(List (List Int))->Int->Nat) (v157:List (List Int)) (v162:List (List Int)) (v166:Int) (v176:List (List Int)) (v181:List (List Int)) (v185:Bool):Prop :=
 ((!v185)=true ->
 ((0:Int)≤v147/\v147 < (v119.length:Int)) /\
 ∀ (_:sm (gi v119 v147)),
 (([]:List Int).length+(gi v119 v147).length≤1099511627776) /\
 ((([]:List Int)++(gi v119 v147)).length+[v166].length≤1099511627776) /\
 (v181.length+[(([]:List Int)++(gi v119 v147))++[v166]].length≤1099511627776) /\
 VC39_J4 I3 μ3 v157 v162 v166 v176 (v181++[(([]:List Int)++(gi v119 v147))++[v166]])) /\
 ((!v185)=false ->
 VC39_J4 I3 μ3 v157 v162 v166 v176 v181)
def VC39_J6 (I4:(List (List Int))->(List (List Int))->Bool->Int->Prop) (μ4:(List (List Int))->(List (List Int))->Bool->Int->Nat) (v221:List (List Int)) (v226:List (List Int)) (v230:Bool) (v231:Int) (v238:List (List Int)) (v243:List (List Int)) (v247:Bool):Prop :=
 I4 v238 v243 v247 (IntKind.i64.wrap (v231+1))/\μ4 v238 v243 v247 (IntKind.i64.wrap (v231+1)) < μ4 v221 v226 v230 v231
def VC39 (n_:Int) (Q:(List (List Int))->Prop):Prop :=
 ∃ (I1:(List (List Int))->(List (List Int))->Prop) (μ1:(List (List Int))->(List (List Int))->Nat),I1 ([[]]:List (List Int)) ([[]]:List (List Int))/\∀ (v115:List (List Int)) (v119:List (List Int)),I1 v115 v119 ->
 ((decide ((v119.length:Int) > 0))=true ->
 ∃ (I2:(List (List Int))->(List (List Int))->Int->Prop) (μ2:(List (List Int))->(List (List Int))->Int->Nat),I2 v115 [] 0/\∀ (v138:List (List Int)) (v143:List (List Int)) (v147:Int),I2 v138 v143 v147 ->
 ((decide (v147 < (v119.length:Int)))=true ->
 ∃ (I3:(List (List Int))->(List (List Int))->Int->Prop) (μ3:(List (List Int))->(List (List Int))->Int->Nat),I3 v138 v143 0/\∀ (v157:List (List Int)) (v162:List (List Int)) (v166:Int),I3 v157 v162 v166 ->
 ((decide (v166 < n_))=true ->
 ∃ (I4:(List (List Int))->(List (List Int))->Bool->Int->Prop) (μ4:(List (List Int))->(List (List Int))->Bool->Int->Nat),I4 v157 v162 false 0/\∀ (v221:List (List Int)) (v226:List (List Int)) (v230:Bool) (v231:Int),I4 v221 v226 v230 v231 ->
 ((0:Int)≤v147/\v147 < (v119.length:Int)) /\
 ∀ (_:sm (gi v119 v147)),
 ((decide (v231 < ((gi v119 v147).length:Int)))=true ->
 (v230=true ->
 VC39_J6 I4 μ4 v221 v226 v230 v231 v221 v226 true) /\
 (v230=false ->
 ((0:Int)≤v147/\v147 < (v119.length:Int)) /\
 ∀ (_:sm (gi v119 v147)),
 ((0:Int)≤v231/\v231 < ((gi v119 v147).length:Int)) /\
 VC39_J6 I4 μ4 v221 v226 v230 v231 v221 v226 ((gi (gi v119 v147) v231) == v166))) /\
 ((decide (v231 < ((gi v119 v147).length:Int)))=false ->
 VC39_J5 v119 v147 I3 μ3 v157 v162 v166 v221 v226 v230)) /\
 ((decide (v166 < n_))=false ->
 VC39_J3 I2 μ2 v138 v143 v147 v157 v162)) /\
 ((decide (v147 < (v119.length:Int)))=false ->
 VC39_J2 I1 μ1 v115 v119 v138 v143)) /\
 ((decide ((v119.length:Int) > 0))=false ->
 VC39_J1 Q v115)
def VC114 (i_:Int) (ao:List Bool) (Q:Bool->Prop):Prop :=
 sm ao ->
 ((decide (i_ < (ao.length:Int)))=true ->
 ((0:Int)≤i_/\i_ < (ao.length:Int)) /\
 Q (gi ao i_)) /\
 ((decide (i_ < (ao.length:Int)))=false ->
 Q false)
def VC112_J1 (Q:((List Int))->Prop) (v101:List Int):Prop :=
 Q v101
def VC112_J2 (I1:(List Int)->Int->Prop) (μ1:(List Int)->Int->Nat) (v108:List Int) (v113:Int) (v116:List Int):Prop :=
 I1 v116 (IntKind.i64.wrap (v113+1))/\μ1 v116 (IntKind.i64.wrap (v113+1)) < μ1 v108 v113
def VC112_J3 (I1:(List Int)->Int->Prop) (μ1:(List Int)->Int->Nat) (v108:List Int) (v113:Int) (v131:List Int) (v135:Bool):Prop :=
 (v135=true ->
 (v131.length+[v113].length≤1099511627776) /\
 VC112_J2 I1 μ1 v108 v113 (v131++[v113])) /\
 (v135=false ->
 VC112_J2 I1 μ1 v108 v113 v131)
def VC112_J4 (I2:(List Int)->Bool->Int->Prop) (μ2:(List Int)->Bool->Int->Nat) (v148:List Int) (v152:Bool) (v155:Int) (v158:List Int) (v162:Bool):Prop :=
 I2 v158 v162 (IntKind.i64.wrap (v155+1))/\μ2 v158 v162 (IntKind.i64.wrap (v155+1)) < μ2 v148 v152 v155
def VC112 (l_:List ab) (done:List Bool) (Q:(List Int)->Prop):Prop :=
 sm l_ ->
 ∀ (_:sm done),
 ∃ (I1:(List Int)->Int->Prop) (μ1:(List Int)->Int->Nat),I1 [] 0/\∀ (v108:List Int) (v113:Int),I1 v108 v113 ->
 ((decide (v113 < (l_.length:Int)))=true ->
 ((0:Int)≤v113/\v113 < (l_.length:Int)) /\
 (vj v113 done) /\
 ∀ bO,fh v113 done=bO ->
 ∃ (I2:(List Int)->Bool->Int->Prop) (μ2:(List Int)->Bool->Int->Nat),I2 v108 (!bO) 0/\∀ (v148:List Int) (v152:Bool) (v155:Int),I2 v148 v152 v155 ->
 ((decide (v155 < (l_.length:Int)))=true ->
 ((0:Int)≤v155/\v155 < (l_.length:Int)) /\
 (v152=true ->
 (vj v155 done) /\
 ∀ xg,fh v155 done=xg ->
 (xg=true ->
 VC112_J4 I2 μ2 v148 v152 v155 v148 true) /\
 (xg=false ->
 ∀ zX,bl (gi l_ v155) (gi l_ v113)=zX ->
 VC112_J4 I2 μ2 v148 v152 v155 v148 (!zX))) /\
 (v152=false ->
 VC112_J4 I2 μ2 v148 v152 v155 v148 false)) /\
 ((decide (v155 < (l_.length:Int)))=false ->
 VC112_J3 I1 μ1 v108 v113 v148 v152)) /\
 ((decide (v113 < (l_.length:Int)))=false ->
 VC112_J1 Q v108)
def VC105_J1 (Q:((List aa))->Prop) (v105:List aa):Prop :=
 Q v105
def VC105_J2 (I1:(List aa)->Int->Prop) (μ1:(List aa)->Int->Nat) (v117:List aa) (v122:Int) (v125:List aa):Prop :=
 I1 v125 (IntKind.i64.wrap (v122+1))/\μ1 v125 (IntKind.i64.wrap (v122+1)) < μ1 v117 v122
def VC105_J3 (bN:(List Int)) (I1:(List aa)->Int->Prop) (μ1:(List aa)->Int->Nat) (v117:List aa) (v122:Int) (gH:Int × Int × Bool) (v146:List aa) (v151:Bool):Prop :=
 (v151=true ->
 (v146.length+[(⟨gi bN v122,gH.2.1⟩:aa)].length≤1099511627776) /\
 VC105_J2 I1 μ1 v117 v122 (v146++[(⟨gi bN v122,gH.2.1⟩:aa)])) /\
 (v151=false ->
 VC105_J2 I1 μ1 v117 v122 v146)
def VC105 (o_:aj) (l_:List ab) (state:Int) (done:List Bool) (Q:(List aa)->Prop):Prop :=
 sm o_.Rows ->
 ∀ (_:sm l_),
 sm done ->
 (kL o_) /\
 ∀ ax,bB o_=ax ->
 ((ax.2 != 0)=true ->
 Q []) /\
 ((ax.2 != 0)=false ->
 (yC l_ done) /\
 ∀ bN,fc l_ done=bN ->
 sm bN ->
 ∃ (I1:(List aa)->Int->Prop) (μ1:(List aa)->Int->Nat),I1 [] 0/\∀ (v117:List aa) (v122:Int),I1 v117 v122 ->
 ((decide (v122 < (bN.length:Int)))=true ->
 ((0:Int)≤v122/\v122 < (bN.length:Int)) /\
 ((0:Int)≤(gi bN v122)/\(gi bN v122) < (l_.length:Int)) /\
 ∀ gH,cw o_ state ((gi l_ (gi bN v122)).Kind)=gH ->
 (gH.2.2=true ->
 ((0:Int)≤(gi bN v122)/\(gi bN v122) < (l_.length:Int)) /\
 ((((gi l_ (gi bN v122)).End) == (-1))=true ->
 VC105_J3 bN I1 μ1 v117 v122 gH v117 true) /\
 ((((gi l_ (gi bN v122)).End) == (-1))=false ->
 ((0:Int)≤(gi bN v122)/\(gi bN v122) < (l_.length:Int)) /\
 VC105_J3 bN I1 μ1 v117 v122 gH v117 (((gi l_ (gi bN v122)).Result) == gH.2.1))) /\
 (gH.2.2=false ->
 VC105_J3 bN I1 μ1 v117 v122 gH v117 false)) /\
 ((decide (v122 < (bN.length:Int)))=false ->
 VC105_J1 Q v117))
def VC88 (o_:aj) (l_:List ab) (jT:Int) (Q:Int->Prop):Prop :=
 sm o_.Rows ->
 ∀ (_:sm l_),
 (kL o_) /\
 ∀ ax,bB o_=ax ->
 ∀ ba,c7 l_=ba ->
 (((ax.2 != 0) || (ba.2 != 0))=true ->
 Q 2) /\
 (((ax.2 != 0) || (ba.2 != 0))=false ->
 ((decide ((l_.length:Int) > jT))=true ->
 Q 3) /\
 ((decide ((l_.length:Int) > jT))=false ->
 Q 0))
def VC104 (s_:List aa) (Q:(List aa)->Prop):Prop :=
 sm s_ ->
 ∀ (b101:Bool),(b101=true->s_=[]) ->
 (b101=true ->
 Q []) /\
 (b101=false ->
 (([]:List aa).length+s_.length≤1099511627776) /\
 Q (([]:List aa)++s_))
def VC101_J1 (Q:b8->Prop) (v101:Int) (v102:Int):Prop :=
 Q (⟨v101,v102⟩:b8)
def VC101_J2 (I1:Int->Int->Int->Prop) (μ1:Int->Int->Int->Nat) (v110:Int) (v111:Int) (v112:Int) (v118:Int):Prop :=
 I1 (IntKind.i64.wrap (v110+1)) v118 v112/\μ1 (IntKind.i64.wrap (v110+1)) v118 v112 < μ1 v110 v111 v112
def VC101 (state:Int) (ao:a8) (Q:b8->Prop):Prop :=
 sm ao.o.Rows ->
 ∀ (_:sm ao.l),
 sm ao.done ->
 ∃ (I1:Int->Int->Int->Prop) (μ1:Int->Int->Int->Nat),I1 0 0 state/\∀ (v110:Int) (v111:Int) (v112:Int),I1 v110 v111 v112 ->
 ((decide (v110 < (ao.done.length:Int)))=true ->
 ((0:Int)≤v110/\v110 < (ao.done.length:Int)) /\
 ((gi ao.done v110)=true ->
 ((0:Int)≤v110) /\
 VC101_J2 I1 μ1 v110 v111 v112 (IntKind.u32.wrap ((BitVec.ofInt IntKind.u32.bits v111 ||| BitVec.ofInt IntKind.u32.bits (IntKind.u32.wrap (1 * 2 ^ (min v110.toNat IntKind.u32.bits)))).toNat:Int))) /\
 ((gi ao.done v110)=false ->
 VC101_J2 I1 μ1 v110 v111 v112 v111)) /\
 ((decide (v110 < (ao.done.length:Int)))=false ->
 VC101_J1 Q v111 v112)
def VC100_J1 (Q:Bool->Prop):Prop :=
 Q true
def VC100_J2 (Q:Bool->Prop) (I1:Int->Prop) (μ1:Int->Nat) (v106:Int) (v115:Bool):Prop :=
 (v115=true ->
 Q false) /\
 (v115=false ->
 I1 (IntKind.i64.wrap (v106+1))/\μ1 (IntKind.i64.wrap (v106+1)) < μ1 v106)
def VC100 (ao:a8) (Q:Bool->Prop):Prop :=
 sm ao.o.Rows ->
 ∀ (_:sm ao.l),
 sm ao.done ->
 ∃ (I1:Int->Prop) (μ1:Int->Nat),I1 0/\∀ (v106:Int),I1 v106 ->
 ((decide (v106 < (ao.l.length:Int)))=true ->
 ((0:Int)≤v106/\v106 < (ao.l.length:Int)) /\
 ((((gi ao.l v106).End) != (-1))=true ->
 ((0:Int)≤v106/\v106 < (ao.done.length:Int)) /\
 VC100_J2 Q I1 μ1 v106 (!(gi ao.done v106))) /\
 ((((gi ao.l v106).End) != (-1))=false ->
 VC100_J2 Q I1 μ1 v106 false)) /\
 ((decide (v106 < (ao.l.length:Int)))=false ->
 VC100_J1 Q)
def VC102 (N:Nat) (p_:aa) (ay:a8) (aO:Int) (bF:List aa) (Q:(List aa) × Bool × a8->Prop):Prop :=
 sm ay.o.Rows ->
 ∀ (_:sm ay.l),
 sm ay.done ->
 ∀ (_:sm bF),
 ((0:Int)≤p_.Oper/\p_.Oper < (ay.l.length:Int)) /\
 ∀ df,cw ay.o aO ((gi ay.l p_.Oper).Kind)=df ->
 ((0:Int)≤p_.Oper/\p_.Oper < (ay.done.length:Int)) /\
 (yD bF) /\
 ∀ mV,b7 bF=mV ->
 sm mV ->
 (mV.length+[p_].length≤1099511627776) /\
 (sx df.1 (mV++[p_]) (⟨ay.o,ay.l,(ay.done.set p_.Oper.toNat true),ay.failed⟩:a8)/\o3 df.1 (mV++[p_]) (⟨ay.o,ay.l,(ay.done.set p_.Oper.toNat true),ay.failed⟩:a8) < N) /\
 ∀ cJ,aK df.1 (mV++[p_]) (⟨ay.o,ay.l,(ay.done.set p_.Oper.toNat true),ay.failed⟩:a8)=cJ ->
 sm cJ.1 ->
 ∀ (_:sm cJ.2.2.o.Rows),
 sm cJ.2.2.l ->
 ∀ (_:sm cJ.2.2.done),
 ((0:Int)≤p_.Oper/\p_.Oper < (cJ.2.2.done.length:Int)) /\
 Q (cJ.1,cJ.2.1,(⟨cJ.2.2.o,cJ.2.2.l,(cJ.2.2.done.set p_.Oper.toNat false),cJ.2.2.failed⟩:a8))
def VC90_J2 (N:Nat) (Q:((List aa) × Bool × a8)->Prop) (v120:Int) (v121:Int) (v122:Int) (v123:List bb) (v127:List ab) (v139:List Bool) (v143:List (b8 × Int)):Prop :=
 Q ([],false,(⟨(⟨v120,v121,v122,v123⟩:aj),v127,v139,v143⟩:a8))
def VC90_J1 (N:Nat) (state:Int) (Q:((List aa) × Bool × a8)->Prop) (bN:b8) (v120:Int) (v121:Int) (v122:Int) (v123:List bb) (v127:List ab) (v131:List Bool) (v135:List (b8 × Int)):Prop :=
 ((!(bN.done == 0 && (bN.state == 0 && true)))=true ->
 VC90_J2 N Q v120 v121 v122 v123 v127 v131 (dv v135 bN (IntKind.i64.wrap (((aF v135 bN).getD 0)+1)))) /\
 ((!(bN.done == 0 && (bN.state == 0 && true)))=false ->
 VC90_J2 N Q v120 v121 v122 v123 v127 v131 v135)
def VC90 (N:Nat) (state:Int) (so:List aa) (ao:a8) (Q:(List aa) × Bool × a8->Prop):Prop :=
 sm so ->
 ∀ (_:sm ao.o.Rows),
 sm ao.l ->
 ∀ (_:sm ao.done),
 (yk ao) /\
 ∀ ax,dU ao=ax ->
 (ax=true ->
 Q (so,true,ao)) /\
 (ax=false ->
 ∀ bN,dI state ao=bN ->
 ((decide (((aF ao.failed bN).getD 0) > 0))=true ->
 Q ([],false,ao)) /\
 ((decide (((aF ao.failed bN).getD 0) > 0))=false ->
 (yx ao.o ao.l state ao.done) /\
 ∀ nB,bM ao.o ao.l state ao.done=nB ->
 sm nB ->
 ∃ (I1:(List aa)->Int->Int->Int->Int->(List bb)->(List ab)->(List Bool)->(List (b8 × Int))->Prop) (μ1:(List aa)->Int->Int->Int->Int->(List bb)->(List ab)->(List Bool)->(List (b8 × Int))->Nat),I1 nB 0 ao.o.au ao.o.az ao.o.aH ao.o.Rows ao.l ao.done ao.failed/\∀ (v196:List aa) (v200:Int) (v202:Int) (v203:Int) (v204:Int) (v205:List bb) (v209:List ab) (v213:List Bool) (v217:List (b8 × Int)),I1 v196 v200 v202 v203 v204 v205 v209 v213 v217 ->
 ((decide (v200 < (nB.length:Int)))=true ->
 ((0:Int)≤v200/\v200 < (v196.length:Int)) /\
 (yl (gi v196 v200) (⟨(⟨v202,v203,v204,v205⟩:aj),v209,v213,v217⟩:a8) state so/\B7 (gi v196 v200) (⟨(⟨v202,v203,v204,v205⟩:aj),v209,v213,v217⟩:a8) state so < N) /\
 ∀ eJ,bj (gi v196 v200) (⟨(⟨v202,v203,v204,v205⟩:aj),v209,v213,v217⟩:a8) state so=eJ ->
 sm eJ.1 ->
 ∀ (_:sm eJ.2.2.o.Rows),
 sm eJ.2.2.l ->
 ∀ (_:sm eJ.2.2.done),
 (eJ.2.1=true ->
 Q (eJ.1,true,eJ.2.2)) /\
 (eJ.2.1=false ->
 I1 v196 (IntKind.i64.wrap (v200+1)) eJ.2.2.o.au eJ.2.2.o.az eJ.2.2.o.aH eJ.2.2.o.Rows eJ.2.2.l eJ.2.2.done eJ.2.2.failed/\μ1 v196 (IntKind.i64.wrap (v200+1)) eJ.2.2.o.au eJ.2.2.o.az eJ.2.2.o.aH eJ.2.2.o.Rows eJ.2.2.l eJ.2.2.done eJ.2.2.failed < μ1 v196 v200 v202 v203 v204 v205 v209 v213 v217)) /\
 ((decide (v200 < (nB.length:Int)))=false ->
 VC90_J1 N state Q bN v202 v203 v204 v205 v209 v213 v217)))
def VC89 (o_:aj) (l_:List ab) (Q:a8->Prop):Prop :=
 sm o_.Rows ->
 ∀ (_:sm l_),
 ((0:Int)≤(l_.length:Int)/\(l_.length:Int)≤(l_.length:Int)/\(l_.length:Int)≤1099511627776) /\
 Q (⟨o_,l_,List.replicate (l_.length:Int).toNat (false:Bool),([]:List (b8 × Int))⟩:a8)
def VC70_J1 (Q:((List aa) × Int)->Prop) (v143:List aa) (v147:Bool):Prop :=
 (v147=true ->
 Q ([],41)) /\
 (v147=false ->
 Q (v143,0))
def VC70 (o_:aj) (l_:List ab) (Q:(List aa) × Int->Prop):Prop :=
 sm o_.Rows ->
 ∀ (_:sm l_),
 (yE o_ l_ 20) /\
 ∀ ax,cD o_ l_ 20=ax ->
 ((ax != 0)=true ->
 Q ([],ax)) /\
 ((ax != 0)=false ->
 (yG o_ l_) /\
 ∀ fu,bH o_ l_=fu ->
 sm fu.o.Rows ->
 ∀ (_:sm fu.l),
 sm fu.done ->
 (sx o_.aH [] fu) /\
 ∀ bO,aK o_.aH [] fu=bO ->
 sm bO.1 ->
 ∀ (_:sm bO.2.2.o.Rows),
 sm bO.2.2.l ->
 ∀ (_:sm bO.2.2.done),
 ((!bO.2.1)=true ->
 VC70_J1 Q bO.1 true) /\
 ((!bO.2.1)=false ->
 (lq o_ l_ bO.1) /\
 ∀ oV,dt o_ l_ bO.1=oV ->
 VC70_J1 Q bO.1 (!oV)))
def VC84 (x_:aw) (Q:Int->Prop):Prop :=
 (((x_.bo != 1) && (x_.bo != 2))=true ->
 Q 8) /\
 (((x_.bo != 1) && (x_.bo != 2))=false ->
 (((decide (x_.ak < 1)) || (decide (x_.ak > 1000)))=true ->
 Q 2) /\
 (((decide (x_.ak < 1)) || (decide (x_.ak > 1000)))=false ->
 (((x_.bo == 1) && ((decide (x_.N < 0)) || (decide (x_.N≥64))))=true ->
 Q 31) /\
 (((x_.bo == 1) && ((decide (x_.N < 0)) || (decide (x_.N≥64))))=false ->
 (((x_.bo == 2) && ((decide (x_.N < 0)) || (decide (x_.N > 1000000))))=true ->
 Q 7) /\
 (((x_.bo == 2) && ((decide (x_.N < 0)) || (decide (x_.N > 1000000))))=false ->
 Q 0))))
def VC55_J1 (l_:List aw) (Q:(Int × Int)->Prop):Prop :=
 Q ((l_.length:Int),0)
def VC55 (l_:List aw) (Q:Int × Int->Prop):Prop :=
 sm l_ ->
 ((decide ((l_.length:Int) > 10000))=true ->
 Q (0,3)) /\
 ((decide ((l_.length:Int) > 10000))=false ->
 ∃ (I1:(List (Int × Int))->Int->Prop) (μ1:(List (Int × Int))->Int->Nat),I1 ([]:List (Int × Int)) 0/\∀ (v107:List (Int × Int)) (v110:Int),I1 v107 v110 ->
 ((decide (v110 < (l_.length:Int)))=true ->
 ((0:Int)≤v110/\v110 < (l_.length:Int)) /\
 ∀ eN,gp (gi l_ v110)=eN ->
 ((eN != 0)=true ->
 Q (v110,eN)) /\
 ((eN != 0)=false ->
 (((((aF v107 ((gi l_ v110).ak)).getD 0) == 1) == (((gi l_ v110).bo) == 1))=true ->
 Q (v110,33)) /\
 (((((aF v107 ((gi l_ v110).ak)).getD 0) == 1) == (((gi l_ v110).bo) == 1))=false ->
 I1 (dv v107 ((gi l_ v110).ak) ((gi l_ v110).bo)) (IntKind.i64.wrap (v110+1))/\μ1 (dv v107 ((gi l_ v110).ak) ((gi l_ v110).bo)) (IntKind.i64.wrap (v110+1)) < μ1 v107 v110))) /\
 ((decide (v110 < (l_.length:Int)))=false ->
 VC55_J1 l_ Q))
def VC94_J1 (Q:Int->Prop) (v101:Int):Prop :=
 Q v101
def VC94_J2 (I1:Int->Int->Prop) (μ1:Int->Int->Nat) (v103:Int) (v104:Int) (v106:Int):Prop :=
 I1 v106 (IntKind.i64.wrap (v104+1))/\μ1 v106 (IntKind.i64.wrap (v104+1)) < μ1 v103 v104
def VC94 (l_:List aw) (process:Int) (Q:Int->Prop):Prop :=
 sm l_ ->
 ∃ (I1:Int->Int->Prop) (μ1:Int->Int->Nat),I1 (-1) 0/\∀ (v103:Int) (v104:Int),I1 v103 v104 ->
 ((decide (v104 < (l_.length:Int)))=true ->
 ((0:Int)≤v104/\v104 < (l_.length:Int)) /\
 ((((gi l_ v104).ak) == process)=true ->
 VC94_J2 I1 μ1 v103 v104 v104) /\
 ((((gi l_ v104).ak) == process)=false ->
 VC94_J2 I1 μ1 v103 v104 v103)) /\
 ((decide (v104 < (l_.length:Int)))=false ->
 VC94_J1 Q v103)
def VC79 (l_:List aw) (process:Int) (Q:Bool->Prop):Prop :=
 sm l_ ->
 ∀ ax,iv l_ process=ax ->
 ((decide (ax≥0))=true ->
 ((0:Int)≤ax/\ax < (l_.length:Int)) /\
 Q (((gi l_ ax).bo) == 1)) /\
 ((decide (ax≥0))=false ->
 Q false)
def VC50_J1 (l_:List aw) (Q:(Int × Int)->Prop):Prop :=
 Q ((l_.length:Int),0)
def VC50_J2 (Q:(Int × Int)->Prop) (I1:Int->Prop) (μ1:Int->Nat) (v103:Int) (v108:Bool):Prop :=
 (v108=true ->
 Q (v103,33)) /\
 (v108=false ->
 I1 (IntKind.i64.wrap (v103+1))/\μ1 (IntKind.i64.wrap (v103+1)) < μ1 v103)
def VC50 (l_:List aw) (Q:Int × Int->Prop):Prop :=
 sm l_ ->
 ((decide ((l_.length:Int) > 10000))=true ->
 Q (0,3)) /\
 ((decide ((l_.length:Int) > 10000))=false ->
 ∃ (I1:Int->Prop) (μ1:Int->Nat),I1 0/\∀ (v103:Int),I1 v103 ->
 ((decide (v103 < (l_.length:Int)))=true ->
 ((0:Int)≤v103/\v103 < (l_.length:Int)) /\
 (((((gi l_ v103).bo) != 1) && (((gi l_ v103).bo) != 2))=true ->
 Q (v103,8)) /\
 (((((gi l_ v103).bo) != 1) && (((gi l_ v103).bo) != 2))=false ->
 (((decide (((gi l_ v103).ak) < 1)) || (decide (((gi l_ v103).ak) > 1000)))=true ->
 Q (v103,2)) /\
 (((decide (((gi l_ v103).ak) < 1)) || (decide (((gi l_ v103).ak) > 1000)))=false ->
 (((((gi l_ v103).bo) == 1) && ((decide (((gi l_ v103).N) < 0)) || (decide (((gi l_ v103).N) > 63))))=true ->
 Q (v103,31)) /\
 (((((gi l_ v103).bo) == 1) && ((decide (((gi l_ v103).N) < 0)) || (decide (((gi l_ v103).N) > 63))))=false ->
 (((((gi l_ v103).bo) == 2) && ((decide (((gi l_ v103).N) < 0)) || (decide (((gi l_ v103).N) > 1000000))))=true ->
 Q (v103,7)) /\
 (((((gi l_ v103).bo) == 2) && ((decide (((gi l_ v103).N) < 0)) || (decide (((gi l_ v103).N) > 1000000))))=false ->
 ((((gi l_ v103).bo) == 1)=true ->
 ((0:Int)≤v103/\v103≤(l_.length:Int)) /\
 ∀ eN,fq (l_.take v103.toNat) ((gi l_ v103).ak)=eN ->
 (eN=true ->
 VC50_J2 Q I1 μ1 v103 true) /\
 (eN=false ->
 ((((gi l_ v103).bo) == 2)=true ->
 ((0:Int)≤v103/\v103≤(l_.length:Int)) /\
 ∀ dK,fq (l_.take v103.toNat) ((gi l_ v103).ak)=dK ->
 VC50_J2 Q I1 μ1 v103 (!dK)) /\
 ((((gi l_ v103).bo) == 2)=false ->
 VC50_J2 Q I1 μ1 v103 false))) /\
 ((((gi l_ v103).bo) == 1)=false ->
 ((((gi l_ v103).bo) == 2)=true ->
 ((0:Int)≤v103/\v103≤(l_.length:Int)) /\
 ∀ gg,fq (l_.take v103.toNat) ((gi l_ v103).ak)=gg ->
 VC50_J2 Q I1 μ1 v103 (!gg)) /\
 ((((gi l_ v103).bo) == 2)=false ->
 VC50_J2 Q I1 μ1 v103 false))))))) /\
 ((decide (v103 < (l_.length:Int)))=false ->
 VC50_J1 l_ Q))
def VC57_J1 (Q:Bool->Prop):Prop :=
 Q true
def VC57 (a_:List bb) (b_:List bb) (Q:Bool->Prop):Prop :=
 sm a_ ->
 ∀ (_:sm b_),
 (((a_.length:Int) != (b_.length:Int))=true ->
 Q false) /\
 (((a_.length:Int) != (b_.length:Int))=false ->
 ∃ (I1:Int->Prop) (μ1:Int->Nat),I1 0/\∀ (v103:Int),I1 v103 ->
 ((decide (v103 < (a_.length:Int)))=true ->
 ((0:Int)≤v103/\v103 < (a_.length:Int)) /\
 ((0:Int)≤v103/\v103 < (b_.length:Int)) /\
 ((!(((gi a_ v103).State) == ((gi b_ v103).State) && (((gi a_ v103).Kind) == ((gi b_ v103).Kind) && (((gi a_ v103).Next) == ((gi b_ v103).Next) && (((gi a_ v103).Result) == ((gi b_ v103).Result) && true)))))=true ->
 Q false) /\
 ((!(((gi a_ v103).State) == ((gi b_ v103).State) && (((gi a_ v103).Kind) == ((gi b_ v103).Kind) && (((gi a_ v103).Next) == ((gi b_ v103).Next) && (((gi a_ v103).Result) == ((gi b_ v103).Result) && true)))))=false ->
 I1 (IntKind.i64.wrap (v103+1))/\μ1 (IntKind.i64.wrap (v103+1)) < μ1 v103)) /\
 ((decide (v103 < (a_.length:Int)))=false ->
 VC57_J1 Q))
def VC26 (a_:aj) (b_:aj) (Q:Bool->Prop):Prop :=
 sm a_.Rows ->
 ∀ (_:sm b_.Rows),
 ((((a_.au == b_.au) && (a_.az == b_.az)) && (a_.aH == b_.aH))=true ->
 ∀ ax,eE a_.Rows b_.Rows=ax ->
 Q ax) /\
 ((((a_.au == b_.au) && (a_.az == b_.az)) && (a_.aH == b_.aH))=false ->
 Q false)
def VC56_J1 (Q:((List ab) × Int)->Prop) (v109:List ab):Prop :=
 Q (v109,0)
def VC56_J2 (I1:(List ab)->(List (Int × Int))->Int->Prop) (μ1:(List ab)->(List (Int × Int))->Int->Nat) (v115:List ab) (v119:List (Int × Int)) (v122:Int) (v123:List ab) (v127:List (Int × Int)):Prop :=
 I1 v123 v127 (IntKind.i64.wrap (v122+1))/\μ1 v123 v127 (IntKind.i64.wrap (v122+1)) < μ1 v115 v119 v122
def VC56 (l_:List aw) (Q:(List ab) × Int->Prop):Prop :=
 sm l_ ->
 ∀ ax,bV l_=ax ->
 ((ax.2 != 0)=true ->
 Q ([],ax.2)) /\
 ((ax.2 != 0)=false ->
 ∃ (I1:(List ab)->(List (Int × Int))->Int->Prop) (μ1:(List ab)->(List (Int × Int))->Int->Nat),I1 [] ([]:List (Int × Int)) 0/\∀ (v115:List ab) (v119:List (Int × Int)) (v122:Int),I1 v115 v119 v122 ->
 ((decide (v122 < (l_.length:Int)))=true ->
 ((0:Int)≤v122/\v122 < (l_.length:Int)) /\
 ((((gi l_ v122).bo) == 1)=true ->
 (v115.length+[(⟨(gi l_ v122).ak,(gi l_ v122).N,v122,(-1),(-1)⟩:ab)].length≤1099511627776) /\
 VC56_J2 I1 μ1 v115 v119 v122 (v115++[(⟨(gi l_ v122).ak,(gi l_ v122).N,v122,(-1),(-1)⟩:ab)]) (dv v119 ((gi l_ v122).ak) (v115.length:Int))) /\
 ((((gi l_ v122).bo) == 1)=false ->
 ((0:Int)≤((aF v119 ((gi l_ v122).ak)).getD 0)/\((aF v119 ((gi l_ v122).ak)).getD 0) < (v115.length:Int)) /\
 VC56_J2 I1 μ1 v115 v119 v122 ((v115.set ((aF v119 ((gi l_ v122).ak)).getD 0).toNat (⟨(gi v115 ((aF v119 ((gi l_ v122).ak)).getD 0)).ak,(gi v115 ((aF v119 ((gi l_ v122).ak)).getD 0)).Kind,(gi v115 ((aF v119 ((gi l_ v122).ak)).getD 0)).aI,v122,(gi v115 ((aF v119 ((gi l_ v122).ak)).getD 0)).Result⟩:ab)).set ((aF v119 ((gi l_ v122).ak)).getD 0).toNat (⟨(gi (v115.set ((aF v119 ((gi l_ v122).ak)).getD 0).toNat (⟨(gi v115 ((aF v119 ((gi l_ v122).ak)).getD 0)).ak,(gi v115 ((aF v119 ((gi l_ v122).ak)).getD 0)).Kind,(gi v115 ((aF v119 ((gi l_ v122).ak)).getD 0)).aI,v122,(gi v115 ((aF v119 ((gi l_ v122).ak)).getD 0)).Result⟩:ab)) ((aF v119 ((gi l_ v122).ak)).getD 0)).ak,(gi (v115.set ((aF v119 ((gi l_ v122).ak)).getD 0).toNat (⟨(gi v115 ((aF v119 ((gi l_ v122).ak)).getD 0)).ak,(gi v115 ((aF v119 ((gi l_ v122).ak)).getD 0)).Kind,(gi v115 ((aF v119 ((gi l_ v122).ak)).getD 0)).aI,v122,(gi v115 ((aF v119 ((gi l_ v122).ak)).getD 0)).Result⟩:ab)) ((aF v119 ((gi l_ v122).ak)).getD 0)).Kind,(gi (v115.set ((aF v119 ((gi l_ v122).ak)).getD 0).toNat (⟨(gi v115 ((aF v119 ((gi l_ v122).ak)).getD 0)).ak,(gi v115 ((aF v119 ((gi l_ v122).ak)).getD 0)).Kind,(gi v115 ((aF v119 ((gi l_ v122).ak)).getD 0)).aI,v122,(gi v115 ((aF v119 ((gi l_ v122).ak)).getD 0)).Result⟩:ab)) ((aF v119 ((gi l_ v122).ak)).getD 0)).aI,(gi (v115.set ((aF v119 ((gi l_ v122).ak)).getD 0).toNat (⟨(gi v115 ((aF v119 ((gi l_ v122).ak)).getD 0)).ak,(gi v115 ((aF v119 ((gi l_ v122).ak)).getD 0)).Kind,(gi v115 ((aF v119 ((gi l_ v122).ak)).getD 0)).aI,v122,(gi v115 ((aF v119 ((gi l_ v122).ak)).getD 0)).Result⟩:ab)) ((aF v119 ((gi l_ v122).ak)).getD 0)).End,(gi l_ v122).N⟩:ab)) v119)) /\
 ((decide (v122 < (l_.length:Int)))=false ->
 VC56_J1 Q v115))
def VC18_J1 (Q:((List ab) × Int)->Prop) (v105:List ab):Prop :=
 Q (v105,0)
def VC18_J2 (I1:(List ab)->Int->Prop) (μ1:(List ab)->Int->Nat) (v112:List ab) (v116:Int) (v118:List ab):Prop :=
 I1 v118 (IntKind.i64.wrap (v116+1))/\μ1 v118 (IntKind.i64.wrap (v116+1)) < μ1 v112 v116
def VC18_J3 (I1:(List ab)->Int->Prop) (μ1:(List ab)->Int->Nat) (v112:List ab) (v116:Int) (v145:List ab) (v149:Int) (v150:Int) (v151:Int) (v152:Int) (v153:Int):Prop :=
 (v145.length+[(⟨v149,v150,v151,v152,v153⟩:ab)].length≤1099511627776) /\
 VC18_J2 I1 μ1 v112 v116 (v145++[(⟨v149,v150,v151,v152,v153⟩:ab)])
def VC18_J4 (I2:(List ab)->Int->Int->Int->Int->Int->Int->Prop) (μ2:(List ab)->Int->Int->Int->Int->Int->Int->Nat) (v164:List ab) (v168:Int) (v169:Int) (v170:Int) (v171:Int) (v172:Int) (v173:Int) (v175:List ab) (v179:Int) (v180:Int):Prop :=
 I2 v175 (IntKind.i64.wrap (v168+1)) v169 v170 v171 v179 v180/\μ2 v175 (IntKind.i64.wrap (v168+1)) v169 v170 v171 v179 v180 < μ2 v164 v168 v169 v170 v171 v172 v173
def VC18 (l_:List aw) (Q:(List ab) × Int->Prop):Prop :=
 sm l_ ->
 ∀ ax,e6 l_=ax ->
 ((ax.2 != 0)=true ->
 Q ([],ax.2)) /\
 ((ax.2 != 0)=false ->
 ∃ (I1:(List ab)->Int->Prop) (μ1:(List ab)->Int->Nat),I1 [] 0/\∀ (v112:List ab) (v116:Int),I1 v112 v116 ->
 ((decide (v116 < (l_.length:Int)))=true ->
 ((0:Int)≤v116/\v116 < (l_.length:Int)) /\
 ((((gi l_ v116).bo) != 1)=true ->
 VC18_J2 I1 μ1 v112 v116 v112) /\
 ((((gi l_ v116).bo) != 1)=false ->
 ((0:Int)≤v116/\v116 < (l_.length:Int)) /\
 ((0:Int)≤v116/\v116 < (l_.length:Int)) /\
 ∃ (I2:(List ab)->Int->Int->Int->Int->Int->Int->Prop) (μ2:(List ab)->Int->Int->Int->Int->Int->Int->Nat),I2 v112 (IntKind.i64.wrap (v116+1)) ((gi l_ v116).ak) ((gi l_ v116).N) v116 (-1) (-1)/\∀ (v164:List ab) (v168:Int) (v169:Int) (v170:Int) (v171:Int) (v172:Int) (v173:Int),I2 v164 v168 v169 v170 v171 v172 v173 ->
 (((decide (v168 < (l_.length:Int))) && (decide (v172 < 0)))=true ->
 ((0:Int)≤v168/\v168 < (l_.length:Int)) /\
 ((0:Int)≤v116/\v116 < (l_.length:Int)) /\
 ((((gi l_ v168).ak) == ((gi l_ v116).ak))=true ->
 ((0:Int)≤v168/\v168 < (l_.length:Int)) /\
 VC18_J4 I2 μ2 v164 v168 v169 v170 v171 v172 v173 v164 v168 ((gi l_ v168).N)) /\
 ((((gi l_ v168).ak) == ((gi l_ v116).ak))=false ->
 VC18_J4 I2 μ2 v164 v168 v169 v170 v171 v172 v173 v164 v172 v173)) /\
 (((decide (v168 < (l_.length:Int))) && (decide (v172 < 0)))=false ->
 VC18_J3 I1 μ1 v112 v116 v164 v169 v170 v171 v172 v173))) /\
 ((decide (v116 < (l_.length:Int)))=false ->
 VC18_J1 Q v112))
def VC25_J1 (Q:Bool->Prop):Prop :=
 Q true
def VC25 (a_:List Int) (b_:List Int) (Q:Bool->Prop):Prop :=
 sm a_ ->
 ∀ (_:sm b_),
 (((a_.length:Int) != (b_.length:Int))=true ->
 Q false) /\
 (((a_.length:Int) != (b_.length:Int))=false ->
 ∃ (I1:Int->Prop) (μ1:Int->Nat),I1 0/\∀ (v103:Int),I1 v103 ->
 ((decide (v103 < (a_.length:Int)))=true ->
 ((0:Int)≤v103/\v103 < (a_.length:Int)) /\
 ((0:Int)≤v103/\v103 < (b_.length:Int)) /\
 (((gi a_ v103) != (gi b_ v103))=true ->
 Q false) /\
 (((gi a_ v103) != (gi b_ v103))=false ->
 I1 (IntKind.i64.wrap (v103+1))/\μ1 (IntKind.i64.wrap (v103+1)) < μ1 v103)) /\
 ((decide (v103 < (a_.length:Int)))=false ->
 VC25_J1 Q))
def VC92_J1 (Q:Int->Prop):Prop :=
 Q (-1)
def VC92 (s_:List Int) (v_:Int) (Q:Int->Prop):Prop :=
 sm s_ ->
 ∃ (I1:Int->Prop) (μ1:Int->Nat),I1 0/\∀ (v102:Int),I1 v102 ->
 ((decide (v102 < (s_.length:Int)))=true ->
 ((0:Int)≤v102/\v102 < (s_.length:Int)) /\
 ((v_ == (gi s_ v102))=true ->
 Q v102) /\
 ((v_ == (gi s_ v102))=false ->
 I1 (IntKind.i64.wrap (v102+1))/\μ1 (IntKind.i64.wrap (v102+1)) < μ1 v102)) /\
 ((decide (v102 < (s_.length:Int)))=false ->
 VC92_J1 Q)
def VC77 (s_:List Int) (v_:Int) (Q:Bool->Prop):Prop :=
 sm s_ ->
 ∀ ax,ew s_ v_=ax ->
 Q (decide (ax≥0))
def VC49 (s_:List bb) (Q:(List bb)->Prop):Prop :=
 sm s_ ->
 ∀ (b101:Bool),(b101=true->s_=[]) ->
 (b101=true ->
 Q []) /\
 (b101=false ->
 (([]:List bb).length+s_.length≤1099511627776) /\
 Q (([]:List bb)++s_))
def VC76 (p_:Int × Int) (n_:Int) (Q:Bool->Prop):Prop :=
 Q (((decide ((if p_.2 < p_.1 then p_.2 else p_.1)≥0)) && (decide ((if p_.2 > p_.1 then p_.2 else p_.1) < n_))) && (p_.1 != p_.2))
def VC75 (p_:Int × Int) (ao:Int) (ay:Int) (aO:List Int) (Q:Bool->Prop):Prop :=
 sm aO ->
 ∀ ax,ec (p_.1,p_.2) ao=ax ->
 ((ax && (p_.2 == ay))=true ->
 ∀ ba,cC aO p_.1=ba ->
 Q (!ba)) /\
 ((ax && (p_.2 == ay))=false ->
 Q false)
def VC93_75_J1 (Q:Int->Prop):Prop :=
 Q (-1)
def VC93_75 (s_:List (Int × Int)) (ao:Int) (ay:Int) (aO:List Int) (Q:Int->Prop):Prop :=
 sm s_ ->
 ∀ (_:sm aO),
 ∃ (I1:Int->Prop) (μ1:Int->Nat),I1 0/\∀ (v103:Int),I1 v103 ->
 ((decide (v103 < (s_.length:Int)))=true ->
 ((0:Int)≤v103/\v103 < (s_.length:Int)) /\
 ∀ df,cl (gi s_ v103) ao ay aO=df ->
 (df=true ->
 Q v103) /\
 (df=false ->
 I1 (IntKind.i64.wrap (v103+1))/\μ1 (IntKind.i64.wrap (v103+1)) < μ1 v103)) /\
 ((decide (v103 < (s_.length:Int)))=false ->
 VC93_75_J1 Q)
def VC78_75 (s_:List (Int × Int)) (ao:Int) (ay:Int) (aO:List Int) (Q:Bool->Prop):Prop :=
 sm s_ ->
 ∀ (_:sm aO),
 ∀ ax,br s_ ao ay aO=ax ->
 Q (decide (ax≥0))
def VC74 (x_:Int) (ao:Int) (ay:List Int) (aO:List (Int × Int)) (Q:Bool->Prop):Prop :=
 sm ay ->
 ∀ (_:sm aO),
 ∀ ax,cC ay x_=ax ->
 (ax=true ->
 Q true) /\
 (ax=false ->
 ∀ ba,bJ aO ao x_ ay=ba ->
 Q ba)
def VC44_J1 (Q:((List Int) × Bool)->Prop) (v105:List Int):Prop :=
 Q (v105,true)
def VC44_J2 (n_:Int) (Q:((List Int) × Bool)->Prop) (I1:(List Int)->Prop) (μ1:(List Int)->Nat) (v112:List Int) (v116:Int) (v118:List Int):Prop :=
 ((v116 == n_)=true ->
 Q ([],false)) /\
 ((v116 == n_)=false ->
 (v118.length+[v116].length≤1099511627776) /\
 I1 (v118++[v116])/\μ1 (v118++[v116]) < μ1 v112)
def VC44_J3 (n_:Int) (Q:((List Int) × Bool)->Prop) (I1:(List Int)->Prop) (μ1:(List Int)->Nat) (v112:List Int) (I2:Int->(List Int)->Prop) (μ2:Int->(List Int)->Nat) (v133:Int) (v135:List Int) (v139:Bool) (v141:List Int):Prop :=
 (v139=true ->
 I2 (IntKind.i64.wrap (v133+1)) v141/\μ2 (IntKind.i64.wrap (v133+1)) v141 < μ2 v133 v135) /\
 (v139=false ->
 VC44_J2 n_ Q I1 μ1 v112 v133 v141)
def VC44 (n_:Int) (pairs:List (Int × Int)) (Q:(List Int) × Bool->Prop):Prop :=
 sm pairs ->
 (((decide (n_ < 0)) || (decide (n_ > 64)))=true ->
 Q ([],false)) /\
 (((decide (n_ < 0)) || (decide (n_ > 64)))=false ->
 ((0:Int)≤0/\0≤n_/\n_≤1099511627776) /\
 ∃ (I1:(List Int)->Prop) (μ1:(List Int)->Nat),I1 (List.replicate (0:Int).toNat (0:Int))/\∀ (v112:List Int),I1 v112 ->
 ((decide ((v112.length:Int) < n_))=true ->
 ∃ (I2:Int->(List Int)->Prop) (μ2:Int->(List Int)->Nat),I2 0 v112/\∀ (v133:Int) (v135:List Int),I2 v133 v135 ->
 ((decide (v133 < n_))=true ->
 ∀ z1,dg v133 n_ v135 pairs=z1 ->
 VC44_J3 n_ Q I1 μ1 v112 I2 μ2 v133 v135 z1 v135) /\
 ((decide (v133 < n_))=false ->
 VC44_J3 n_ Q I1 μ1 v112 I2 μ2 v133 v135 false v135)) /\
 ((decide ((v112.length:Int) < n_))=false ->
 VC44_J1 Q v112))
def VC47_J1 (Q:((List aw))->Prop) (v101:List aw):Prop :=
 Q v101
def VC47 (h_:al) (Q:(List aw)->Prop):Prop :=
 sm h_.ae ->
 ∀ (_:sm h_.aq),
 ∃ (I1:(List aw)->Int->Prop) (μ1:(List aw)->Int->Nat),I1 [] 0/\∀ (v107:List aw) (v112:Int),I1 v107 v112 ->
 ((decide (v112 < (h_.aq.length:Int)))=true ->
 ((0:Int)≤v112/\v112 < (h_.aq.length:Int)) /\
 (v107.length+[((gi h_.aq v112).aW)].length≤1099511627776) /\
 I1 (v107++[((gi h_.aq v112).aW)]) (IntKind.i64.wrap (v112+1))/\μ1 (v107++[((gi h_.aq v112).aW)]) (IntKind.i64.wrap (v112+1)) < μ1 v107 v112) /\
 ((decide (v112 < (h_.aq.length:Int)))=false ->
 VC47_J1 Q v107)
def VC52 (o_:aj) (Q:Bool->Prop):Prop :=
 sm o_.Rows ->
 (kL o_) /\
 ∀ ax,bB o_=ax ->
 Q (ax.2 != 0)
def VC83_52_J1 (Q:Int->Prop):Prop :=
 Q (-1)
def VC83_52 (s_:List aj) (Q:Int->Prop):Prop :=
 sm s_ ->
 ∃ (I1:Int->Prop) (μ1:Int->Nat),I1 0/\∀ (v102:Int),I1 v102 ->
 ((decide (v102 < (s_.length:Int)))=true ->
 ((0:Int)≤v102/\v102 < (s_.length:Int)) /\
 ∀ (_:sm ((gi s_ v102).Rows)),
 (kL (gi s_ v102)) /\
 ∀ bN,cZ (gi s_ v102)=bN ->
 (bN=true ->
 Q v102) /\
 (bN=false ->
 I1 (IntKind.i64.wrap (v102+1))/\μ1 (IntKind.i64.wrap (v102+1)) < μ1 v102)) /\
 ((decide (v102 < (s_.length:Int)))=false ->
 VC83_52_J1 Q)
def VC54_52 (s_:List aj) (Q:Bool->Prop):Prop :=
 sm s_ ->
 (l6 s_) /\
 ∀ ax,bc s_=ax ->
 Q (decide (ax≥0))
def VC23_J2 (h_:al) (Q:(Int × Int)->Prop):Prop :=
 Q ((h_.aq.length:Int),0)
def VC23_J4 (h_:al) (Q:(Int × Int)->Prop) (I1:(List (Int × Int))->Int->Prop) (μ1:(List (Int × Int))->Int->Nat) (v121:List (Int × Int)) (v124:Int) (v137:Bool):Prop :=
 (v137=true ->
 Q (v124,31)) /\
 (v137=false ->
 I1 (dv v121 (((gi h_.aq v124).aW).ak) ((gi h_.aq v124).aA)) (IntKind.i64.wrap (v124+1))/\μ1 (dv v121 (((gi h_.aq v124).aW).ak) ((gi h_.aq v124).aA)) (IntKind.i64.wrap (v124+1)) < μ1 v121 v124)
def VC23_J3 (h_:al) (Q:(Int × Int)->Prop) (I1:(List (Int × Int))->Int->Prop) (μ1:(List (Int × Int))->Int->Nat) (v121:List (Int × Int)) (v124:Int) (v132:Bool):Prop :=
 (v132=true ->
 Q (v124,32)) /\
 (v132=false ->
 (((((gi h_.aq v124).aW).bo) == 1)=true ->
 ((0:Int)≤((gi h_.aq v124).aA)/\((gi h_.aq v124).aA) < (h_.ae.length:Int)) /\
 VC23_J4 h_ Q I1 μ1 v121 v124 (decide ((((gi h_.aq v124).aW).N)≥((gi h_.ae ((gi h_.aq v124).aA)).az)))) /\
 (((((gi h_.aq v124).aW).bo) == 1)=false ->
 VC23_J4 h_ Q I1 μ1 v121 v124 false))
def VC23_J1 (h_:al) (Q:(Int × Int)->Prop) (v101:Bool):Prop :=
 (v101=true ->
 Q ((-1),2)) /\
 (v101=false ->
 (l5 (⟨h_.ae,h_.aq⟩:al)) /\
 ∀ nC,bT (⟨h_.ae,h_.aq⟩:al)=nC ->
 sm nC ->
 ∀ da,bV nC=da ->
 ((da.2 != 0)=true ->
 Q (da.1,da.2)) /\
 ((da.2 != 0)=false ->
 ∃ (I1:(List (Int × Int))->Int->Prop) (μ1:(List (Int × Int))->Int->Nat),I1 ([]:List (Int × Int)) 0/\∀ (v121:List (Int × Int)) (v124:Int),I1 v121 v124 ->
 ((decide (v124 < (h_.aq.length:Int)))=true ->
 ((0:Int)≤v124/\v124 < (h_.aq.length:Int)) /\
 (((decide (((gi h_.aq v124).aA) < 0)) || (decide (((gi h_.aq v124).aA)≥(h_.ae.length:Int))))=true ->
 Q (v124,2)) /\
 (((decide (((gi h_.aq v124).aA) < 0)) || (decide (((gi h_.aq v124).aA)≥(h_.ae.length:Int))))=false ->
 (((((gi h_.aq v124).aW).bo) == 2)=true ->
 VC23_J3 h_ Q I1 μ1 v121 v124 (((aF v121 (((gi h_.aq v124).aW).ak)).getD 0) != ((gi h_.aq v124).aA))) /\
 (((((gi h_.aq v124).aW).bo) == 2)=false ->
 VC23_J3 h_ Q I1 μ1 v121 v124 false))) /\
 ((decide (v124 < (h_.aq.length:Int)))=false ->
 VC23_J2 h_ Q)))
def VC23 (h_:al) (Q:Int × Int->Prop):Prop :=
 sm h_.ae ->
 ∀ (_:sm h_.aq),
 (((decide ((h_.ae.length:Int) < 1)) || (decide ((h_.ae.length:Int) > 8)))=true ->
 VC23_J1 h_ Q true) /\
 (((decide ((h_.ae.length:Int) < 1)) || (decide ((h_.ae.length:Int) > 8)))=false ->
 (l6 h_.ae) /\
 ∀ zY,aZ h_.ae=zY ->
 VC23_J1 h_ Q zY)
def VC45_J1 (Q:((List aw))->Prop) (v101:List aw):Prop :=
 Q v101
def VC45 (l_:List aG) (Q:(List aw)->Prop):Prop :=
 sm l_ ->
 ∃ (I1:(List aw)->Int->Prop) (μ1:(List aw)->Int->Nat),I1 [] 0/\∀ (v108:List aw) (v112:Int),I1 v108 v112 ->
 ((decide (v112 < (l_.length:Int)))=true ->
 ((0:Int)≤v112/\v112 < (l_.length:Int)) /\
 (v108.length+[(gi l_ v112).aW].length≤1099511627776) /\
 I1 (v108++[(gi l_ v112).aW]) (IntKind.i64.wrap (v112+1))/\μ1 (v108++[(gi l_ v112).aW]) (IntKind.i64.wrap (v112+1)) < μ1 v108 v112) /\
 ((decide (v112 < (l_.length:Int)))=false ->
 VC45_J1 Q v108)
def VC59_J1 (Q:Int->Prop):Prop :=
 Q (-1)
def VC59 (l_:List aG) (at_:Int) (Q:Int->Prop):Prop :=
 sm l_ ->
 ∃ (I1:Int->Prop) (μ1:Int->Nat),I1 (IntKind.i64.wrap (at_ - 1))/\∀ (v102:Int),I1 v102 ->
 ((decide (v102≥0))=true ->
 ((0:Int)≤v102/\v102 < (l_.length:Int)) /\
 ((0:Int)≤at_/\at_ < (l_.length:Int)) /\
 (((((gi l_ v102).aW).ak) == (((gi l_ at_).aW).ak))=true ->
 ((0:Int)≤v102/\v102 < (l_.length:Int)) /\
 Q ((gi l_ v102).aA)) /\
 (((((gi l_ v102).aW).ak) == (((gi l_ at_).aW).ak))=false ->
 I1 (IntKind.i64.wrap (v102 - 1))/\μ1 (IntKind.i64.wrap (v102 - 1)) < μ1 v102)) /\
 ((decide (v102≥0))=false ->
 VC59_J1 Q)
def VC28_J2 (l_:List aG) (Q:(Int × Int)->Prop):Prop :=
 Q ((l_.length:Int),0)
def VC28_J4 (Q:(Int × Int)->Prop) (I1:Int->Prop) (μ1:Int->Nat) (v117:Int) (v126:Bool):Prop :=
 (v126=true ->
 Q (v117,31)) /\
 (v126=false ->
 I1 (IntKind.i64.wrap (v117+1))/\μ1 (IntKind.i64.wrap (v117+1)) < μ1 v117)
def VC28_J3 (objects:List aj) (l_:List aG) (Q:(Int × Int)->Prop) (I1:Int->Prop) (μ1:Int->Nat) (v117:Int) (v123:Bool):Prop :=
 (v123=true ->
 Q (v117,32)) /\
 (v123=false ->
 (((((gi l_ v117).aW).bo) == 1)=true ->
 ((0:Int)≤((gi l_ v117).aA)/\((gi l_ v117).aA) < (objects.length:Int)) /\
 VC28_J4 Q I1 μ1 v117 (decide ((((gi l_ v117).aW).N)≥((gi objects ((gi l_ v117).aA)).az)))) /\
 (((((gi l_ v117).aW).bo) == 1)=false ->
 VC28_J4 Q I1 μ1 v117 false))
def VC28_J1 (objects:List aj) (l_:List aG) (Q:(Int × Int)->Prop):Prop :=
 (ss l_) /\
 ∀ gC,cv l_=gC ->
 sm gC ->
 ∀ fT,e6 gC=fT ->
 ((fT.2 != 0)=true ->
 Q (fT.1,fT.2)) /\
 ((fT.2 != 0)=false ->
 ∃ (I1:Int->Prop) (μ1:Int->Nat),I1 0/\∀ (v117:Int),I1 v117 ->
 ((decide (v117 < (l_.length:Int)))=true ->
 ((0:Int)≤v117/\v117 < (l_.length:Int)) /\
 (((decide (((gi l_ v117).aA) < 0)) || (decide (((gi l_ v117).aA)≥(objects.length:Int))))=true ->
 Q (v117,2)) /\
 (((decide (((gi l_ v117).aA) < 0)) || (decide (((gi l_ v117).aA)≥(objects.length:Int))))=false ->
 (((((gi l_ v117).aW).bo) == 2)=true ->
 (tL l_ v117) /\
 ∀ xh,fG l_ v117=xh ->
 VC28_J3 objects l_ Q I1 μ1 v117 (xh != ((gi l_ v117).aA))) /\
 (((((gi l_ v117).aW).bo) == 2)=false ->
 VC28_J3 objects l_ Q I1 μ1 v117 false))) /\
 ((decide (v117 < (l_.length:Int)))=false ->
 VC28_J2 l_ Q))
def VC28 (objects:List aj) (l_:List aG) (Q:Int × Int->Prop):Prop :=
 sm objects ->
 ∀ (_:sm l_),
 (((decide ((objects.length:Int) < 1)) || (decide ((objects.length:Int) > 8)))=true ->
 Q ((-1),2)) /\
 (((decide ((objects.length:Int) < 1)) || (decide ((objects.length:Int) > 8)))=false ->
 ∃ (I2:Int->Prop) (μ2:Int->Nat),I2 0/\∀ (v152:Int),I2 v152 ->
 ((decide (v152 < (objects.length:Int)))=true ->
 ((0:Int)≤v152/\v152 < (objects.length:Int)) /\
 ∀ (_:sm ((gi objects v152).Rows)),
 ∀ vc,cX (gi objects v152)=vc ->
 ((vc.2 != 0)=true ->
 Q ((-1),2)) /\
 ((vc.2 != 0)=false ->
 I2 (IntKind.i64.wrap (v152+1))/\μ2 (IntKind.i64.wrap (v152+1)) < μ2 v152)) /\
 ((decide (v152 < (objects.length:Int)))=false ->
 VC28_J1 objects l_ Q))
def VC48 (i_:Int) (ao:al) (ay:Int) (Q:Bool->Prop):Prop :=
 sm ao.ae ->
 ∀ (_:sm ao.aq),
 ((0:Int)≤i_/\i_ < (ao.aq.length:Int)) /\
 Q (((gi ao.aq i_).aA) == ay)
def VC46_48_J1 (Q:((List aw))->Prop) (v101:List aw):Prop :=
 Q v101
def VC46_48_J2 (I1:(List aw)->Int->Prop) (μ1:(List aw)->Int->Nat) (v109:List aw) (v114:Int) (v117:List aw):Prop :=
 I1 v117 (IntKind.i64.wrap (v114+1))/\μ1 v117 (IntKind.i64.wrap (v114+1)) < μ1 v109 v114
def VC46_48 (l_:List aw) (ao:al) (ay:Int) (Q:(List aw)->Prop):Prop :=
 sm l_ ->
 ∀ (_:sm ao.ae),
 sm ao.aq ->
 ∃ (I1:(List aw)->Int->Prop) (μ1:(List aw)->Int->Nat),I1 [] 0/\∀ (v109:List aw) (v114:Int),I1 v109 v114 ->
 ((decide (v114 < (l_.length:Int)))=true ->
 ((0:Int)≤v114/\v114 < (l_.length:Int)) /\
 (yp v114 (⟨ao.ae,ao.aq⟩:al) ay) /\
 ∀ tJ,eX v114 (⟨ao.ae,ao.aq⟩:al) ay=tJ ->
 (tJ=true ->
 (v109.length+[(gi l_ v114)].length≤1099511627776) /\
 VC46_48_J2 I1 μ1 v109 v114 (v109++[(gi l_ v114)])) /\
 (tJ=false ->
 VC46_48_J2 I1 μ1 v109 v114 v109)) /\
 ((decide (v114 < (l_.length:Int)))=false ->
 VC46_48_J1 Q v109)
def VC17 (h_:al) (k_:Int) (Q:fP->Prop):Prop :=
 sm h_.ae ->
 ∀ (_:sm h_.aq),
 (gl h_) /\
 ∀ ax,aE h_=ax ->
 ((((ax.2 != 0) || (decide (k_ < 0))) || (decide (k_≥(h_.ae.length:Int))))=true ->
 Q (⟨(⟨0,0,0,[]⟩:aj),[]⟩:fP)) /\
 ((((ax.2 != 0) || (decide (k_ < 0))) || (decide (k_≥(h_.ae.length:Int))))=false ->
 (l5 h_) /\
 ∀ fu,bT h_=fu ->
 sm fu ->
 (yu fu h_ k_) /\
 ∀ eN,bS fu h_ k_=eN ->
 sm eN ->
 ((0:Int)≤k_/\k_ < (h_.ae.length:Int)) /\
 ∀ (_:sm ((gi h_.ae k_).Rows)),
 (yF ((gi h_.ae k_).Rows)) /\
 ∀ gI,de ((gi h_.ae k_).Rows)=gI ->
 sm gI ->
 Q (⟨(⟨(gi h_.ae k_).au,(gi h_.ae k_).az,(gi h_.ae k_).aH,gI⟩:aj),eN⟩:fP))
def VC24_J1 (Q:((List ab) × (List Int))->Prop) (cY:(List ab) × Int) (v120:List Int):Prop :=
 Q (cY.1,v120)
def VC24 (h_:al) (Q:(List ab) × (List Int)->Prop):Prop :=
 sm h_.ae ->
 ∀ (_:sm h_.aq),
 (gl h_) /\
 ∀ ax,aE h_=ax ->
 ((ax.2 != 0)=true ->
 Q ([],[])) /\
 ((ax.2 != 0)=false ->
 (l5 h_) /\
 ∀ ba,bT h_=ba ->
 sm ba ->
 ∀ cY,gL ba=cY ->
 sm cY.1 ->
 ∃ (I1:(List Int)->Int->Prop) (μ1:(List Int)->Int->Nat),I1 [] 0/\∀ (v127:List Int) (v132:Int),I1 v127 v132 ->
 ((decide (v132 < (cY.1.length:Int)))=true ->
 ((0:Int)≤v132/\v132 < (cY.1.length:Int)) /\
 ((0:Int)≤((gi cY.1 v132).aI)/\((gi cY.1 v132).aI) < (h_.aq.length:Int)) /\
 (v127.length+[(gi h_.aq ((gi cY.1 v132).aI)).aA].length≤1099511627776) /\
 I1 (v127++[(gi h_.aq ((gi cY.1 v132).aI)).aA]) (IntKind.i64.wrap (v132+1))/\μ1 (v127++[(gi h_.aq ((gi cY.1 v132).aI)).aA]) (IntKind.i64.wrap (v132+1)) < μ1 v127 v132) /\
 ((decide (v132 < (cY.1.length:Int)))=false ->
 VC24_J1 Q cY v127))
def VC16_J1 (Q:((List ab) × (List Int))->Prop) (cY:(List ab) × Int) (v120:List Int):Prop :=
 Q (cY.1,v120)
def VC16 (objects:List aj) (l_:List aG) (Q:(List ab) × (List Int)->Prop):Prop :=
 sm objects ->
 ∀ (_:sm l_),
 (k5 objects l_) /\
 ∀ ax,dJ objects l_=ax ->
 ((ax.2 != 0)=true ->
 Q ([],[])) /\
 ((ax.2 != 0)=false ->
 (ss l_) /\
 ∀ ba,cv l_=ba ->
 sm ba ->
 ∀ cY,iS ba=cY ->
 sm cY.1 ->
 ∃ (I1:(List Int)->Int->Prop) (μ1:(List Int)->Int->Nat),I1 [] 0/\∀ (v128:List Int) (v132:Int),I1 v128 v132 ->
 ((decide (v132 < (cY.1.length:Int)))=true ->
 ((0:Int)≤v132/\v132 < (cY.1.length:Int)) /\
 ((0:Int)≤((gi cY.1 v132).aI)/\((gi cY.1 v132).aI) < (l_.length:Int)) /\
 (v128.length+[(gi l_ ((gi cY.1 v132).aI)).aA].length≤1099511627776) /\
 I1 (v128++[(gi l_ ((gi cY.1 v132).aI)).aA]) (IntKind.i64.wrap (v132+1))/\μ1 (v128++[(gi l_ ((gi cY.1 v132).aI)).aA]) (IntKind.i64.wrap (v132+1)) < μ1 v128 v132) /\
 ((decide (v132 < (cY.1.length:Int)))=false ->
 VC16_J1 Q cY v128))
def VC41 (h_:al) (Q:(List ab) × (List Int) × Int->Prop):Prop :=
 sm h_.ae ->
 ∀ (_:sm h_.aq),
 (gl h_) /\
 ∀ ax,aE h_=ax ->
 ((ax.2 != 0)=true ->
 Q ([],[],ax.2)) /\
 ((ax.2 != 0)=false ->
 (gl h_) /\
 ∀ ba,cN h_=ba ->
 sm ba.1 ->
 ∀ (_:sm ba.2),
 ((decide ((ba.1.length:Int) > 20))=true ->
 Q ([],[],3)) /\
 ((decide ((ba.1.length:Int) > 20))=false ->
 Q (ba.1,ba.2,0)))
def VC69_J1 (Q:((List Int))->Prop) (v101:List Int):Prop :=
 Q v101
def VC69_J2 (I1:(List Int)->Int->Prop) (μ1:(List Int)->Int->Nat) (v107:List Int) (v112:Int) (v113:List Int):Prop :=
 I1 v113 (IntKind.i64.wrap (v112+1))/\μ1 v113 (IntKind.i64.wrap (v112+1)) < μ1 v107 v112
def VC69 (of:List Int) (k_:Int) (Q:(List Int)->Prop):Prop :=
 sm of ->
 ∃ (I1:(List Int)->Int->Prop) (μ1:(List Int)->Int->Nat),I1 [] 0/\∀ (v107:List Int) (v112:Int),I1 v107 v112 ->
 ((decide (v112 < (of.length:Int)))=true ->
 ((0:Int)≤v112/\v112 < (of.length:Int)) /\
 (((gi of v112) == k_)=true ->
 (v107.length+[v112].length≤1099511627776) /\
 VC69_J2 I1 μ1 v107 v112 (v107++[v112])) /\
 (((gi of v112) == k_)=false ->
 VC69_J2 I1 μ1 v107 v112 v107)) /\
 ((decide (v112 < (of.length:Int)))=false ->
 VC69_J1 Q v107)
def VC72 (i_:Int) (ao:List Int) (ay:Int) (Q:Bool->Prop):Prop :=
 sm ao ->
 ((0:Int)≤i_/\i_ < (ao.length:Int)) /\
 Q ((gi ao i_) == ay)
def VC71_72_J1 (Q:((List ab))->Prop) (v101:List ab):Prop :=
 Q v101
def VC71_72_J2 (I1:(List ab)->Int->Prop) (μ1:(List ab)->Int->Nat) (v108:List ab) (v113:Int) (v115:List ab):Prop :=
 I1 v115 (IntKind.i64.wrap (v113+1))/\μ1 v115 (IntKind.i64.wrap (v113+1)) < μ1 v108 v113
def VC71_72 (l_:List ab) (ao:List Int) (ay:Int) (Q:(List ab)->Prop):Prop :=
 sm l_ ->
 ∀ (_:sm ao),
 ∃ (I1:(List ab)->Int->Prop) (μ1:(List ab)->Int->Nat),I1 [] 0/\∀ (v108:List ab) (v113:Int),I1 v108 v113 ->
 ((decide (v113 < (l_.length:Int)))=true ->
 ((0:Int)≤v113/\v113 < (l_.length:Int)) /\
 (tK v113 ao ay) /\
 ∀ z5,dM v113 ao ay=z5 ->
 (z5=true ->
 (v108.length+[(gi l_ v113)].length≤1099511627776) /\
 VC71_72_J2 I1 μ1 v108 v113 (v108++[(gi l_ v113)])) /\
 (z5=false ->
 VC71_72_J2 I1 μ1 v108 v113 v108)) /\
 ((decide (v113 < (l_.length:Int)))=false ->
 VC71_72_J1 Q v108)
def VC42_J1 (Q:((List (List aa)) × Int)->Prop) (v101:List (List aa)):Prop :=
 Q (v101,0)
def VC42_J2 (I1:(List (List aa))->Int->Prop) (μ1:(List (List aa))->Int->Nat) (v108:List (List aa)) (v113:Int) (v147:List (List aa)) (v151:List aa):Prop :=
 (v147.length+[v151].length≤1099511627776) /\
 I1 (v147++[v151]) (IntKind.i64.wrap (v113+1))/\μ1 (v147++[v151]) (IntKind.i64.wrap (v113+1)) < μ1 v108 v113
def VC42 (h_:al) (l_:List ab) (of:List Int) (Q:(List (List aa)) × Int->Prop):Prop :=
 sm h_.ae ->
 ∀ (_:sm h_.aq),
 sm l_ ->
 ∀ (_:sm of),
 ∃ (I1:(List (List aa))->Int->Prop) (μ1:(List (List aa))->Int->Nat),I1 [] 0/\∀ (v108:List (List aa)) (v113:Int),I1 v108 v113 ->
 ((decide (v113 < (h_.ae.length:Int)))=true ->
 ((0:Int)≤v113/\v113 < (h_.ae.length:Int)) /\
 ∀ (_:sm ((gi h_.ae v113).Rows)),
 (sw of v113) /\
 ∀ dK,aS of v113=dK ->
 sm dK ->
 (yr l_ of v113) /\
 ∀ gk,bI l_ of v113=gk ->
 sm gk ->
 (ym (gi h_.ae v113) gk) /\
 ∀ cc,bn (gi h_.ae v113) gk=cc ->
 sm cc.1 ->
 ((cc.2 != 0)=true ->
 Q ([],cc.2)) /\
 ((cc.2 != 0)=false ->
 ∃ (I2:(List (List aa))->(List aa)->Int->Prop) (μ2:(List (List aa))->(List aa)->Int->Nat),I2 v108 cc.1 0/\∀ (v169:List (List aa)) (v174:List aa) (v179:Int),I2 v169 v174 v179 ->
 ((decide (v179 < (cc.1.length:Int)))=true ->
 ((0:Int)≤v179/\v179 < (v174.length:Int)) /\
 ((0:Int)≤((gi v174 v179).Oper)/\((gi v174 v179).Oper) < (dK.length:Int)) /\
 ((0:Int)≤v179/\v179 < (v174.length:Int)) /\
 I2 v169 (v174.set v179.toNat (⟨gi dK ((gi v174 v179).Oper),(gi v174 v179).Result⟩:aa)) (IntKind.i64.wrap (v179+1))/\μ2 v169 (v174.set v179.toNat (⟨gi dK ((gi v174 v179).Oper),(gi v174 v179).Result⟩:aa)) (IntKind.i64.wrap (v179+1)) < μ2 v169 v174 v179) /\
 ((decide (v179 < (cc.1.length:Int)))=false ->
 VC42_J2 I1 μ1 v108 v113 v169 v174))) /\
 ((decide (v113 < (h_.ae.length:Int)))=false ->
 VC42_J1 Q v108)
def VC91_J1 (Q:((List aa))->Prop) (v101:List aa):Prop :=
 Q v101
def VC91 (n_:Int) (Q:(List aa)->Prop):Prop :=
 ((decide (n_ < 0))=true ->
 False) /\
 ((decide (n_ < 0))=false ->
 ((decide ((IntKind.i64.wrap (n_ - (IntKind.i64.wrap (0 - 0)))) > 0))=true ->
 ((0:Int)≤0/\0≤(([]:List aa).length:Int)) /\
 ((0:Int) < (IntKind.i64.wrap (n_ - (IntKind.i64.wrap (0 - 0))))/\(IntKind.i64.wrap (n_ - (IntKind.i64.wrap (0 - 0))))≤1099511627776) /\
 ((0:Int)≤0/\0≤((List.replicate (IntKind.i64.wrap (n_ - (IntKind.i64.wrap (0 - 0)))).toNat (⟨0,0⟩:aa)).length:Int)) /\
 VC91_J1 Q ((List.replicate (IntKind.i64.wrap (n_ - (IntKind.i64.wrap (0 - 0)))).toNat (⟨0,0⟩:aa)).take (0:Int).toNat)) /\
 ((decide ((IntKind.i64.wrap (n_ - (IntKind.i64.wrap (0 - 0)))) > 0))=false ->
 VC91_J1 Q []))
def VC73_J2 (Q:((List aa))->Prop) (v110:List aa):Prop :=
 Q v110
def VC73_J1 (bX:List (List aa)) (Q:((List aa))->Prop) (v102:Int):Prop :=
 (yB v102) /\
 ∀ gC,cu v102=gC ->
 sm gC ->
 ∃ (I1:(List aa)->Int->Prop) (μ1:(List aa)->Int->Nat),I1 gC 0/\∀ (v116:List aa) (v121:Int),I1 v116 v121 ->
 ((decide (v121 < (bX.length:Int)))=true ->
 ((0:Int)≤v121/\v121 < (bX.length:Int)) /\
 ∀ (_:sm (gi bX v121)),
 (v116.length+(gi bX v121).length≤1099511627776) /\
 I1 (v116++(gi bX v121)) (IntKind.i64.wrap (v121+1))/\μ1 (v116++(gi bX v121)) (IntKind.i64.wrap (v121+1)) < μ1 v116 v121) /\
 ((decide (v121 < (bX.length:Int)))=false ->
 VC73_J2 Q v116)
def VC73 (bX:List (List aa)) (Q:(List aa)->Prop):Prop :=
 sm bX ->
 ∃ (I2:Int->Int->Prop) (μ2:Int->Int->Nat),I2 0 0/\∀ (v138:Int) (v140:Int),I2 v138 v140 ->
 ((decide (v140 < (bX.length:Int)))=true ->
 ((0:Int)≤v140/\v140 < (bX.length:Int)) /\
 ∀ (_:sm (gi bX v140)),
 ((decide ((IntKind.i64.wrap (v138+((gi bX v140).length:Int))) < 0))=true ->
 False) /\
 ((decide ((IntKind.i64.wrap (v138+((gi bX v140).length:Int))) < 0))=false ->
 I2 (IntKind.i64.wrap (v138+((gi bX v140).length:Int))) (IntKind.i64.wrap (v140+1))/\μ2 (IntKind.i64.wrap (v138+((gi bX v140).length:Int))) (IntKind.i64.wrap (v140+1)) < μ2 v138 v140)) /\
 ((decide (v140 < (bX.length:Int)))=false ->
 VC73_J1 bX Q v138)
def VC43_J2 (Q:((List aa) × (List (Int × Int)))->Prop) (ax:(List aa)) (v115:List (Int × Int)):Prop :=
 Q (ax,v115)
def VC43_J3 (I1:(List (Int × Int))->Int->Prop) (μ1:(List (Int × Int))->Int->Nat) (v123:List (Int × Int)) (v128:Int) (v131:List (Int × Int)):Prop :=
 I1 v131 (IntKind.i64.wrap (v128+1))/\μ1 v131 (IntKind.i64.wrap (v128+1)) < μ1 v123 v128
def VC43_J4 (I2:(List (Int × Int))->Int->Prop) (μ2:(List (Int × Int))->Int->Nat) (v141:List (Int × Int)) (v147:Int) (v150:List (Int × Int)):Prop :=
 I2 v150 (IntKind.i64.wrap (v147+1))/\μ2 v150 (IntKind.i64.wrap (v147+1)) < μ2 v141 v147
def VC43_J1 (l_:List ab) (Q:((List aa) × (List (Int × Int)))->Prop) (ax:(List aa)) (v110:List (Int × Int)):Prop :=
 ∃ (I1:(List (Int × Int))->Int->Prop) (μ1:(List (Int × Int))->Int->Nat),I1 v110 0/\∀ (v123:List (Int × Int)) (v128:Int),I1 v123 v128 ->
 ((decide (v128 < (ax.length:Int)))=true ->
 ((0:Int)≤v128/\v128 < (ax.length:Int)) /\
 ∃ (I2:(List (Int × Int))->Int->Prop) (μ2:(List (Int × Int))->Int->Nat),I2 v123 0/\∀ (v141:List (Int × Int)) (v147:Int),I2 v141 v147 ->
 ((decide (v147 < (ax.length:Int)))=true ->
 ((0:Int)≤v147/\v147 < (ax.length:Int)) /\
 ((0:Int)≤((gi ax v128).Oper)/\((gi ax v128).Oper) < (l_.length:Int)) /\
 ((0:Int)≤((gi ax v147).Oper)/\((gi ax v147).Oper) < (l_.length:Int)) /\
 ∀ vb,bl (gi l_ ((gi ax v128).Oper)) (gi l_ ((gi ax v147).Oper))=vb ->
 (vb=true ->
 (v141.length+[(v128,v147)].length≤1099511627776) /\
 VC43_J4 I2 μ2 v141 v147 (v141++[(v128,v147)])) /\
 (vb=false ->
 VC43_J4 I2 μ2 v141 v147 v141)) /\
 ((decide (v147 < (ax.length:Int)))=false ->
 VC43_J3 I1 μ1 v123 v128 v141)) /\
 ((decide (v128 < (ax.length:Int)))=false ->
 VC43_J2 Q ax v123)
def VC43_J5 (rows:List (List aa)) (I3:(List (Int × Int))->Int->Int->Prop) (μ3:(List (Int × Int))->Int->Int->Nat) (v196:List (Int × Int)) (v200:Int) (v202:Int) (v211:List (Int × Int)):Prop :=
 I3 v211 (IntKind.i64.wrap (v200+((gi rows v202).length:Int))) (IntKind.i64.wrap (v202+1))/\μ3 v211 (IntKind.i64.wrap (v200+((gi rows v202).length:Int))) (IntKind.i64.wrap (v202+1)) < μ3 v196 v200 v202
def VC43 (l_:List ab) (rows:List (List aa)) (Q:(List aa) × (List (Int × Int))->Prop):Prop :=
 sm l_ ->
 ∀ (_:sm rows),
 (sA rows) /\
 ∀ ax,cg rows=ax ->
 sm ax ->
 ∃ (I3:(List (Int × Int))->Int->Int->Prop) (μ3:(List (Int × Int))->Int->Int->Nat),I3 [] 0 0/\∀ (v196:List (Int × Int)) (v200:Int) (v202:Int),I3 v196 v200 v202 ->
 ((decide (v202 < (rows.length:Int)))=true ->
 ((0:Int)≤v202/\v202 < (rows.length:Int)) /\
 ∀ (_:sm (gi rows v202)),
 ∃ (I4:(List (Int × Int))->Int->Prop) (μ4:(List (Int × Int))->Int->Nat),I4 v196 1/\∀ (v219:List (Int × Int)) (v224:Int),I4 v219 v224 ->
 ((decide (v224 < ((gi rows v202).length:Int)))=true ->
 (v219.length+[(IntKind.i64.wrap ((IntKind.i64.wrap (v200+v224)) - 1),IntKind.i64.wrap (v200+v224))].length≤1099511627776) /\
 I4 (v219++[(IntKind.i64.wrap ((IntKind.i64.wrap (v200+v224)) - 1),IntKind.i64.wrap (v200+v224))]) (IntKind.i64.wrap (v224+1))/\μ4 (v219++[(IntKind.i64.wrap ((IntKind.i64.wrap (v200+v224)) - 1),IntKind.i64.wrap (v200+v224))]) (IntKind.i64.wrap (v224+1)) < μ4 v219 v224) /\
 ((decide (v224 < ((gi rows v202).length:Int)))=false ->
 VC43_J5 rows I3 μ3 v196 v200 v202 v219)) /\
 ((decide (v202 < (rows.length:Int)))=false ->
 VC43_J1 l_ Q ax v196)
def VC15_J1 (Q:((List aa) × Int)->Prop) (v139:List aa):Prop :=
 Q (v139,0)
def VC15 (h_:al) (Q:(List aa) × Int->Prop):Prop :=
 sm h_.ae ->
 ∀ (_:sm h_.aq),
 (gl h_) /\
 ∀ ax,cq h_=ax ->
 sm ax.1 ->
 ∀ (_:sm ax.2.1),
 ((ax.2.2 != 0)=true ->
 Q ([],ax.2.2)) /\
 ((ax.2.2 != 0)=false ->
 (yo h_ ax.1 ax.2.1) /\
 ∀ da,cM h_ ax.1 ax.2.1=da ->
 sm da.1 ->
 ((da.2 != 0)=true ->
 Q ([],da.2)) /\
 ((da.2 != 0)=false ->
 (vk ax.1 da.1) /\
 ∀ e8,cj ax.1 da.1=e8 ->
 sm e8.1 ->
 ∀ (_:sm e8.2),
 ∀ gg,dp (e8.1.length:Int) e8.2=gg ->
 sm gg.1 ->
 ((!gg.2)=true ->
 Q ([],41)) /\
 ((!gg.2)=false ->
 ∃ (I1:(List aa)->Int->Prop) (μ1:(List aa)->Int->Nat),I1 ([]:List aa) 0/\∀ (v146:List aa) (v151:Int),I1 v146 v151 ->
 ((decide (v151 < (gg.1.length:Int)))=true ->
 ((0:Int)≤v151/\v151 < (gg.1.length:Int)) /\
 ((0:Int)≤(gi gg.1 v151)/\(gi gg.1 v151) < (e8.1.length:Int)) /\
 (v146.length+[gi e8.1 (gi gg.1 v151)].length≤1099511627776) /\
 I1 (v146++[gi e8.1 (gi gg.1 v151)]) (IntKind.i64.wrap (v151+1))/\μ1 (v146++[gi e8.1 (gi gg.1 v151)]) (IntKind.i64.wrap (v151+1)) < μ1 v146 v151) /\
 ((decide (v151 < (gg.1.length:Int)))=false ->
 VC15_J1 Q v146))))
def VC9 (h_:al) (Q:Bool × Int->Prop):Prop :=
 sm h_.ae ->
 ∀ (_:sm h_.aq),
 (gl h_) /\
 ∀ ax,cV h_=ax ->
 sm ax.1 ->
 ((ax.2 == 41)=true ->
 Q (false,0)) /\
 ((ax.2 == 41)=false ->
 Q ((ax.2 == 0),ax.2))
def VC32 (i_:Int) (ao:List aa) (ay:List ab) (aO:List Int) (bF:Int) (Q:Bool->Prop):Prop :=
 sm ao ->
 ∀ (_:sm ay),
 sm aO ->
 ((0:Int)≤i_/\i_ < (ao.length:Int)) /\
 (((decide (((gi ao i_).Oper) < 0)) || (decide (((gi ao i_).Oper)≥(ay.length:Int))))=true ->
 Q true) /\
 (((decide (((gi ao i_).Oper) < 0)) || (decide (((gi ao i_).Oper)≥(ay.length:Int))))=false ->
 ((0:Int)≤((gi ao i_).Oper)/\((gi ao i_).Oper) < (aO.length:Int)) /\
 Q ((gi aO ((gi ao i_).Oper)) == bF))
def VC31_32_J1 (Q:((List aa))->Prop) (v101:List aa):Prop :=
 Q v101
def VC31_32_J2 (I1:(List aa)->Int->Prop) (μ1:(List aa)->Int->Nat) (v110:List aa) (v115:Int) (v119:List aa):Prop :=
 I1 v119 (IntKind.i64.wrap (v115+1))/\μ1 v119 (IntKind.i64.wrap (v115+1)) < μ1 v110 v115
def VC31_32 (l_:List aa) (ao:List aa) (ay:List ab) (aO:List Int) (bF:Int) (Q:(List aa)->Prop):Prop :=
 sm l_ ->
 ∀ (_:sm ao),
 sm ay ->
 ∀ (_:sm aO),
 ∃ (I1:(List aa)->Int->Prop) (μ1:(List aa)->Int->Nat),I1 [] 0/\∀ (v110:List aa) (v115:Int),I1 v110 v115 ->
 ((decide (v115 < (l_.length:Int)))=true ->
 ((0:Int)≤v115/\v115 < (l_.length:Int)) /\
 (yz v115 ao ay aO bF) /\
 ∀ gk,dN v115 ao ay aO bF=gk ->
 (gk=true ->
 (v110.length+[(gi l_ v115)].length≤1099511627776) /\
 VC31_32_J2 I1 μ1 v110 v115 (v110++[(gi l_ v115)])) /\
 (gk=false ->
 VC31_32_J2 I1 μ1 v110 v115 v110)) /\
 ((decide (v115 < (l_.length:Int)))=false ->
 VC31_32_J1 Q v110)
def VC12_J1 (ah:List aa) (Q:Bool->Prop) (ba:(List ab) × (List Int)):Prop :=
 ∀ ka,cW ba.1 ah=ka ->
 ((decide (ka < 0))=true ->
 (qK ba.1 ah) /\
 ∀ dK,b9 ba.1 ah=dK ->
 sm dK ->
 Q ((dK.length:Int) == 0)) /\
 ((decide (ka < 0))=false ->
 Q false)
def VC12 (h_:al) (ah:List aa) (Q:Bool->Prop):Prop :=
 sm h_.ae ->
 ∀ (_:sm h_.aq),
 sm ah ->
 (gl h_) /\
 ∀ ax,aE h_=ax ->
 ((ax.2 != 0)=true ->
 Q false) /\
 ((ax.2 != 0)=false ->
 (gl h_) /\
 ∀ ba,cN h_=ba ->
 sm ba.1 ->
 ∀ (_:sm ba.2),
 ∃ (I1:Int->Prop) (μ1:Int->Nat),I1 0/\∀ (v129:Int),I1 v129 ->
 ((decide (v129 < (h_.ae.length:Int)))=true ->
 ((0:Int)≤v129/\v129 < (h_.ae.length:Int)) /\
 ∀ (_:sm ((gi h_.ae v129).Rows)),
 (yy ah ah ba.1 ba.2 v129) /\
 ∀ cc,bR ah ah ba.1 ba.2 v129=cc ->
 sm cc ->
 (lq (gi h_.ae v129) ba.1 cc) /\
 ∀ ve,cS (gi h_.ae v129) ba.1 cc=ve ->
 ((ve.2.2 != 0)=true ->
 Q false) /\
 ((ve.2.2 != 0)=false ->
 I1 (IntKind.i64.wrap (v129+1))/\μ1 (IntKind.i64.wrap (v129+1)) < μ1 v129)) /\
 ((decide (v129 < (h_.ae.length:Int)))=false ->
 VC12_J1 ah Q ba))
def VC40_J2 (Q:((List aa) × Bool)->Prop) (v109:List aa):Prop :=
 Q (v109,true)
def VC40_J1 (objects:List aj) (ops:List ab) (of:List Int) (order:List Int) (Q:((List aa) × Bool)->Prop) (v105:List Int):Prop :=
 ∃ (I1:(List Int)->(List aa)->Int->Prop) (μ1:(List Int)->(List aa)->Int->Nat),I1 v105 [] 0/\∀ (v119:List Int) (v123:List aa) (v127:Int),I1 v119 v123 v127 ->
 ((decide (v127 < (order.length:Int)))=true ->
 ((0:Int)≤v127/\v127 < (order.length:Int)) /\
 ((0:Int)≤(gi order v127)/\(gi order v127) < (of.length:Int)) /\
 ((0:Int)≤(gi of (gi order v127))/\(gi of (gi order v127)) < (objects.length:Int)) /\
 ∀ (_:sm ((gi objects (gi of (gi order v127))).Rows)),
 ((0:Int)≤v127/\v127 < (order.length:Int)) /\
 ((0:Int)≤(gi order v127)/\(gi order v127) < (ops.length:Int)) /\
 ((0:Int)≤(gi of (gi order v127))/\(gi of (gi order v127)) < (v119.length:Int)) /\
 ∀ jt,bA (gi objects (gi of (gi order v127))) (gi v119 (gi of (gi order v127))) ((gi ops (gi order v127)).Kind)=jt ->
 ((!jt.2.2)=true ->
 Q ([],false)) /\
 ((!jt.2.2)=false ->
 ((0:Int)≤(gi of (gi order v127))/\(gi of (gi order v127)) < (v119.length:Int)) /\
 ((0:Int)≤v127/\v127 < (order.length:Int)) /\
 (v123.length+[(⟨gi order v127,jt.2.1⟩:aa)].length≤1099511627776) /\
 I1 (v119.set (gi of (gi order v127)).toNat jt.1) (v123++[(⟨gi order v127,jt.2.1⟩:aa)]) (IntKind.i64.wrap (v127+1))/\μ1 (v119.set (gi of (gi order v127)).toNat jt.1) (v123++[(⟨gi order v127,jt.2.1⟩:aa)]) (IntKind.i64.wrap (v127+1)) < μ1 v119 v123 v127)) /\
 ((decide (v127 < (order.length:Int)))=false ->
 VC40_J2 Q v123)
def VC40 (objects:List aj) (ops:List ab) (of:List Int) (order:List Int) (Q:(List aa) × Bool->Prop):Prop :=
 sm objects ->
 ∀ (_:sm ops),
 sm of ->
 ∀ (_:sm order),
 ∃ (I2:(List Int)->Int->Prop) (μ2:(List Int)->Int->Nat),I2 [] 0/\∀ (v185:List Int) (v189:Int),I2 v185 v189 ->
 ((decide (v189 < (objects.length:Int)))=true ->
 ((0:Int)≤v189/\v189 < (objects.length:Int)) /\
 (v185.length+[(gi objects v189).aH].length≤1099511627776) /\
 I2 (v185++[(gi objects v189).aH]) (IntKind.i64.wrap (v189+1))/\μ2 (v185++[(gi objects v189).aH]) (IntKind.i64.wrap (v189+1)) < μ2 v185 v189) /\
 ((decide (v189 < (objects.length:Int)))=false ->
 VC40_J1 objects ops of order Q v185)
def VC13_J2 (ah:List aa) (Q:Bool->Prop) (ba:(List ab) × (List Int)):Prop :=
 ∀ dK,eK ba.1 ah=dK ->
 ((decide (dK < 0))=true ->
 (su ba.1 ah false) /\
 ∀ bO,eW ba.1 ah false=bO ->
 sm bO ->
 Q ((bO.length:Int) == 0)) /\
 ((decide (dK < 0))=false ->
 Q false)
def VC13_J3 (objects:List aj) (Q:Bool->Prop) (ba:(List ab) × (List Int)) (I1:Int->Prop) (μ1:Int->Nat) (v136:Int) (v141:List aa):Prop :=
 ((0:Int)≤v136/\v136 < (objects.length:Int)) /\
 ∀ (_:sm ((gi objects v136).Rows)),
 ((0:Int)≤v136/\v136 < (objects.length:Int)) /\
 ∀ vd,c6 (gi objects v136) ba.1 ((gi objects v136).aH) v141=vd ->
 ((vd.2.2 != 0)=true ->
 Q false) /\
 ((vd.2.2 != 0)=false ->
 I1 (IntKind.i64.wrap (v136+1))/\μ1 (IntKind.i64.wrap (v136+1)) < μ1 v136)
def VC13_J4 (I2:(List aa)->Int->Prop) (μ2:(List aa)->Int->Nat) (v166:List aa) (v170:Int) (v175:List aa):Prop :=
 I2 v175 (IntKind.i64.wrap (v170+1))/\μ2 v175 (IntKind.i64.wrap (v170+1)) < μ2 v166 v170
def VC13_J1 (objects:List aj) (ah:List aa) (Q:Bool->Prop) (ba:(List ab) × (List Int)):Prop :=
 ∃ (I1:Int->Prop) (μ1:Int->Nat),I1 0/\∀ (v136:Int),I1 v136 ->
 ((decide (v136 < (objects.length:Int)))=true ->
 ∃ (I2:(List aa)->Int->Prop) (μ2:(List aa)->Int->Nat),I2 [] 0/\∀ (v166:List aa) (v170:Int),I2 v166 v170 ->
 ((decide (v170 < (ah.length:Int)))=true ->
 ((0:Int)≤v170/\v170 < (ah.length:Int)) /\
 ((0:Int)≤((gi ah v170).Oper)/\((gi ah v170).Oper) < (ba.2.length:Int)) /\
 (((gi ba.2 ((gi ah v170).Oper)) == v136)=true ->
 ((0:Int)≤v170/\v170 < (ah.length:Int)) /\
 (v166.length+[gi ah v170].length≤1099511627776) /\
 VC13_J4 I2 μ2 v166 v170 (v166++[gi ah v170])) /\
 (((gi ba.2 ((gi ah v170).Oper)) == v136)=false ->
 VC13_J4 I2 μ2 v166 v170 v166)) /\
 ((decide (v170 < (ah.length:Int)))=false ->
 VC13_J3 objects Q ba I1 μ1 v136 v166)) /\
 ((decide (v136 < (objects.length:Int)))=false ->
 VC13_J2 ah Q ba)
def VC13_J5 (Q:Bool->Prop) (I3:Int->Prop) (μ3:Int->Nat) (v213:Int) (v218:Bool):Prop :=
 (v218=true ->
 Q false) /\
 (v218=false ->
 I3 (IntKind.i64.wrap (v213+1))/\μ3 (IntKind.i64.wrap (v213+1)) < μ3 v213)
def VC13 (objects:List aj) (l_:List aG) (ah:List aa) (Q:Bool->Prop):Prop :=
 sm objects ->
 ∀ (_:sm l_),
 sm ah ->
 (k5 objects l_) /\
 ∀ ax,dJ objects l_=ax ->
 ((ax.2 != 0)=true ->
 Q false) /\
 ((ax.2 != 0)=false ->
 (k5 objects l_) /\
 ∀ ba,bf objects l_=ba ->
 sm ba.1 ->
 ∀ (_:sm ba.2),
 ∃ (I3:Int->Prop) (μ3:Int->Nat),I3 0/\∀ (v213:Int),I3 v213 ->
 ((decide (v213 < (ah.length:Int)))=true ->
 ((0:Int)≤v213/\v213 < (ah.length:Int)) /\
 ((decide (((gi ah v213).Oper) < 0))=true ->
 VC13_J5 Q I3 μ3 v213 true) /\
 ((decide (((gi ah v213).Oper) < 0))=false ->
 ((0:Int)≤v213/\v213 < (ah.length:Int)) /\
 VC13_J5 Q I3 μ3 v213 (decide (((gi ah v213).Oper)≥(ba.1.length:Int))))) /\
 ((decide (v213 < (ah.length:Int)))=false ->
 VC13_J1 objects ah Q ba))
def VC14_J1 (Q:Bool->Prop):Prop :=
 Q false
def VC14_J2 (Q:Bool->Prop) (I1:Int->Prop) (μ1:Int->Nat) (v123:Int) (v142:Bool):Prop :=
 (v142=true ->
 Q true) /\
 (v142=false ->
 I1 (IntKind.i64.wrap (v123+1))/\μ1 (IntKind.i64.wrap (v123+1)) < μ1 v123)
def VC14 (objects:List aj) (l_:List aG) (Q:Bool->Prop):Prop :=
 sm objects ->
 ∀ (_:sm l_),
 (k5 objects l_) /\
 ∀ ax,bf objects l_=ax ->
 sm ax.1 ->
 ∀ (_:sm ax.2),
 (yq (ax.1.length:Int)) /\
 ∀ da,dh (ax.1.length:Int)=da ->
 sm da ->
 ∃ (I1:Int->Prop) (μ1:Int->Nat),I1 0/\∀ (v123:Int),I1 v123 ->
 ((decide (v123 < (da.length:Int)))=true ->
 ((0:Int)≤v123/\v123 < (da.length:Int)) /\
 ∀ (_:sm (gi da v123)),
 (vi objects ax.1 ax.2 (gi da v123)) /\
 ∀ gk,dj objects ax.1 ax.2 (gi da v123)=gk ->
 sm gk.1 ->
 (gk.2=true ->
 (yn objects l_ gk.1) /\
 ∀ z3,eA objects l_ gk.1=z3 ->
 VC14_J2 Q I1 μ1 v123 z3) /\
 (gk.2=false ->
 VC14_J2 Q I1 μ1 v123 false)) /\
 ((decide (v123 < (da.length:Int)))=false ->
 VC14_J1 Q)
def VC27 (Q:aj->Prop):Prop :=
 Q (⟨2,2,0,[(⟨0,0,1,0⟩:bb),(⟨0,1,0,0⟩:bb),(⟨1,0,1,0⟩:bb),(⟨1,1,1,1⟩:bb)]⟩:aj)
def VC22 (object:Int) (Q:al->Prop):Prop :=
 ∀ ax,dC=ax ->
 sm ax.Rows ->
 ∀ df,dC=df ->
 sm df.Rows ->
 Q (⟨[ax,df],[(⟨0,(⟨1,1,0⟩:aw)⟩:bd),(⟨object,(⟨1,2,1⟩:aw)⟩:bd),(⟨0,(⟨2,1,0⟩:aw)⟩:bd),(⟨object,(⟨2,2,1⟩:aw)⟩:bd)]⟩:al)
def VC11_J1 (Q:((List aG))->Prop) (v101:List aG):Prop :=
 Q v101
def VC11 (h_:al) (Q:(List aG)->Prop):Prop :=
 sm h_.ae ->
 ∀ (_:sm h_.aq),
 ∃ (I1:(List aG)->Int->Prop) (μ1:(List aG)->Int->Nat),I1 [] 0/\∀ (v107:List aG) (v111:Int),I1 v107 v111 ->
 ((decide (v111 < (h_.aq.length:Int)))=true ->
 ((0:Int)≤v111/\v111 < (h_.aq.length:Int)) /\
 ((0:Int)≤v111/\v111 < (h_.aq.length:Int)) /\
 (v107.length+[(⟨(gi h_.aq v111).aA,((gi h_.aq v111).aW)⟩:aG)].length≤1099511627776) /\
 I1 (v107++[(⟨(gi h_.aq v111).aA,((gi h_.aq v111).aW)⟩:aG)]) (IntKind.i64.wrap (v111+1))/\μ1 (v107++[(⟨(gi h_.aq v111).aA,((gi h_.aq v111).aW)⟩:aG)]) (IntKind.i64.wrap (v111+1)) < μ1 v107 v111) /\
 ((decide (v111 < (h_.aq.length:Int)))=false ->
 VC11_J1 Q v107)
def VC7_J1 (Q:Int->Prop) (v101:Int):Prop :=
 Q v101
def VC7_J2 (I1:Int->Int->Prop) (μ1:Int->Int->Nat) (v102:Int) (v103:Int) (v106:Int):Prop :=
 I1 v106 (IntKind.i64.wrap (v103+1))/\μ1 v106 (IntKind.i64.wrap (v103+1)) < μ1 v102 v103
def VC7 (h_:al) (Q:Int->Prop):Prop :=
 sm h_.ae ->
 ∀ (_:sm h_.aq),
 ∃ (I1:Int->Int->Prop) (μ1:Int->Int->Nat),I1 0 0/\∀ (v102:Int) (v103:Int),I1 v102 v103 ->
 ((decide (v103 < (h_.aq.length:Int)))=true ->
 ((0:Int)≤v103/\v103 < (h_.aq.length:Int)) /\
 (((((gi h_.aq v103).aW).bo) == 1)=true ->
 VC7_J2 I1 μ1 v102 v103 (IntKind.i64.wrap (v102+1))) /\
 (((((gi h_.aq v103).aW).bo) == 1)=false ->
 VC7_J2 I1 μ1 v102 v103 v102)) /\
 ((decide (v103 < (h_.aq.length:Int)))=false ->
 VC7_J1 Q v102)
def VC6_J1 (Q:Bool->Prop):Prop :=
 Q true
def VC6 (h_:al) (Q:Bool->Prop):Prop :=
 sm h_.ae ->
 ∀ (_:sm h_.aq),
 (((decide ((h_.ae.length:Int) > 10)) || (decide ((h_.aq.length:Int) > 20)))=true ->
 Q false) /\
 (((decide ((h_.ae.length:Int) > 10)) || (decide ((h_.aq.length:Int) > 20)))=false ->
 ∃ (I1:Int->Prop) (μ1:Int->Nat),I1 0/\∀ (v101:Int),I1 v101 ->
 ((decide (v101 < (h_.ae.length:Int)))=true ->
 ((0:Int)≤v101/\v101 < (h_.ae.length:Int)) /\
 ∀ (_:sm ((gi h_.ae v101).Rows)),
 ∀ fT,hU (gi h_.ae v101)=fT ->
 ((!fT)=true ->
 Q false) /\
 ((!fT)=false ->
 I1 (IntKind.i64.wrap (v101+1))/\μ1 (IntKind.i64.wrap (v101+1)) < μ1 v101)) /\
 ((decide (v101 < (h_.ae.length:Int)))=false ->
 VC6_J1 Q))
def VC8 (Q:Bool->Prop):Prop :=
 ∀ ax,cG 0=ax ->
 sm ax.ae ->
 ∀ (_:sm ax.aq),
 (gl ax) /\
 ∀ da,dF ax=da ->
 ∀ lJ,cG 1=lJ ->
 sm lJ.ae ->
 ∀ (_:sm lJ.aq),
 (gl lJ) /\
 ∀ bO,dF lJ=bO ->
 ∀ gI,cG 0=gI ->
 sm gI.ae ->
 ∀ (_:sm gI.aq),
 (gl gI) /\
 ∀ cc,cV gI=cc ->
 sm cc.1 ->
 ∀ tH,cG 1=tH ->
 sm tH.ae ->
 ∀ (_:sm tH.aq),
 (gl tH) /\
 ∀ iE,cV tH=iE ->
 sm iE.1 ->
 ∀ tG,cG 0=tG ->
 sm tG.ae ->
 ∀ (_:sm tG.aq),
 (gl tG) /\
 ∀ fa,aE tG=fa ->
 (gl (⟨[],[]⟩:al)) /\
 ∀ js,aE (⟨[],[]⟩:al)=js ->
 ∀ gN,cG 0=gN ->
 sm gN.ae ->
 ∀ (_:sm gN.aq),
 ((0:Int)≤3/\3 < (gN.aq.length:Int)) /\
 (gl (⟨gN.ae,(gN.aq.set (3:Int).toNat (⟨1,(gi gN.aq 3).aW⟩:bd))⟩:al)) /\
 ∀ fS,aE (⟨gN.ae,(gN.aq.set (3:Int).toNat (⟨1,(gi gN.aq 3).aW⟩:bd))⟩:al)=fS ->
 ∀ tF,cG 1=tF ->
 sm tF.ae ->
 ∀ (_:sm tF.aq),
 (gl tF) /\
 ∀ gf,cN tF=gf ->
 sm gf.1 ->
 ∀ (_:sm gf.2),
 ∀ tE,cG 1=tE ->
 sm tE.ae ->
 ∀ (_:sm tE.aq),
 (yA tE 1) /\
 ∀ dk,eS tE 1=dk ->
 sm dk.aA.Rows ->
 ∀ (_:sm dk.aq),
 (((((da.1 && (da.2 == 0)) && (!bO.1)) && (bO.2 == 0)) && (cc.2 == 0))=true ->
 ∀ qJ,cG 0=qJ ->
 sm qJ.ae ->
 ∀ (_:sm qJ.aq),
 (vh qJ cc.1) /\
 ∀ jS,gn qJ cc.1=jS ->
 (((((((((jS && ((cc.1.length:Int) == 2)) && (iE.2 == 41)) && (fa.1 == 4)) && (fa.2 == 0)) && (js.2 == 2)) && (fS.1 == 3)) && (fS.2 == 32)) && ((gf.1.length:Int) == 2))=true ->
 ∀ rX,e7 gf.2 [0,1]=rX ->
 ((rX && ((dk.aq.length:Int) == 2))=true ->
 ∀ qI,dC=qI ->
 sm qI.Rows ->
 ∀ va,jf dk.aA qI=va ->
 (va=true ->
 ∀ qH,cG 0=qH ->
 sm qH.ae ->
 ∀ (_:sm qH.aq),
 (vh qH []) /\
 ∀ tD,gn qH []=tD ->
 Q (!tD)) /\
 (va=false ->
 Q false)) /\
 ((rX && ((dk.aq.length:Int) == 2))=false ->
 Q false)) /\
 (((((((((jS && ((cc.1.length:Int) == 2)) && (iE.2 == 41)) && (fa.1 == 4)) && (fa.2 == 0)) && (js.2 == 2)) && (fS.1 == 3)) && (fS.2 == 32)) && ((gf.1.length:Int) == 2))=false ->
 Q false)) /\
 (((((da.1 && (da.2 == 0)) && (!bO.1)) && (bO.2 == 0)) && (cc.2 == 0))=false ->
 Q false)
def VC4_J1 (h_:al) (Q:Bool->Prop) (v101:Bool):Prop :=
 (v101=true ->
 ∀ nC,fI=nC ->
 Q nC) /\
 (v101=false ->
 (gl (⟨h_.ae,h_.aq⟩:al)) /\
 ∀ df,dF (⟨h_.ae,h_.aq⟩:al)=df ->
 ((df.2 != 0)=true ->
 ((!df.1)=true ->
 ∀ cY,fI=cY ->
 Q cY) /\
 ((!df.1)=false ->
 Q false)) /\
 ((df.2 != 0)=false ->
 (l5 (⟨h_.ae,h_.aq⟩:al)) /\
 ∀ e8,eO (⟨h_.ae,h_.aq⟩:al)=e8 ->
 sm e8 ->
 (qL h_.ae e8) /\
 ∀ bO,fM h_.ae e8=bO ->
 ((df.1 == bO)=true ->
 ∀ gI,fI=gI ->
 Q gI) /\
 ((df.1 == bO)=false ->
 Q false)))
def VC4 (h_:al) (Q:Bool->Prop):Prop :=
 sm h_.ae ->
 ∀ (_:sm h_.aq),
 ∀ xj,hK h_=xj ->
 ((!xj)=true ->
 VC4_J1 h_ Q true) /\
 ((!xj)=false ->
 ∀ z4,fj h_=z4 ->
 VC4_J1 h_ Q (decide (z4 > 5)))
end Go.Proofs.YteahldlmkheleaaGreat
