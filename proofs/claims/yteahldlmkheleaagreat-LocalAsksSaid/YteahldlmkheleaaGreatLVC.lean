/- Definitions. -/
import Derived.Test.YteahldlmkheleaaGreatLSpec
set_option linter.all false
namespace Go.Proofs.YteahldlmkheleaaGreat
open Go Go.Sv
def VC21 (o_:ae) (Q:Bool->Prop):Prop :=
 sm o_.Rows ->
 Q (decide ((o_.Rows.length:Int)≤300))
def VC81 (n_:Int) (top:Int) (Q:Bool->Prop):Prop :=
 Q ((decide (n_≥0)) && (decide (n_ < top)))
def VC107_J1 (Q:Int->Prop):Prop :=
 Q 0
def VC107 (vals:List Int) (Q:Int->Prop):Prop :=
 sm vals ->
 ∃ (I1:Int->Prop) (μ1:Int->Nat),I1 0/\∀ (v102:Int),I1 v102 ->
 ((decide (v102 < (vals.length:Int)))=true ->
 ((0:Int)≤v102/\v102 < (vals.length:Int)) /\
 (((gi vals v102) != 0)=true ->
 Q (gi vals v102)) /\
 (((gi vals v102) != 0)=false ->
 I1 (IntKind.i64.wrap (v102+1))/\μ1 (IntKind.i64.wrap (v102+1)) < μ1 v102)) /\
 ((decide (v102 < (vals.length:Int)))=false ->
 VC107_J1 Q)
def VC113 (x_:Int) (Q:Bool->Prop):Prop :=
 Q (x_ != x_)
def VC108 (x_:Int) (y_:Int) (Q:Int->Prop):Prop :=
 ∀ ap,eO x_=ap ->
 ∀ aV,eO y_=aV ->
 (ap=true ->
 (aV=true ->
 Q 0) /\
 (aV=false ->
 Q (-1))) /\
 (ap=false ->
 (aV=true ->
 Q 1) /\
 (aV=false ->
 ((decide (x_ < y_))=true ->
 Q (-1)) /\
 ((decide (x_ < y_))=false ->
 ((decide (x_ > y_))=true ->
 Q 1) /\
 ((decide (x_ > y_))=false ->
 Q 0))))
def VC96 (a_:ba) (b_:ba) (Q:Int->Prop):Prop :=
 ∀ f9,dn a_.State b_.State=f9 ->
 ∀ fp,dn a_.Kind b_.Kind=fp ->
 ∀ ip,gm [f9,fp]=ip ->
 Q ip
def VC82_J2 (Q:Int->Prop) (v114:Bool):Prop :=
 (v114=true ->
 Q 32) /\
 (v114=false ->
 Q 0)
def VC82_J1 (o_:ae) (i_:Int) (Q:Int->Prop) (v104:Bool):Prop :=
 (v104=true ->
 Q 30) /\
 (v104=false ->
 ∀ iU,b0 ((gi o_.Rows i_).Kind) o_.aw=iU ->
 ((!iU)=true ->
 Q 31) /\
 ((!iU)=false ->
 ∀ fS,b0 ((gi o_.Rows i_).Result) 1000001=fS ->
 ((!fS)=true ->
 Q 7) /\
 ((!fS)=false ->
 ((decide (i_ > 0))=true ->
 ((0:Int)≤(IntKind.i64.wrap (i_ - 1))/\(IntKind.i64.wrap (i_ - 1)) < (o_.Rows.length:Int)) /\
 ∀ jS,gk (gi o_.Rows (IntKind.i64.wrap (i_ - 1))) (gi o_.Rows i_)=jS ->
 VC82_J2 Q (decide (jS≥0))) /\
 ((decide (i_ > 0))=false ->
 VC82_J2 Q false))))
def VC82 (o_:ae) (i_:Int) (Q:Int->Prop):Prop :=
 sm o_.Rows ->
 ((0:Int)≤i_/\i_ < (o_.Rows.length:Int)) /\
 ∀ wO,b0 ((gi o_.Rows i_).State) o_.ar=wO ->
 ((!wO)=true ->
 VC82_J1 o_ i_ Q true) /\
 ((!wO)=false ->
 ∀ jB,b0 ((gi o_.Rows i_).Next) o_.ar=jB ->
 VC82_J1 o_ i_ Q (!jB))
def VC53_J2 (o_:ae) (Q:(Int × Int)->Prop):Prop :=
 Q ((o_.Rows.length:Int),0)
def VC53_J1 (o_:ae) (Q:(Int × Int)->Prop) (v101:Bool):Prop :=
 (v101=true ->
 Q ((-1),2)) /\
 (v101=false ->
 ∃ (I1:Int->Prop) (μ1:Int->Nat),I1 0/\∀ (v104:Int),I1 v104 ->
 ((decide (v104 < (o_.Rows.length:Int)))=true ->
 (preRow o_ v104) /\
 ∀ iU,hX o_ v104=iU ->
 ((iU != 0)=true ->
 Q (v104,iU)) /\
 ((iU != 0)=false ->
 I1 (IntKind.i64.wrap (v104+1))/\μ1 (IntKind.i64.wrap (v104+1)) < μ1 v104)) /\
 ((decide (v104 < (o_.Rows.length:Int)))=false ->
 VC53_J2 o_ Q))
def VC53 (o_:ae) (Q:Int × Int->Prop):Prop :=
 sm o_.Rows ->
 ∀ d7,b0 (IntKind.i64.wrap (o_.ar - 1)) 32=d7 ->
 ((!d7)=true ->
 VC53_J1 o_ Q true) /\
 ((!d7)=false ->
 ∀ d8,b0 (IntKind.i64.wrap (o_.aw - 1)) 64=d8 ->
 ((!d8)=true ->
 VC53_J1 o_ Q true) /\
 ((!d8)=false ->
 ∀ jk,b0 o_.aC o_.ar=jk ->
 VC53_J1 o_ Q (!jk)))
def VC85 (o_:ae) (state:Int) (Q:Int->Prop):Prop :=
 sm o_.Rows ->
 (kx o_) /\
 ∀ ap,bp o_=ap ->
 ((ap.2 != 0)=true ->
 Q 2) /\
 ((ap.2 != 0)=false ->
 (((decide (state < 0)) || (decide (state≥o_.ar)))=true ->
 Q 30) /\
 (((decide (state < 0)) || (decide (state≥o_.ar)))=false ->
 Q 0))
def VC86 (o_:ae) (l_:List ab) (state:Int) (Q:(List ab) × (List (Int × Int)) × ae × Int->Prop):Prop :=
 sm o_.Rows ->
 ∀ (_:sm l_),
 Q (l_,([]:List (Int × Int)),o_,state)
def VC110 (r_:ba) (am:Int) (av:Int) (Q:Bool->Prop):Prop :=
 Q (r_.State == am && (r_.Kind == av && (r_.Next == r_.Next && (r_.Result == r_.Result && true))))
def VC111_110_J1 (Q:Int->Prop):Prop :=
 Q (-1)
def VC111_110 (s_:List ba) (am:Int) (av:Int) (Q:Int->Prop):Prop :=
 sm s_ ->
 ∃ (I1:Int->Prop) (μ1:Int->Nat),I1 0/\∀ (v102:Int),I1 v102 ->
 ((decide (v102 < (s_.length:Int)))=true ->
 ((0:Int)≤v102/\v102 < (s_.length:Int)) /\
 ∀ iU,gq (gi s_ v102) am av=iU ->
 (iU=true ->
 Q v102) /\
 (iU=false ->
 I1 (IntKind.i64.wrap (v102+1))/\μ1 (IntKind.i64.wrap (v102+1)) < μ1 v102)) /\
 ((decide (v102 < (s_.length:Int)))=false ->
 VC111_110_J1 Q)
def VC103 (o_:ae) (state:Int) (kind:Int) (Q:Int × Int × Bool->Prop):Prop :=
 sm o_.Rows ->
 ∀ ap,bg o_.Rows state kind=ap ->
 ((decide (ap < 0))=true ->
 Q (0,0,false)) /\
 ((decide (ap < 0))=false ->
 ((0:Int)≤ap/\ap < (o_.Rows.length:Int)) /\
 ((0:Int)≤ap/\ap < (o_.Rows.length:Int)) /\
 Q ((gi o_.Rows ap).Next,(gi o_.Rows ap).Result,true))
def VC109 (t_:gU) (state:Int) (kind:Int) (Q:Int × Int × Bool->Prop):Prop :=
 sm t_.o.Rows ->
 ∀ ap,cu t_.o state kind=ap ->
 Q (ap.1,ap.2.1,ap.2.2)
def VC98 (o_:ae) (state:Int) (kind:Int) (result:Int) (Q:Int × Int->Prop):Prop :=
 sm o_.Rows ->
 (((decide (state < 0)) || (decide (state≥o_.ar)))=true ->
 Q (0,30)) /\
 (((decide (state < 0)) || (decide (state≥o_.ar)))=false ->
 ∀ ap,eQ (⟨o_⟩:gU) state kind=ap ->
 (((!ap.2.2) || (ap.2.1 != result))=true ->
 Q (0,40)) /\
 (((!ap.2.2) || (ap.2.1 != result))=false ->
 Q (ap.1,0)))
def VC97_J1 (p_:aa) (av:List (Int × Int)) (bC:Int) (Q:(Int × Int × (List (Int × Int)) × Int)->Prop) (dG:Int × Int) (v112:Int):Prop :=
 ((v112 != 0)=true ->
 Q (0,v112,dk av p_.Oper (IntKind.i64.wrap (((aF av p_.Oper).getD 0)+1)),bC)) /\
 ((v112 != 0)=false ->
 Q (dG.1,0,dk av p_.Oper (IntKind.i64.wrap (((aF av p_.Oper).getD 0)+1)),dG.1))
def VC97 (p_:aa) (am:List ab) (av:List (Int × Int)) (aN:ae) (bC:Int) (Q:Int × Int × (List (Int × Int)) × Int->Prop):Prop :=
 sm am ->
 ∀ (_:sm aN.Rows),
 (((decide (p_.Oper < 0)) || (decide (p_.Oper≥(am.length:Int))))=true ->
 Q (0,2,av,bC)) /\
 (((decide (p_.Oper < 0)) || (decide (p_.Oper≥(am.length:Int))))=false ->
 ((decide (((aF av p_.Oper).getD 0) > 0))=true ->
 Q (0,21,av,bC)) /\
 ((decide (((aF av p_.Oper).getD 0) > 0))=false ->
 ((0:Int)≤p_.Oper/\p_.Oper < (am.length:Int)) /\
 ∀ dG,ix aN bC ((gi am p_.Oper).Kind) p_.Result=dG ->
 ((((dG.2 == 0) && (((gi am p_.Oper).End) != (-1))) && (((gi am p_.Oper).Result) != p_.Result))=true ->
 VC97_J1 p_ av bC Q dG 40) /\
 ((((dG.2 == 0) && (((gi am p_.Oper).End) != (-1))) && (((gi am p_.Oper).Result) != p_.Result))=false ->
 VC97_J1 p_ av bC Q dG dG.2)))
def VC62_J1 (ac:List aa) (Q:(Int × Int × Int)->Prop) (v126:Int):Prop :=
 Q (v126,(ac.length:Int),0)
def VC62 (o_:ae) (l_:List ab) (state:Int) (ac:List aa) (Q:Int × Int × Int->Prop):Prop :=
 sm o_.Rows ->
 ∀ (_:sm l_),
 sm ac ->
 (yc o_ state) /\
 ∀ ap,eK o_ state=ap ->
 ((ap != 0)=true ->
 Q (0,(-1),ap)) /\
 ((ap != 0)=false ->
 ∀ aV,ep o_ l_ state=aV ->
 sm aV.1 ->
 ∀ (_:sm aV.2.2.1.Rows),
 ∃ (I1:Int->Int->(List (Int × Int))->Int->Prop) (μ1:Int->Int->(List (Int × Int))->Int->Nat),I1 state 0 aV.2.1 aV.2.2.2/\∀ (v128:Int) (v130:Int) (v132:List (Int × Int)) (v135:Int),I1 v128 v130 v132 v135 ->
 ((decide (v130 < (ac.length:Int)))=true ->
 ((0:Int)≤v130/\v130 < (ac.length:Int)) /\
 ∀ bV,db (gi ac v130) aV.1 v132 aV.2.2.1 v135=bV ->
 ((bV.2.1 != 0)=true ->
 Q (0,v130,bV.2.1)) /\
 ((bV.2.1 != 0)=false ->
 I1 bV.1 (IntKind.i64.wrap (v130+1)) bV.2.2.1 bV.2.2.2/\μ1 bV.1 (IntKind.i64.wrap (v130+1)) bV.2.2.1 bV.2.2.2 < μ1 v128 v130 v132 v135)) /\
 ((decide (v130 < (ac.length:Int)))=false ->
 VC62_J1 ac Q v128))
def VC33 (o_:ae) (l_:List ab) (ac:List aa) (Q:Int × Int × Int->Prop):Prop :=
 sm o_.Rows ->
 ∀ (_:sm l_),
 sm ac ->
 (yb o_ l_ o_.aC ac) /\
 ∀ ap,jc o_ l_ o_.aC ac=ap ->
 Q (ap.1,ap.2.1,ap.2.2)
def VC87_J1 (Q:((List (Int × Int)))->Prop) (v105:List (Int × Int)):Prop :=
 Q v105
def VC87 (ac:List aa) (Q:(List (Int × Int))->Prop):Prop :=
 sm ac ->
 ∃ (I1:Int->(List (Int × Int))->Prop) (μ1:Int->(List (Int × Int))->Nat),I1 0 ([]:List (Int × Int))/\∀ (v108:Int) (v109:List (Int × Int)),I1 v108 v109 ->
 ((decide (v108 < (ac.length:Int)))=true ->
 ((0:Int)≤v108/\v108 < (ac.length:Int)) /\
 I1 (IntKind.i64.wrap (v108+1)) (dk v109 ((gi ac v108).Oper) (IntKind.i64.wrap (((aF v109 ((gi ac v108).Oper)).getD 0)+1)))/\μ1 (IntKind.i64.wrap (v108+1)) (dk v109 ((gi ac v108).Oper) (IntKind.i64.wrap (((aF v109 ((gi ac v108).Oper)).getD 0)+1))) < μ1 v108 v109) /\
 ((decide (v108 < (ac.length:Int)))=false ->
 VC87_J1 Q v109)
def VC99 (i_:Int) (am:List (Int × Int)) (Q:Bool->Prop):Prop :=
 Q (((aF am i_).getD 0) == 0)
def VC64_J1 (Q:((List Int))->Prop) (v109:List Int):Prop :=
 Q v109
def VC64_J2 (I1:(List Int)->Int->Prop) (μ1:(List Int)->Int->Nat) (v115:List Int) (v120:Int) (v122:List Int):Prop :=
 I1 v122 (IntKind.i64.wrap (v120+1))/\μ1 v122 (IntKind.i64.wrap (v120+1)) < μ1 v115 v120
def VC64_J3 (I1:(List Int)->Int->Prop) (μ1:(List Int)->Int->Nat) (v115:List Int) (v120:Int) (v131:List Int) (v136:Bool):Prop :=
 (v136=true ->
 (v131.length+[v120].length≤1099511627776) /\
 VC64_J2 I1 μ1 v115 v120 (v131++[v120])) /\
 (v136=false ->
 VC64_J2 I1 μ1 v115 v120 v131)
def VC64 (l_:List ab) (ac:List aa) (pending:Bool) (Q:(List Int)->Prop):Prop :=
 sm l_ ->
 ∀ (_:sm ac),
 ∀ ap,fk ac=ap ->
 ∃ (I1:(List Int)->Int->Prop) (μ1:(List Int)->Int->Nat),I1 [] 0/\∀ (v115:List Int) (v120:Int),I1 v115 v120 ->
 ((decide (v120 < (l_.length:Int)))=true ->
 ((0:Int)≤v120/\v120 < (l_.length:Int)) /\
 (((((gi l_ v120).End) == (-1)) == pending)=true ->
 ∀ nN,fg v120 ap=nN ->
 VC64_J3 I1 μ1 v115 v120 v115 nN) /\
 (((((gi l_ v120).End) == (-1)) == pending)=false ->
 VC64_J3 I1 μ1 v115 v120 v115 false)) /\
 ((decide (v120 < (l_.length:Int)))=false ->
 VC64_J1 Q v115)
def VC35 (l_:List ab) (ac:List aa) (Q:(List Int)->Prop):Prop :=
 sm l_ ->
 ∀ (_:sm ac),
 (uP l_ ac false) /\
 ∀ ap,en l_ ac false=ap ->
 sm ap ->
 Q ap
def VC63 (a_:ab) (b_:ab) (Q:Bool->Prop):Prop :=
 Q ((decide (a_.End≥0)) && (decide (a_.End < b_.aE)))
def VC34_J1 (Q:Int->Prop):Prop :=
 Q (-1)
def VC34_J2 (I1:(List (Int × Int))->Int->Prop) (μ1:(List (Int × Int))->Int->Nat) (v106:List (Int × Int)) (v109:Int) (v111:List (Int × Int)):Prop :=
 I1 v111 (IntKind.i64.wrap (v109+1))/\μ1 v111 (IntKind.i64.wrap (v109+1)) < μ1 v106 v109
def VC34_J3 (ac:List aa) (I1:(List (Int × Int))->Int->Prop) (μ1:(List (Int × Int))->Int->Nat) (v106:List (Int × Int)) (v109:Int):Prop :=
 VC34_J2 I1 μ1 v106 v109 (dk v106 ((gi ac v109).Oper) (IntKind.i64.wrap (((aF v106 ((gi ac v109).Oper)).getD 0)+1)))
def VC34_J4 (Q:Int->Prop) (v109:Int) (I2:Int->Prop) (μ2:Int->Nat) (v127:Int) (v135:Bool):Prop :=
 (v135=true ->
 Q v109) /\
 (v135=false ->
 I2 (IntKind.i64.wrap (v127+1))/\μ2 (IntKind.i64.wrap (v127+1)) < μ2 v127)
def VC34 (l_:List ab) (ac:List aa) (Q:Int->Prop):Prop :=
 sm l_ ->
 ∀ (_:sm ac),
 ∃ (I1:(List (Int × Int))->Int->Prop) (μ1:(List (Int × Int))->Int->Nat),I1 ([]:List (Int × Int)) 0/\∀ (v106:List (Int × Int)) (v109:Int),I1 v106 v109 ->
 ((decide (v109 < (ac.length:Int)))=true ->
 ((0:Int)≤v109/\v109 < (ac.length:Int)) /\
 (((decide (((gi ac v109).Oper) < 0)) || (decide (((gi ac v109).Oper)≥(l_.length:Int))))=true ->
 VC34_J2 I1 μ1 v106 v109 v106) /\
 (((decide (((gi ac v109).Oper) < 0)) || (decide (((gi ac v109).Oper)≥(l_.length:Int))))=false ->
 ∃ (I2:Int->Prop) (μ2:Int->Nat),I2 0/\∀ (v127:Int),I2 v127 ->
 ((decide (v127 < (l_.length:Int)))=true ->
 ((0:Int)≤v127/\v127 < (l_.length:Int)) /\
 ((0:Int)≤((gi ac v109).Oper)/\((gi ac v109).Oper) < (l_.length:Int)) /\
 ∀ gc,aZ (gi l_ v127) (gi l_ ((gi ac v109).Oper))=gc ->
 (gc=true ->
 VC34_J4 Q v109 I2 μ2 v127 (((aF v106 v127).getD 0) == 0)) /\
 (gc=false ->
 VC34_J4 Q v109 I2 μ2 v127 false)) /\
 ((decide (v127 < (l_.length:Int)))=false ->
 VC34_J3 ac I1 μ1 v106 v109))) /\
 ((decide (v109 < (ac.length:Int)))=false ->
 VC34_J1 Q)
def VC106 (o_:ab) (Q:Bool->Prop):Prop :=
 ((o_.End == (-1))=true ->
 Q (o_.Result == (-1))) /\
 ((o_.End == (-1))=false ->
 Q ((((decide (o_.End > o_.aE)) && (decide (o_.End≤9999))) && (decide (o_.Result≥0))) && (decide (o_.Result≤1000000))))
def VC95 (o_:ab) (Q:Int->Prop):Prop :=
 (((((decide (o_.aj < 1)) || (decide (o_.aj > 1000))) || (decide (o_.aE < 0))) || (decide (o_.aE > 9999)))=true ->
 Q 2) /\
 (((((decide (o_.aj < 1)) || (decide (o_.aj > 1000))) || (decide (o_.aE < 0))) || (decide (o_.aE > 9999)))=false ->
 (((decide (o_.Kind < 0)) || (decide (o_.Kind≥64)))=true ->
 Q 31) /\
 (((decide (o_.Kind < 0)) || (decide (o_.Kind≥64)))=false ->
 ∀ ap,dR o_=ap ->
 ((!ap)=true ->
 Q 7) /\
 ((!ap)=false ->
 Q 0)))
def VC80_J1 (l_:List ab) (Q:(Int × Int)->Prop):Prop :=
 Q ((l_.length:Int),0)
def VC80_J2 (l_:List ab) (I1:(List (Int × Int))->(List (Int × ab))->Int->Prop) (μ1:(List (Int × Int))->(List (Int × ab))->Int->Nat) (v111:List (Int × Int)) (v113:List (Int × ab)) (v116:Int) (v118:List (Int × Int)):Prop :=
 I1 v118 (dk v113 ((gi l_ v116).aj) (gi l_ v116)) (IntKind.i64.wrap (v116+1))/\μ1 v118 (dk v113 ((gi l_ v116).aj) (gi l_ v116)) (IntKind.i64.wrap (v116+1)) < μ1 v111 v113 v116
def VC80_J4 (l_:List ab) (Q:(Int × Int)->Prop) (I1:(List (Int × Int))->(List (Int × ab))->Int->Prop) (μ1:(List (Int × Int))->(List (Int × ab))->Int->Nat) (v111:List (Int × Int)) (v113:List (Int × ab)) (v116:Int) (v139:Bool):Prop :=
 (v139=true ->
 Q (v116,33)) /\
 (v139=false ->
 ((decide (((gi l_ v116).End)≥0))=true ->
 VC80_J2 l_ I1 μ1 v111 v113 v116 (dk (dk v111 ((gi l_ v116).aE) (IntKind.i64.wrap (((aF v111 ((gi l_ v116).aE)).getD 0)+1))) ((gi l_ v116).End) (IntKind.i64.wrap (((aF (dk v111 ((gi l_ v116).aE) (IntKind.i64.wrap (((aF v111 ((gi l_ v116).aE)).getD 0)+1))) ((gi l_ v116).End)).getD 0)+1)))) /\
 ((decide (((gi l_ v116).End)≥0))=false ->
 VC80_J2 l_ I1 μ1 v111 v113 v116 (dk v111 ((gi l_ v116).aE) (IntKind.i64.wrap (((aF v111 ((gi l_ v116).aE)).getD 0)+1)))))
def VC80_J3 (l_:List ab) (Q:(Int × Int)->Prop) (I1:(List (Int × Int))->(List (Int × ab))->Int->Prop) (μ1:(List (Int × Int))->(List (Int × ab))->Int->Nat) (v111:List (Int × Int)) (v113:List (Int × ab)) (v116:Int) (v133:Bool):Prop :=
 (v133=true ->
 Q (v116,32)) /\
 (v133=false ->
 (((aF v113 ((gi l_ v116).aj)).isSome)=true ->
 ∀ lc,aZ ((aF v113 ((gi l_ v116).aj)).getD (⟨0,0,0,0,0⟩:ab)) (gi l_ v116)=lc ->
 VC80_J4 l_ Q I1 μ1 v111 v113 v116 (!lc)) /\
 (((aF v113 ((gi l_ v116).aj)).isSome)=false ->
 VC80_J4 l_ Q I1 μ1 v111 v113 v116 false))
def VC80 (l_:List ab) (Q:Int × Int->Prop):Prop :=
 sm l_ ->
 ((decide ((l_.length:Int) > 5000))=true ->
 Q (0,3)) /\
 ((decide ((l_.length:Int) > 5000))=false ->
 ∃ (I1:(List (Int × Int))->(List (Int × ab))->Int->Prop) (μ1:(List (Int × Int))->(List (Int × ab))->Int->Nat),I1 ([]:List (Int × Int)) ([]:List (Int × ab)) 0/\∀ (v111:List (Int × Int)) (v113:List (Int × ab)) (v116:Int),I1 v111 v113 v116 ->
 ((decide (v116 < (l_.length:Int)))=true ->
 ((0:Int)≤v116/\v116 < (l_.length:Int)) /\
 ∀ bI,cQ (gi l_ v116)=bI ->
 ((bI != 0)=true ->
 Q (v116,bI)) /\
 ((bI != 0)=false ->
 ((decide (v116 > 0))=true ->
 ((0:Int)≤(IntKind.i64.wrap (v116 - 1))/\(IntKind.i64.wrap (v116 - 1)) < (l_.length:Int)) /\
 ((decide (((gi l_ v116).aE)≤((gi l_ (IntKind.i64.wrap (v116 - 1))).aE)))=true ->
 VC80_J3 l_ Q I1 μ1 v111 v113 v116 true) /\
 ((decide (((gi l_ v116).aE)≤((gi l_ (IntKind.i64.wrap (v116 - 1))).aE)))=false ->
 ((decide (((aF v111 ((gi l_ v116).aE)).getD 0) > 0))=true ->
 VC80_J3 l_ Q I1 μ1 v111 v113 v116 true) /\
 ((decide (((aF v111 ((gi l_ v116).aE)).getD 0) > 0))=false ->
 ((decide (((gi l_ v116).End)≥0))=true ->
 VC80_J3 l_ Q I1 μ1 v111 v113 v116 (decide (((aF v111 ((gi l_ v116).End)).getD 0) > 0))) /\
 ((decide (((gi l_ v116).End)≥0))=false ->
 VC80_J3 l_ Q I1 μ1 v111 v113 v116 false)))) /\
 ((decide (v116 > 0))=false ->
 ((decide (((aF v111 ((gi l_ v116).aE)).getD 0) > 0))=true ->
 VC80_J3 l_ Q I1 μ1 v111 v113 v116 true) /\
 ((decide (((aF v111 ((gi l_ v116).aE)).getD 0) > 0))=false ->
 ((decide (((gi l_ v116).End)≥0))=true ->
 VC80_J3 l_ Q I1 μ1 v111 v113 v116 (decide (((aF v111 ((gi l_ v116).End)).getD 0) > 0))) /\
 ((decide (((gi l_ v116).End)≥0))=false ->
 VC80_J3 l_ Q I1 μ1 v111 v113 v116 false))))) /\
 ((decide (v116 < (l_.length:Int)))=false ->
 VC80_J1 l_ Q))
def VC51 (o_:ae) (l_:List ab) (ac:List aa) (Q:Int × Int->Prop):Prop :=
 sm o_.Rows ->
 ∀ (_:sm l_),
 sm ac ->
 (kx o_) /\
 ∀ ap,bp o_=ap ->
 ∀ aV,bZ l_=aV ->
 (((ap.2 != 0) || (aV.2 != 0))=true ->
 Q ((-1),2)) /\
 (((ap.2 != 0) || (aV.2 != 0))=false ->
 (lk o_ l_ ac) /\
 ∀ bv,cg o_ l_ ac=bv ->
 ((bv.2.2 != 0)=true ->
 Q (bv.2.1,bv.2.2)) /\
 ((bv.2.2 != 0)=false ->
 ∀ pu,cA l_ ac=pu ->
 ((decide (pu≥0))=true ->
 Q (pu,42)) /\
 ((decide (pu≥0))=false ->
 (ql l_ ac) /\
 ∀ jT,b7 l_ ac=jT ->
 sm jT ->
 ((decide ((jT.length:Int) > 0))=true ->
 ((0:Int)≤0/\0 < (jT.length:Int)) /\
 Q (gi jT 0,41)) /\
 ((decide ((jT.length:Int) > 0))=false ->
 Q ((ac.length:Int),0)))))
def VC20 (o_:ae) (l_:List ab) (ac:List aa) (Q:Bool->Prop):Prop :=
 sm o_.Rows ->
 ∀ (_:sm l_),
 sm ac ->
 (lk o_ l_ ac) /\
 ∀ ap,eH o_ l_ ac=ap ->
 Q (ap.2 == 0)
def VC66_J1 (Q:Int->Prop):Prop :=
 Q (-1)
def VC66 (ac:List aa) (i_:Int) (Q:Int->Prop):Prop :=
 sm ac ->
 ∃ (I1:Int->Prop) (μ1:Int->Nat),I1 0/\∀ (v102:Int),I1 v102 ->
 ((decide (v102 < (ac.length:Int)))=true ->
 ((0:Int)≤v102/\v102 < (ac.length:Int)) /\
 ((((gi ac v102).Oper) == i_)=true ->
 Q v102) /\
 ((((gi ac v102).Oper) == i_)=false ->
 I1 (IntKind.i64.wrap (v102+1))/\μ1 (IntKind.i64.wrap (v102+1)) < μ1 v102)) /\
 ((decide (v102 < (ac.length:Int)))=false ->
 VC66_J1 Q)
def VC68_J1 (Q:(Int × Int × Bool)->Prop):Prop :=
 Q (0,0,false)
def VC68_J2 (o_:ae) (Q:(Int × Int × Bool)->Prop) (I1:Int->Prop) (μ1:Int->Nat) (v101:Int) (v103:Bool):Prop :=
 (v103=true ->
 ((0:Int)≤v101/\v101 < (o_.Rows.length:Int)) /\
 ((0:Int)≤v101/\v101 < (o_.Rows.length:Int)) /\
 Q ((gi o_.Rows v101).Next,(gi o_.Rows v101).Result,true)) /\
 (v103=false ->
 I1 (IntKind.i64.wrap (v101+1))/\μ1 (IntKind.i64.wrap (v101+1)) < μ1 v101)
def VC68 (o_:ae) (state:Int) (kind:Int) (Q:Int × Int × Bool->Prop):Prop :=
 sm o_.Rows ->
 ∃ (I1:Int->Prop) (μ1:Int->Nat),I1 0/\∀ (v101:Int),I1 v101 ->
 ((decide (v101 < (o_.Rows.length:Int)))=true ->
 ((0:Int)≤v101/\v101 < (o_.Rows.length:Int)) /\
 ((((gi o_.Rows v101).State) == state)=true ->
 ((0:Int)≤v101/\v101 < (o_.Rows.length:Int)) /\
 VC68_J2 o_ Q I1 μ1 v101 (((gi o_.Rows v101).Kind) == kind)) /\
 ((((gi o_.Rows v101).State) == state)=false ->
 VC68_J2 o_ Q I1 μ1 v101 false)) /\
 ((decide (v101 < (o_.Rows.length:Int)))=false ->
 VC68_J1 Q)
def VC65 (o_:ae) (state:Int) (kind:Int) (result:Int) (Q:Int × Int->Prop):Prop :=
 sm o_.Rows ->
 (((decide (state < 0)) || (decide (state≥o_.ar)))=true ->
 Q (0,30)) /\
 (((decide (state < 0)) || (decide (state≥o_.ar)))=false ->
 ∀ ap,b9 o_ state kind=ap ->
 (((!ap.2.2) || (ap.2.1 != result))=true ->
 Q (0,40)) /\
 (((!ap.2.2) || (ap.2.1 != result))=false ->
 Q (ap.1,0)))
def VC58_J1 (o_:ae) (Q:(Int × Int)->Prop):Prop :=
 Q ((o_.Rows.length:Int),0)
def VC58_J2 (Q:(Int × Int)->Prop) (I1:Int->Prop) (μ1:Int->Nat) (v102:Int) (v107:Bool):Prop :=
 (v107=true ->
 Q (v102,32)) /\
 (v107=false ->
 I1 (IntKind.i64.wrap (v102+1))/\μ1 (IntKind.i64.wrap (v102+1)) < μ1 v102)
def VC58 (o_:ae) (Q:Int × Int->Prop):Prop :=
 sm o_.Rows ->
 (((((((decide (o_.ar < 1)) || (decide (o_.ar > 32))) || (decide (o_.aw < 1))) || (decide (o_.aw > 64))) || (decide (o_.aC < 0))) || (decide (o_.aC≥o_.ar)))=true ->
 Q ((-1),2)) /\
 (((((((decide (o_.ar < 1)) || (decide (o_.ar > 32))) || (decide (o_.aw < 1))) || (decide (o_.aw > 64))) || (decide (o_.aC < 0))) || (decide (o_.aC≥o_.ar)))=false ->
 ∃ (I1:Int->Prop) (μ1:Int->Nat),I1 0/\∀ (v102:Int),I1 v102 ->
 ((decide (v102 < (o_.Rows.length:Int)))=true ->
 ((0:Int)≤v102/\v102 < (o_.Rows.length:Int)) /\
 (((((decide (((gi o_.Rows v102).State) < 0)) || (decide (((gi o_.Rows v102).State)≥o_.ar))) || (decide (((gi o_.Rows v102).Next) < 0))) || (decide (((gi o_.Rows v102).Next)≥o_.ar)))=true ->
 Q (v102,30)) /\
 (((((decide (((gi o_.Rows v102).State) < 0)) || (decide (((gi o_.Rows v102).State)≥o_.ar))) || (decide (((gi o_.Rows v102).Next) < 0))) || (decide (((gi o_.Rows v102).Next)≥o_.ar)))=false ->
 (((decide (((gi o_.Rows v102).Kind) < 0)) || (decide (((gi o_.Rows v102).Kind)≥o_.aw)))=true ->
 Q (v102,31)) /\
 (((decide (((gi o_.Rows v102).Kind) < 0)) || (decide (((gi o_.Rows v102).Kind)≥o_.aw)))=false ->
 (((decide (((gi o_.Rows v102).Result) < 0)) || (decide (((gi o_.Rows v102).Result) > 1000000)))=true ->
 Q (v102,7)) /\
 (((decide (((gi o_.Rows v102).Result) < 0)) || (decide (((gi o_.Rows v102).Result) > 1000000)))=false ->
 ((decide (v102 > 0))=true ->
 ((0:Int)≤(IntKind.i64.wrap (v102 - 1))/\(IntKind.i64.wrap (v102 - 1)) < (o_.Rows.length:Int)) /\
 ((decide (((gi o_.Rows (IntKind.i64.wrap (v102 - 1))).State) > ((gi o_.Rows v102).State)))=true ->
 VC58_J2 Q I1 μ1 v102 true) /\
 ((decide (((gi o_.Rows (IntKind.i64.wrap (v102 - 1))).State) > ((gi o_.Rows v102).State)))=false ->
 ((0:Int)≤(IntKind.i64.wrap (v102 - 1))/\(IntKind.i64.wrap (v102 - 1)) < (o_.Rows.length:Int)) /\
 ((((gi o_.Rows (IntKind.i64.wrap (v102 - 1))).State) == ((gi o_.Rows v102).State))=true ->
 ((0:Int)≤(IntKind.i64.wrap (v102 - 1))/\(IntKind.i64.wrap (v102 - 1)) < (o_.Rows.length:Int)) /\
 VC58_J2 Q I1 μ1 v102 (decide (((gi o_.Rows (IntKind.i64.wrap (v102 - 1))).Kind)≥((gi o_.Rows v102).Kind)))) /\
 ((((gi o_.Rows (IntKind.i64.wrap (v102 - 1))).State) == ((gi o_.Rows v102).State))=false ->
 VC58_J2 Q I1 μ1 v102 false))) /\
 ((decide (v102 > 0))=false ->
 VC58_J2 Q I1 μ1 v102 false))))) /\
 ((decide (v102 < (o_.Rows.length:Int)))=false ->
 VC58_J1 o_ Q))
def VC36_J1 (ac:List aa) (Q:(Int × Int × Int)->Prop) (v105:Int):Prop :=
 Q (v105,(ac.length:Int),0)
def VC36_J3 (Q:(Int × Int × Int)->Prop) (I1:Int->Int->Prop) (μ1:Int->Int->Nat) (v108:Int) (v110:Int) (bI:Int × Int) (v131:Bool):Prop :=
 (v131=true ->
 Q (0,v110,40)) /\
 (v131=false ->
 I1 bI.1 (IntKind.i64.wrap (v110+1))/\μ1 bI.1 (IntKind.i64.wrap (v110+1)) < μ1 v108 v110)
def VC36_J2 (o_:ae) (l_:List ab) (ac:List aa) (Q:(Int × Int × Int)->Prop) (I1:Int->Int->Prop) (μ1:Int->Int->Nat) (v108:Int) (v110:Int):Prop :=
 ((0:Int)≤((gi ac v110).Oper)/\((gi ac v110).Oper) < (l_.length:Int)) /\
 ∀ bI,cX o_ v108 ((gi l_ ((gi ac v110).Oper)).Kind) ((gi ac v110).Result)=bI ->
 ((bI.2 != 0)=true ->
 Q (0,v110,bI.2)) /\
 ((bI.2 != 0)=false ->
 ((0:Int)≤((gi ac v110).Oper)/\((gi ac v110).Oper) < (l_.length:Int)) /\
 ((((gi l_ ((gi ac v110).Oper)).End) != (-1))=true ->
 ((0:Int)≤((gi ac v110).Oper)/\((gi ac v110).Oper) < (l_.length:Int)) /\
 VC36_J3 Q I1 μ1 v108 v110 bI (((gi l_ ((gi ac v110).Oper)).Result) != ((gi ac v110).Result))) /\
 ((((gi l_ ((gi ac v110).Oper)).End) != (-1))=false ->
 VC36_J3 Q I1 μ1 v108 v110 bI false))
def VC36 (o_:ae) (l_:List ab) (state:Int) (ac:List aa) (Q:Int × Int × Int->Prop):Prop :=
 sm o_.Rows ->
 ∀ (_:sm l_),
 sm ac ->
 ∀ ap,cJ o_=ap ->
 ((ap.2 != 0)=true ->
 Q (0,(-1),2)) /\
 ((ap.2 != 0)=false ->
 (((decide (state < 0)) || (decide (state≥o_.ar)))=true ->
 Q (0,(-1),30)) /\
 (((decide (state < 0)) || (decide (state≥o_.ar)))=false ->
 ∃ (I1:Int->Int->Prop) (μ1:Int->Int->Nat),I1 state 0/\∀ (v108:Int) (v110:Int),I1 v108 v110 ->
 ((decide (v110 < (ac.length:Int)))=true ->
 ((0:Int)≤v110/\v110 < (ac.length:Int)) /\
 (((decide (((gi ac v110).Oper) < 0)) || (decide (((gi ac v110).Oper)≥(l_.length:Int))))=true ->
 Q (0,v110,2)) /\
 (((decide (((gi ac v110).Oper) < 0)) || (decide (((gi ac v110).Oper)≥(l_.length:Int))))=false ->
 ∃ (I2:Int->Prop) (μ2:Int->Nat),I2 0/\∀ (v149:Int),I2 v149 ->
 ((decide (v149 < v110))=true ->
 ((0:Int)≤v149/\v149 < (ac.length:Int)) /\
 ((((gi ac v149).Oper) == ((gi ac v110).Oper))=true ->
 Q (0,v110,21)) /\
 ((((gi ac v149).Oper) == ((gi ac v110).Oper))=false ->
 I2 (IntKind.i64.wrap (v149+1))/\μ2 (IntKind.i64.wrap (v149+1)) < μ2 v149)) /\
 ((decide (v149 < v110))=false ->
 VC36_J2 o_ l_ ac Q I1 μ1 v108 v110))) /\
 ((decide (v110 < (ac.length:Int)))=false ->
 VC36_J1 ac Q v108)))
def VC67 (a_:ab) (b_:ab) (Q:Bool->Prop):Prop :=
 Q ((decide (a_.End≥0)) && (decide (b_.aE > a_.End)))
def VC37_J1 (Q:Int->Prop):Prop :=
 Q (-1)
def VC37_J2 (I1:Int->Prop) (μ1:Int->Nat) (v103:Int):Prop :=
 I1 (IntKind.i64.wrap (v103+1))/\μ1 (IntKind.i64.wrap (v103+1)) < μ1 v103
def VC37_J3 (Q:Int->Prop) (v103:Int) (I2:Int->Prop) (μ2:Int->Nat) (v113:Int) (v120:Bool):Prop :=
 (v120=true ->
 Q v103) /\
 (v120=false ->
 I2 (IntKind.i64.wrap (v113+1))/\μ2 (IntKind.i64.wrap (v113+1)) < μ2 v113)
def VC37 (l_:List ab) (ac:List aa) (Q:Int->Prop):Prop :=
 sm l_ ->
 ∀ (_:sm ac),
 ∃ (I1:Int->Prop) (μ1:Int->Nat),I1 0/\∀ (v103:Int),I1 v103 ->
 ((decide (v103 < (ac.length:Int)))=true ->
 ((0:Int)≤v103/\v103 < (ac.length:Int)) /\
 ∃ (I2:Int->Prop) (μ2:Int->Nat),I2 0/\∀ (v113:Int),I2 v113 ->
 ((((decide (v113 < (l_.length:Int))) && (decide (((gi ac v103).Oper)≥0))) && (decide (((gi ac v103).Oper) < (l_.length:Int))))=true ->
 ∀ d7,aX ac v113=d7 ->
 ((0:Int)≤v113/\v113 < (l_.length:Int)) /\
 ((0:Int)≤((gi ac v103).Oper)/\((gi ac v103).Oper) < (l_.length:Int)) /\
 ∀ iT,gC (gi l_ v113) (gi l_ ((gi ac v103).Oper))=iT ->
 (iT=true ->
 VC37_J3 Q v103 I2 μ2 v113 ((decide (d7 < 0)) || (decide (d7≥v103)))) /\
 (iT=false ->
 VC37_J3 Q v103 I2 μ2 v113 false)) /\
 ((((decide (v113 < (l_.length:Int))) && (decide (((gi ac v103).Oper)≥0))) && (decide (((gi ac v103).Oper) < (l_.length:Int))))=false ->
 VC37_J2 I1 μ1 v103)) /\
 ((decide (v103 < (ac.length:Int)))=false ->
 VC37_J1 Q)
def VC38_J1 (Q:((List Int))->Prop) (v101:List Int):Prop :=
 Q v101
def VC38_J2 (I1:(List Int)->Int->Prop) (μ1:(List Int)->Int->Nat) (v109:List Int) (v113:Int) (v116:List Int):Prop :=
 I1 v116 (IntKind.i64.wrap (v113+1))/\μ1 v116 (IntKind.i64.wrap (v113+1)) < μ1 v109 v113
def VC38_J3 (I1:(List Int)->Int->Prop) (μ1:(List Int)->Int->Nat) (v109:List Int) (v113:Int) (v122:List Int) (v126:Bool):Prop :=
 (v126=true ->
 (v122.length+[v113].length≤1099511627776) /\
 VC38_J2 I1 μ1 v109 v113 (v122++[v113])) /\
 (v126=false ->
 VC38_J2 I1 μ1 v109 v113 v122)
def VC38 (l_:List ab) (ac:List aa) (pending:Bool) (Q:(List Int)->Prop):Prop :=
 sm l_ ->
 ∀ (_:sm ac),
 ∃ (I1:(List Int)->Int->Prop) (μ1:(List Int)->Int->Nat),I1 [] 0/\∀ (v109:List Int) (v113:Int),I1 v109 v113 ->
 ((decide (v113 < (l_.length:Int)))=true ->
 ∀ wN,aX ac v113=wN ->
 ((decide (wN < 0))=true ->
 ((0:Int)≤v113/\v113 < (l_.length:Int)) /\
 VC38_J3 I1 μ1 v109 v113 v109 ((((gi l_ v113).End) == (-1)) == pending)) /\
 ((decide (wN < 0))=false ->
 VC38_J3 I1 μ1 v109 v113 v109 false)) /\
 ((decide (v113 < (l_.length:Int)))=false ->
 VC38_J1 Q v109)
def VC61_J1 (Q:Bool->Prop):Prop :=
 Q true
def VC61_J2 (I1:Int->Prop) (μ1:Int->Nat) (v107:Int):Prop :=
 I1 (IntKind.i64.wrap (v107+1))/\μ1 (IntKind.i64.wrap (v107+1)) < μ1 v107
def VC61_J4 (Q:Bool->Prop) (I2:Int->Prop) (μ2:Int->Nat) (v115:Int) (v126:Bool):Prop :=
 (v126=true ->
 Q false) /\
 (v126=false ->
 I2 (IntKind.i64.wrap (v115+1))/\μ2 (IntKind.i64.wrap (v115+1)) < μ2 v115)
def VC61_J3 (l_:List ab) (ac:List aa) (Q:Bool->Prop) (I1:Int->Prop) (μ1:Int->Nat) (v107:Int) (v112:Bool):Prop :=
 (v112=true ->
 Q false) /\
 (v112=false ->
 ∃ (I2:Int->Prop) (μ2:Int->Nat),I2 0/\∀ (v115:Int),I2 v115 ->
 ((decide (v115 < (l_.length:Int)))=true ->
 ∀ nO,aX ac v107=nO ->
 ∀ jS,aX ac v115=jS ->
 ((0:Int)≤v107/\v107 < (l_.length:Int)) /\
 ((0:Int)≤v115/\v115 < (l_.length:Int)) /\
 ∀ tm,gC (gi l_ v107) (gi l_ v115)=tm ->
 ((tm && (decide (jS≥0)))=true ->
 VC61_J4 Q I2 μ2 v115 ((decide (nO < 0)) || (decide (nO > jS)))) /\
 ((tm && (decide (jS≥0)))=false ->
 VC61_J4 Q I2 μ2 v115 false)) /\
 ((decide (v115 < (l_.length:Int)))=false ->
 VC61_J2 I1 μ1 v107))
def VC61 (o_:ae) (l_:List ab) (ac:List aa) (Q:Bool->Prop):Prop :=
 sm o_.Rows ->
 ∀ (_:sm l_),
 sm ac ->
 ∀ ap,bL o_ l_ o_.aC ac=ap ->
 ((ap.2.2 != 0)=true ->
 Q false) /\
 ((ap.2.2 != 0)=false ->
 ∃ (I1:Int->Prop) (μ1:Int->Nat),I1 0/\∀ (v107:Int),I1 v107 ->
 ((decide (v107 < (l_.length:Int)))=true ->
 ((0:Int)≤v107/\v107 < (l_.length:Int)) /\
 ((((gi l_ v107).End) != (-1))=true ->
 ∀ lc,aX ac v107=lc ->
 VC61_J3 l_ ac Q I1 μ1 v107 (decide (lc < 0))) /\
 ((((gi l_ v107).End) != (-1))=false ->
 VC61_J3 l_ ac Q I1 μ1 v107 false)) /\
 ((decide (v107 < (l_.length:Int)))=false ->
 VC61_J1 Q))
def VC60_J1 (Q:((List aa) × Int)->Prop) (v105:List aa):Prop :=
 Q (v105,0)
def VC60_J2 (o_:ae) (l_:List ab) (order:List Int) (Q:((List aa) × Int)->Prop) (I1:(List aa)->Int->Int->Prop) (μ1:(List aa)->Int->Int->Nat) (v113:List aa) (v117:Int) (v118:Int) (v125:List aa) (v130:Int):Prop :=
 (v125.length+[(⟨gi order v118,v130⟩:aa)].length≤1099511627776) /\
 ∀ mD,bL o_ l_ o_.aC (v125++[(⟨gi order v118,v130⟩:aa)])=mD ->
 ((mD.2.2 != 0)=true ->
 Q ([],mD.2.2)) /\
 ((mD.2.2 != 0)=false ->
 I1 (v125++[(⟨gi order v118,v130⟩:aa)]) mD.1 (IntKind.i64.wrap (v118+1))/\μ1 (v125++[(⟨gi order v118,v130⟩:aa)]) mD.1 (IntKind.i64.wrap (v118+1)) < μ1 v113 v117 v118)
def VC60_J3 (o_:ae) (l_:List ab) (order:List Int) (Q:((List aa) × Int)->Prop) (I1:(List aa)->Int->Int->Prop) (μ1:(List aa)->Int->Int->Nat) (v113:List aa) (v117:Int) (v118:Int) (v146:List aa) (v150:Bool):Prop :=
 (v150=true ->
 ((0:Int)≤v118/\v118 < (order.length:Int)) /\
 ((0:Int)≤(gi order v118)/\(gi order v118) < (l_.length:Int)) /\
 ∀ kT,b9 o_ v117 ((gi l_ (gi order v118)).Kind)=kT ->
 VC60_J2 o_ l_ order Q I1 μ1 v113 v117 v118 v146 kT.2.1) /\
 (v150=false ->
 VC60_J2 o_ l_ order Q I1 μ1 v113 v117 v118 v146 0)
def VC60 (o_:ae) (l_:List ab) (order:List Int) (Q:(List aa) × Int->Prop):Prop :=
 sm o_.Rows ->
 ∀ (_:sm l_),
 sm order ->
 ∀ ap,bL o_ l_ o_.aC []=ap ->
 ((ap.2.2 != 0)=true ->
 Q ([],ap.2.2)) /\
 ((ap.2.2 != 0)=false ->
 ∃ (I1:(List aa)->Int->Int->Prop) (μ1:(List aa)->Int->Int->Nat),I1 [] ap.1 0/\∀ (v113:List aa) (v117:Int) (v118:Int),I1 v113 v117 v118 ->
 ((decide (v118 < (order.length:Int)))=true ->
 ((0:Int)≤v118/\v118 < (order.length:Int)) /\
 ((0:Int)≤v118/\v118 < (order.length:Int)) /\
 ((decide ((gi order v118)≥0))=true ->
 ((0:Int)≤v118/\v118 < (order.length:Int)) /\
 VC60_J3 o_ l_ order Q I1 μ1 v113 v117 v118 v113 (decide ((gi order v118) < (l_.length:Int)))) /\
 ((decide ((gi order v118)≥0))=false ->
 VC60_J3 o_ l_ order Q I1 μ1 v113 v117 v118 v113 false)) /\
 ((decide (v118 < (order.length:Int)))=false ->
 VC60_J1 Q v113))
def VC39_J1 (Q:((List (List Int)))->Prop) (v109:List (List Int)):Prop :=
 Q v109
def VC39_J2 (I1:(List (List Int))->(List (List Int))->Prop) (μ1:(List (List Int))->(List (List Int))->Nat) (v115:List (List Int)) (v119:List (List Int)) (v123:List (List Int)) (v127:List (List Int)):Prop :=
 (v123.length+v127.length≤1099511627776) /\
 I1 (v123++v127) v127/\μ1 (v123++v127) v127 < μ1 v115 v119
def VC39_J3 (I2:(List (List Int))->(List (List Int))->Int->Prop) (μ2:(List (List Int))->(List (List Int))->Int->Nat) (v138:List (List Int)) (v143:List (List Int)) (v147:Int) (v148:List (List Int)) (v153:List (List Int)):Prop :=
 I2 v148 v153 (IntKind.i64.wrap (v147+1))/\μ2 v148 v153 (IntKind.i64.wrap (v147+1)) < μ2 v138 v143 v147
def VC39_J4 (I3:(List (List Int))->(List (List Int))->Int->Prop) (μ3:(List (List Int))->(List (List Int))->Int->Nat) (v157:List (List Int)) (v162:List (List Int)) (v166:Int) (v167:List (List Int)) (v172:List (List Int)):Prop :=
 I3 v167 v172 (IntKind.i64.wrap (v166+1))/\μ3 v167 v172 (IntKind.i64.wrap (v166+1)) < μ3 v157 v162 v166
def VC39_J5 (v119:List (List Int)) (v147:Int) (I3:(List (List Int))->(List (List Int))->Int->Prop) (μ3:(List (List Int))->(List (List Int))->Int->Nat) (v157:List (List Int)) (v162:List (List Int)) (v166:Int) (v176:List (List Int)) (v181:List (List Int)) (v185:Bool):Prop :=
 ((!v185)=true ->
 ((0:Int)≤v147/\v147 < (v119.length:Int)) /\
 ∀ (_:sm (gi v119 v147)),
 (([]:List Int).length+(gi v119 v147).length≤1099511627776) /\
 ((([]:List Int)++(gi v119 v147)).length+[v166].length≤1099511627776) /\
 (v181.length+[(([]:List Int)++(gi v119 v147))++[v166]].length≤1099511627776) /\
 VC39_J4 I3 μ3 v157 v162 v166 v176 (v181++[(([]:List Int)++(gi v119 v147))++[v166]])) /\
 ((!v185)=false ->
 VC39_J4 I3 μ3 v157 v162 v166 v176 v181)
def VC39_J6 (I4:(List (List Int))->(List (List Int))->Bool->Int->Prop) (μ4:(List (List Int))->(List (List Int))->Bool->Int->Nat) (v221:List (List Int)) (v226:List (List Int)) (v230:Bool) (v231:Int) (v238:List (List Int)) (v243:List (List Int)) (v247:Bool):Prop :=
 I4 v238 v243 v247 (IntKind.i64.wrap (v231+1))/\μ4 v238 v243 v247 (IntKind.i64.wrap (v231+1)) < μ4 v221 v226 v230 v231
def VC39 (n_:Int) (Q:(List (List Int))->Prop):Prop :=
 ∃ (I1:(List (List Int))->(List (List Int))->Prop) (μ1:(List (List Int))->(List (List Int))->Nat),I1 ([[]]:List (List Int)) ([[]]:List (List Int))/\∀ (v115:List (List Int)) (v119:List (List Int)),I1 v115 v119 ->
 ((decide ((v119.length:Int) > 0))=true ->
 ∃ (I2:(List (List Int))->(List (List Int))->Int->Prop) (μ2:(List (List Int))->(List (List Int))->Int->Nat),I2 v115 [] 0/\∀ (v138:List (List Int)) (v143:List (List Int)) (v147:Int),I2 v138 v143 v147 ->
 ((decide (v147 < (v119.length:Int)))=true ->
 ∃ (I3:(List (List Int))->(List (List Int))->Int->Prop) (μ3:(List (List Int))->(List (List Int))->Int->Nat),I3 v138 v143 0/\∀ (v157:List (List Int)) (v162:List (List Int)) (v166:Int),I3 v157 v162 v166 ->
 ((decide (v166 < n_))=true ->
 ∃ (I4:(List (List Int))->(List (List Int))->Bool->Int->Prop) (μ4:(List (List Int))->(List (List Int))->Bool->Int->Nat),I4 v157 v162 false 0/\∀ (v221:List (List Int)) (v226:List (List Int)) (v230:Bool) (v231:Int),I4 v221 v226 v230 v231 ->
 ((0:Int)≤v147/\v147 < (v119.length:Int)) /\
 ∀ (_:sm (gi v119 v147)),
 ((decide (v231 < ((gi v119 v147).length:Int)))=true ->
 (v230=true ->
 VC39_J6 I4 μ4 v221 v226 v230 v231 v221 v226 true) /\
 (v230=false ->
 ((0:Int)≤v147/\v147 < (v119.length:Int)) /\
 ∀ (_:sm (gi v119 v147)),
 ((0:Int)≤v231/\v231 < ((gi v119 v147).length:Int)) /\
 VC39_J6 I4 μ4 v221 v226 v230 v231 v221 v226 ((gi (gi v119 v147) v231) == v166))) /\
 ((decide (v231 < ((gi v119 v147).length:Int)))=false ->
 VC39_J5 v119 v147 I3 μ3 v157 v162 v166 v221 v226 v230)) /\
 ((decide (v166 < n_))=false ->
 VC39_J3 I2 μ2 v138 v143 v147 v157 v162)) /\
 ((decide (v147 < (v119.length:Int)))=false ->
 VC39_J2 I1 μ1 v115 v119 v138 v143)) /\
 ((decide ((v119.length:Int) > 0))=false ->
 VC39_J1 Q v115)
def VC30_J1 (Q:((List (List aa)))->Prop) (v108:List (List aa)):Prop :=
 Q v108
def VC30_J2 (I1:(List (List aa))->Int->Prop) (μ1:(List (List aa))->Int->Nat) (v115:List (List aa)) (v120:Int) (v123:List (List aa)):Prop :=
 I1 v123 (IntKind.i64.wrap (v120+1))/\μ1 v123 (IntKind.i64.wrap (v120+1)) < μ1 v115 v120
def VC30_J3 (I1:(List (List aa))->Int->Prop) (μ1:(List (List aa))->Int->Nat) (v115:List (List aa)) (v120:Int) (io:(List aa) × Int) (v145:List (List aa)) (v151:Bool):Prop :=
 (v151=true ->
 (v145.length+[io.1].length≤1099511627776) /\
 VC30_J2 I1 μ1 v115 v120 (v145++[io.1])) /\
 (v151=false ->
 VC30_J2 I1 μ1 v115 v120 v145)
def VC30 (o_:ae) (l_:List ab) (Q:(List (List aa))->Prop):Prop :=
 sm o_.Rows ->
 ∀ (_:sm l_),
 (x5 (l_.length:Int)) /\
 ∀ ap,dj (l_.length:Int)=ap ->
 sm ap ->
 ∃ (I1:(List (List aa))->Int->Prop) (μ1:(List (List aa))->Int->Nat),I1 [] 0/\∀ (v115:List (List aa)) (v120:Int),I1 v115 v120 ->
 ((decide (v120 < (ap.length:Int)))=true ->
 ((0:Int)≤v120/\v120 < (ap.length:Int)) /\
 ∀ (_:sm (gi ap v120)),
 (xZ o_ l_ (gi ap v120)) /\
 ∀ io,df o_ l_ (gi ap v120)=io ->
 sm io.1 ->
 ((io.2 == 0)=true ->
 ∀ kT,ec o_ l_ io.1=kT ->
 VC30_J3 I1 μ1 v115 v120 io v115 kT) /\
 ((io.2 == 0)=false ->
 VC30_J3 I1 μ1 v115 v120 io v115 false)) /\
 ((decide (v120 < (ap.length:Int)))=false ->
 VC30_J1 Q v115)
def VC114 (i_:Int) (am:List Bool) (Q:Bool->Prop):Prop :=
 sm am ->
 ((decide (i_ < (am.length:Int)))=true ->
 ((0:Int)≤i_/\i_ < (am.length:Int)) /\
 Q (gi am i_)) /\
 ((decide (i_ < (am.length:Int)))=false ->
 Q false)
def VC112_J1 (Q:((List Int))->Prop) (v101:List Int):Prop :=
 Q v101
def VC112_J2 (I1:(List Int)->Int->Prop) (μ1:(List Int)->Int->Nat) (v108:List Int) (v113:Int) (v116:List Int):Prop :=
 I1 v116 (IntKind.i64.wrap (v113+1))/\μ1 v116 (IntKind.i64.wrap (v113+1)) < μ1 v108 v113
def VC112_J3 (I1:(List Int)->Int->Prop) (μ1:(List Int)->Int->Nat) (v108:List Int) (v113:Int) (v131:List Int) (v135:Bool):Prop :=
 (v135=true ->
 (v131.length+[v113].length≤1099511627776) /\
 VC112_J2 I1 μ1 v108 v113 (v131++[v113])) /\
 (v135=false ->
 VC112_J2 I1 μ1 v108 v113 v131)
def VC112_J4 (I2:(List Int)->Bool->Int->Prop) (μ2:(List Int)->Bool->Int->Nat) (v148:List Int) (v152:Bool) (v155:Int) (v158:List Int) (v162:Bool):Prop :=
 I2 v158 v162 (IntKind.i64.wrap (v155+1))/\μ2 v158 v162 (IntKind.i64.wrap (v155+1)) < μ2 v148 v152 v155
def VC112 (l_:List ab) (done:List Bool) (Q:(List Int)->Prop):Prop :=
 sm l_ ->
 ∀ (_:sm done),
 ∃ (I1:(List Int)->Int->Prop) (μ1:(List Int)->Int->Nat),I1 [] 0/\∀ (v108:List Int) (v113:Int),I1 v108 v113 ->
 ((decide (v113 < (l_.length:Int)))=true ->
 ((0:Int)≤v113/\v113 < (l_.length:Int)) /\
 (uQ v113 done) /\
 ∀ bI,fe v113 done=bI ->
 ∃ (I2:(List Int)->Bool->Int->Prop) (μ2:(List Int)->Bool->Int->Nat),I2 v108 (!bI) 0/\∀ (v148:List Int) (v152:Bool) (v155:Int),I2 v148 v152 v155 ->
 ((decide (v155 < (l_.length:Int)))=true ->
 ((0:Int)≤v155/\v155 < (l_.length:Int)) /\
 (v152=true ->
 (uQ v155 done) /\
 ∀ wM,fe v155 done=wM ->
 (wM=true ->
 VC112_J4 I2 μ2 v148 v152 v155 v148 true) /\
 (wM=false ->
 ∀ zH,aZ (gi l_ v155) (gi l_ v113)=zH ->
 VC112_J4 I2 μ2 v148 v152 v155 v148 (!zH))) /\
 (v152=false ->
 VC112_J4 I2 μ2 v148 v152 v155 v148 false)) /\
 ((decide (v155 < (l_.length:Int)))=false ->
 VC112_J3 I1 μ1 v108 v113 v148 v152)) /\
 ((decide (v113 < (l_.length:Int)))=false ->
 VC112_J1 Q v108)
def VC105_J1 (Q:((List aa))->Prop) (v105:List aa):Prop :=
 Q v105
def VC105_J2 (I1:(List aa)->Int->Prop) (μ1:(List aa)->Int->Nat) (v117:List aa) (v122:Int) (v125:List aa):Prop :=
 I1 v125 (IntKind.i64.wrap (v122+1))/\μ1 v125 (IntKind.i64.wrap (v122+1)) < μ1 v117 v122
def VC105_J3 (bv:(List Int)) (I1:(List aa)->Int->Prop) (μ1:(List aa)->Int->Nat) (v117:List aa) (v122:Int) (gc:Int × Int × Bool) (v146:List aa) (v151:Bool):Prop :=
 (v151=true ->
 (v146.length+[(⟨gi bv v122,gc.2.1⟩:aa)].length≤1099511627776) /\
 VC105_J2 I1 μ1 v117 v122 (v146++[(⟨gi bv v122,gc.2.1⟩:aa)])) /\
 (v151=false ->
 VC105_J2 I1 μ1 v117 v122 v146)
def VC105 (o_:ae) (l_:List ab) (state:Int) (done:List Bool) (Q:(List aa)->Prop):Prop :=
 sm o_.Rows ->
 ∀ (_:sm l_),
 sm done ->
 (kx o_) /\
 ∀ ap,bp o_=ap ->
 ((ap.2 != 0)=true ->
 Q []) /\
 ((ap.2 != 0)=false ->
 (yi l_ done) /\
 ∀ bv,eW l_ done=bv ->
 sm bv ->
 ∃ (I1:(List aa)->Int->Prop) (μ1:(List aa)->Int->Nat),I1 [] 0/\∀ (v117:List aa) (v122:Int),I1 v117 v122 ->
 ((decide (v122 < (bv.length:Int)))=true ->
 ((0:Int)≤v122/\v122 < (bv.length:Int)) /\
 ((0:Int)≤(gi bv v122)/\(gi bv v122) < (l_.length:Int)) /\
 ∀ gc,cu o_ state ((gi l_ (gi bv v122)).Kind)=gc ->
 (gc.2.2=true ->
 ((0:Int)≤(gi bv v122)/\(gi bv v122) < (l_.length:Int)) /\
 ((((gi l_ (gi bv v122)).End) == (-1))=true ->
 VC105_J3 bv I1 μ1 v117 v122 gc v117 true) /\
 ((((gi l_ (gi bv v122)).End) == (-1))=false ->
 ((0:Int)≤(gi bv v122)/\(gi bv v122) < (l_.length:Int)) /\
 VC105_J3 bv I1 μ1 v117 v122 gc v117 (((gi l_ (gi bv v122)).Result) == gc.2.1))) /\
 (gc.2.2=false ->
 VC105_J3 bv I1 μ1 v117 v122 gc v117 false)) /\
 ((decide (v122 < (bv.length:Int)))=false ->
 VC105_J1 Q v117))
def VC88 (o_:ae) (l_:List ab) (jC:Int) (Q:Int->Prop):Prop :=
 sm o_.Rows ->
 ∀ (_:sm l_),
 (kx o_) /\
 ∀ ap,bp o_=ap ->
 ∀ aV,bZ l_=aV ->
 (((ap.2 != 0) || (aV.2 != 0))=true ->
 Q 2) /\
 (((ap.2 != 0) || (aV.2 != 0))=false ->
 ((decide ((l_.length:Int) > jC))=true ->
 Q 3) /\
 ((decide ((l_.length:Int) > jC))=false ->
 Q 0))
def VC104 (s_:List aa) (Q:(List aa)->Prop):Prop :=
 sm s_ ->
 ∀ (b101:Bool),(b101=true->s_=[]) ->
 (b101=true ->
 Q []) /\
 (b101=false ->
 (([]:List aa).length+s_.length≤1099511627776) /\
 Q (([]:List aa)++s_))
def VC101_J1 (Q:b6->Prop) (v101:Int) (v102:Int):Prop :=
 Q (⟨v101,v102⟩:b6)
def VC101_J2 (I1:Int->Int->Int->Prop) (μ1:Int->Int->Int->Nat) (v110:Int) (v111:Int) (v112:Int) (v118:Int):Prop :=
 I1 (IntKind.i64.wrap (v110+1)) v118 v112/\μ1 (IntKind.i64.wrap (v110+1)) v118 v112 < μ1 v110 v111 v112
def VC101 (state:Int) (am:a9) (Q:b6->Prop):Prop :=
 sm am.o.Rows ->
 ∀ (_:sm am.l),
 sm am.done ->
 ∃ (I1:Int->Int->Int->Prop) (μ1:Int->Int->Int->Nat),I1 0 0 state/\∀ (v110:Int) (v111:Int) (v112:Int),I1 v110 v111 v112 ->
 ((decide (v110 < (am.done.length:Int)))=true ->
 ((0:Int)≤v110/\v110 < (am.done.length:Int)) /\
 ((gi am.done v110)=true ->
 ((0:Int)≤v110) /\
 VC101_J2 I1 μ1 v110 v111 v112 (IntKind.u32.wrap ((BitVec.ofInt IntKind.u32.bits v111 ||| BitVec.ofInt IntKind.u32.bits (IntKind.u32.wrap (1 * 2 ^ (min v110.toNat IntKind.u32.bits)))).toNat:Int))) /\
 ((gi am.done v110)=false ->
 VC101_J2 I1 μ1 v110 v111 v112 v111)) /\
 ((decide (v110 < (am.done.length:Int)))=false ->
 VC101_J1 Q v111 v112)
def VC100_J1 (Q:Bool->Prop):Prop :=
 Q true
def VC100_J2 (Q:Bool->Prop) (I1:Int->Prop) (μ1:Int->Nat) (v106:Int) (v115:Bool):Prop :=
 (v115=true ->
 Q false) /\
 (v115=false ->
 I1 (IntKind.i64.wrap (v106+1))/\μ1 (IntKind.i64.wrap (v106+1)) < μ1 v106)
def VC100 (am:a9) (Q:Bool->Prop):Prop :=
 sm am.o.Rows ->
 ∀ (_:sm am.l),
 sm am.done ->
 ∃ (I1:Int->Prop) (μ1:Int->Nat),I1 0/\∀ (v106:Int),I1 v106 ->
 ((decide (v106 < (am.l.length:Int)))=true ->
 ((0:Int)≤v106/\v106 < (am.l.length:Int)) /\
 ((((gi am.l v106).End) != (-1))=true ->
 ((0:Int)≤v106/\v106 < (am.done.length:Int)) /\
 VC100_J2 Q I1 μ1 v106 (!(gi am.done v106))) /\
 ((((gi am.l v106).End) != (-1))=false ->
 VC100_J2 Q I1 μ1 v106 false)) /\
 ((decide (v106 < (am.l.length:Int)))=false ->
 VC100_J1 Q)
def VC102 (N:Nat) (p_:aa) (av:a9) (aN:Int) (bC:List aa) (Q:(List aa) × Bool × a9->Prop):Prop :=
 sm av.o.Rows ->
 ∀ (_:sm av.l),
 sm av.done ->
 ∀ (_:sm bC),
 ((0:Int)≤p_.Oper/\p_.Oper < (av.l.length:Int)) /\
 ∀ dG,cu av.o aN ((gi av.l p_.Oper).Kind)=dG ->
 ((0:Int)≤p_.Oper/\p_.Oper < (av.done.length:Int)) /\
 (yj bC) /\
 ∀ mF,b5 bC=mF ->
 sm mF ->
 (mF.length+[p_].length≤1099511627776) /\
 (r8 dG.1 (mF++[p_]) (⟨av.o,av.l,(av.done.set p_.Oper.toNat true),av.failed⟩:a9)/\oN dG.1 (mF++[p_]) (⟨av.o,av.l,(av.done.set p_.Oper.toNat true),av.failed⟩:a9) < N) /\
 ∀ cB,aK dG.1 (mF++[p_]) (⟨av.o,av.l,(av.done.set p_.Oper.toNat true),av.failed⟩:a9)=cB ->
 sm cB.1 ->
 ∀ (_:sm cB.2.2.o.Rows),
 sm cB.2.2.l ->
 ∀ (_:sm cB.2.2.done),
 ((0:Int)≤p_.Oper/\p_.Oper < (cB.2.2.done.length:Int)) /\
 Q (cB.1,cB.2.1,(⟨cB.2.2.o,cB.2.2.l,(cB.2.2.done.set p_.Oper.toNat false),cB.2.2.failed⟩:a9))
def VC90_J2 (N:Nat) (Q:((List aa) × Bool × a9)->Prop) (v120:Int) (v121:Int) (v122:Int) (v123:List ba) (v127:List ab) (v139:List Bool) (v143:List (b6 × Int)):Prop :=
 Q ([],false,(⟨(⟨v120,v121,v122,v123⟩:ae),v127,v139,v143⟩:a9))
def VC90_J1 (N:Nat) (state:Int) (Q:((List aa) × Bool × a9)->Prop) (bv:b6) (v120:Int) (v121:Int) (v122:Int) (v123:List ba) (v127:List ab) (v131:List Bool) (v135:List (b6 × Int)):Prop :=
 ((!(bv.done == 0 && (bv.state == 0 && true)))=true ->
 VC90_J2 N Q v120 v121 v122 v123 v127 v131 (dk v135 bv (IntKind.i64.wrap (((aF v135 bv).getD 0)+1)))) /\
 ((!(bv.done == 0 && (bv.state == 0 && true)))=false ->
 VC90_J2 N Q v120 v121 v122 v123 v127 v131 v135)
def VC90 (N:Nat) (state:Int) (so:List aa) (am:a9) (Q:(List aa) × Bool × a9->Prop):Prop :=
 sm so ->
 ∀ (_:sm am.o.Rows),
 sm am.l ->
 ∀ (_:sm am.done),
 (xV am) /\
 ∀ ap,dQ am=ap ->
 (ap=true ->
 Q (so,true,am)) /\
 (ap=false ->
 ∀ bv,dE state am=bv ->
 ((decide (((aF am.failed bv).getD 0) > 0))=true ->
 Q ([],false,am)) /\
 ((decide (((aF am.failed bv).getD 0) > 0))=false ->
 (yd am.o am.l state am.done) /\
 ∀ nc,bK am.o am.l state am.done=nc ->
 sm nc ->
 ∃ (I1:(List aa)->Int->Int->Int->Int->(List ba)->(List ab)->(List Bool)->(List (b6 × Int))->Prop) (μ1:(List aa)->Int->Int->Int->Int->(List ba)->(List ab)->(List Bool)->(List (b6 × Int))->Nat),I1 nc 0 am.o.ar am.o.aw am.o.aC am.o.Rows am.l am.done am.failed/\∀ (v196:List aa) (v200:Int) (v202:Int) (v203:Int) (v204:Int) (v205:List ba) (v209:List ab) (v213:List Bool) (v217:List (b6 × Int)),I1 v196 v200 v202 v203 v204 v205 v209 v213 v217 ->
 ((decide (v200 < (nc.length:Int)))=true ->
 ((0:Int)≤v200/\v200 < (v196.length:Int)) /\
 (xW (gi v196 v200) (⟨(⟨v202,v203,v204,v205⟩:ae),v209,v213,v217⟩:a9) state so/\BX (gi v196 v200) (⟨(⟨v202,v203,v204,v205⟩:ae),v209,v213,v217⟩:a9) state so < N) /\
 ∀ d6,bf (gi v196 v200) (⟨(⟨v202,v203,v204,v205⟩:ae),v209,v213,v217⟩:a9) state so=d6 ->
 sm d6.1 ->
 ∀ (_:sm d6.2.2.o.Rows),
 sm d6.2.2.l ->
 ∀ (_:sm d6.2.2.done),
 (d6.2.1=true ->
 Q (d6.1,true,d6.2.2)) /\
 (d6.2.1=false ->
 I1 v196 (IntKind.i64.wrap (v200+1)) d6.2.2.o.ar d6.2.2.o.aw d6.2.2.o.aC d6.2.2.o.Rows d6.2.2.l d6.2.2.done d6.2.2.failed/\μ1 v196 (IntKind.i64.wrap (v200+1)) d6.2.2.o.ar d6.2.2.o.aw d6.2.2.o.aC d6.2.2.o.Rows d6.2.2.l d6.2.2.done d6.2.2.failed < μ1 v196 v200 v202 v203 v204 v205 v209 v213 v217)) /\
 ((decide (v200 < (nc.length:Int)))=false ->
 VC90_J1 N state Q bv v202 v203 v204 v205 v209 v213 v217)))
def VC89 (o_:ae) (l_:List ab) (Q:a9->Prop):Prop :=
 sm o_.Rows ->
 ∀ (_:sm l_),
 ((0:Int)≤(l_.length:Int)/\(l_.length:Int)≤(l_.length:Int)/\(l_.length:Int)≤1099511627776) /\
 Q (⟨o_,l_,List.replicate (l_.length:Int).toNat (false:Bool),([]:List (b6 × Int))⟩:a9)
def VC70_J1 (Q:((List aa) × Int)->Prop) (v143:List aa) (v147:Bool):Prop :=
 (v147=true ->
 Q ([],41)) /\
 (v147=false ->
 Q (v143,0))
def VC70 (o_:ae) (l_:List ab) (Q:(List aa) × Int->Prop):Prop :=
 sm o_.Rows ->
 ∀ (_:sm l_),
 (yk o_ l_ 20) /\
 ∀ ap,cy o_ l_ 20=ap ->
 ((ap != 0)=true ->
 Q ([],ap)) /\
 ((ap != 0)=false ->
 (ym o_ l_) /\
 ∀ fp,bE o_ l_=fp ->
 sm fp.o.Rows ->
 ∀ (_:sm fp.l),
 sm fp.done ->
 (r8 o_.aC [] fp) /\
 ∀ bI,aK o_.aC [] fp=bI ->
 sm bI.1 ->
 ∀ (_:sm bI.2.2.o.Rows),
 sm bI.2.2.l ->
 ∀ (_:sm bI.2.2.done),
 ((!bI.2.1)=true ->
 VC70_J1 Q bI.1 true) /\
 ((!bI.2.1)=false ->
 (lk o_ l_ bI.1) /\
 ∀ lc,c9 o_ l_ bI.1=lc ->
 VC70_J1 Q bI.1 (!lc)))
def VC84 (x_:au) (Q:Int->Prop):Prop :=
 (((x_.bh != 1) && (x_.bh != 2))=true ->
 Q 8) /\
 (((x_.bh != 1) && (x_.bh != 2))=false ->
 (((decide (x_.aj < 1)) || (decide (x_.aj > 1000)))=true ->
 Q 2) /\
 (((decide (x_.aj < 1)) || (decide (x_.aj > 1000)))=false ->
 (((x_.bh == 1) && ((decide (x_.N < 0)) || (decide (x_.N≥64))))=true ->
 Q 31) /\
 (((x_.bh == 1) && ((decide (x_.N < 0)) || (decide (x_.N≥64))))=false ->
 (((x_.bh == 2) && ((decide (x_.N < 0)) || (decide (x_.N > 1000000))))=true ->
 Q 7) /\
 (((x_.bh == 2) && ((decide (x_.N < 0)) || (decide (x_.N > 1000000))))=false ->
 Q 0))))
def VC55_J1 (l_:List au) (Q:(Int × Int)->Prop):Prop :=
 Q ((l_.length:Int),0)
def VC55 (l_:List au) (Q:Int × Int->Prop):Prop :=
 sm l_ ->
 ((decide ((l_.length:Int) > 10000))=true ->
 Q (0,3)) /\
 ((decide ((l_.length:Int) > 10000))=false ->
 ∃ (I1:(List (Int × Int))->Int->Prop) (μ1:(List (Int × Int))->Int->Nat),I1 ([]:List (Int × Int)) 0/\∀ (v107:List (Int × Int)) (v110:Int),I1 v107 v110 ->
 ((decide (v110 < (l_.length:Int)))=true ->
 ((0:Int)≤v110/\v110 < (l_.length:Int)) /\
 ∀ d7,gh (gi l_ v110)=d7 ->
 ((d7 != 0)=true ->
 Q (v110,d7)) /\
 ((d7 != 0)=false ->
 (((((aF v107 ((gi l_ v110).aj)).getD 0) == 1) == (((gi l_ v110).bh) == 1))=true ->
 Q (v110,33)) /\
 (((((aF v107 ((gi l_ v110).aj)).getD 0) == 1) == (((gi l_ v110).bh) == 1))=false ->
 I1 (dk v107 ((gi l_ v110).aj) ((gi l_ v110).bh)) (IntKind.i64.wrap (v110+1))/\μ1 (dk v107 ((gi l_ v110).aj) ((gi l_ v110).bh)) (IntKind.i64.wrap (v110+1)) < μ1 v107 v110))) /\
 ((decide (v110 < (l_.length:Int)))=false ->
 VC55_J1 l_ Q))
def VC94_J1 (Q:Int->Prop) (v101:Int):Prop :=
 Q v101
def VC94_J2 (I1:Int->Int->Prop) (μ1:Int->Int->Nat) (v103:Int) (v104:Int) (v106:Int):Prop :=
 I1 v106 (IntKind.i64.wrap (v104+1))/\μ1 v106 (IntKind.i64.wrap (v104+1)) < μ1 v103 v104
def VC94 (l_:List au) (process:Int) (Q:Int->Prop):Prop :=
 sm l_ ->
 ∃ (I1:Int->Int->Prop) (μ1:Int->Int->Nat),I1 (-1) 0/\∀ (v103:Int) (v104:Int),I1 v103 v104 ->
 ((decide (v104 < (l_.length:Int)))=true ->
 ((0:Int)≤v104/\v104 < (l_.length:Int)) /\
 ((((gi l_ v104).aj) == process)=true ->
 VC94_J2 I1 μ1 v103 v104 v104) /\
 ((((gi l_ v104).aj) == process)=false ->
 VC94_J2 I1 μ1 v103 v104 v103)) /\
 ((decide (v104 < (l_.length:Int)))=false ->
 VC94_J1 Q v103)
def VC79 (l_:List au) (process:Int) (Q:Bool->Prop):Prop :=
 sm l_ ->
 ∀ ap,hU l_ process=ap ->
 ((decide (ap≥0))=true ->
 ((0:Int)≤ap/\ap < (l_.length:Int)) /\
 Q (((gi l_ ap).bh) == 1)) /\
 ((decide (ap≥0))=false ->
 Q false)
def VC50_J1 (l_:List au) (Q:(Int × Int)->Prop):Prop :=
 Q ((l_.length:Int),0)
def VC50_J2 (Q:(Int × Int)->Prop) (I1:Int->Prop) (μ1:Int->Nat) (v103:Int) (v108:Bool):Prop :=
 (v108=true ->
 Q (v103,33)) /\
 (v108=false ->
 I1 (IntKind.i64.wrap (v103+1))/\μ1 (IntKind.i64.wrap (v103+1)) < μ1 v103)
def VC50 (l_:List au) (Q:Int × Int->Prop):Prop :=
 sm l_ ->
 ((decide ((l_.length:Int) > 10000))=true ->
 Q (0,3)) /\
 ((decide ((l_.length:Int) > 10000))=false ->
 ∃ (I1:Int->Prop) (μ1:Int->Nat),I1 0/\∀ (v103:Int),I1 v103 ->
 ((decide (v103 < (l_.length:Int)))=true ->
 ((0:Int)≤v103/\v103 < (l_.length:Int)) /\
 (((((gi l_ v103).bh) != 1) && (((gi l_ v103).bh) != 2))=true ->
 Q (v103,8)) /\
 (((((gi l_ v103).bh) != 1) && (((gi l_ v103).bh) != 2))=false ->
 (((decide (((gi l_ v103).aj) < 1)) || (decide (((gi l_ v103).aj) > 1000)))=true ->
 Q (v103,2)) /\
 (((decide (((gi l_ v103).aj) < 1)) || (decide (((gi l_ v103).aj) > 1000)))=false ->
 (((((gi l_ v103).bh) == 1) && ((decide (((gi l_ v103).N) < 0)) || (decide (((gi l_ v103).N) > 63))))=true ->
 Q (v103,31)) /\
 (((((gi l_ v103).bh) == 1) && ((decide (((gi l_ v103).N) < 0)) || (decide (((gi l_ v103).N) > 63))))=false ->
 (((((gi l_ v103).bh) == 2) && ((decide (((gi l_ v103).N) < 0)) || (decide (((gi l_ v103).N) > 1000000))))=true ->
 Q (v103,7)) /\
 (((((gi l_ v103).bh) == 2) && ((decide (((gi l_ v103).N) < 0)) || (decide (((gi l_ v103).N) > 1000000))))=false ->
 ((((gi l_ v103).bh) == 1)=true ->
 ((0:Int)≤v103/\v103≤(l_.length:Int)) /\
 ∀ d7,fo (l_.take v103.toNat) ((gi l_ v103).aj)=d7 ->
 (d7=true ->
 VC50_J2 Q I1 μ1 v103 true) /\
 (d7=false ->
 ((((gi l_ v103).bh) == 2)=true ->
 ((0:Int)≤v103/\v103≤(l_.length:Int)) /\
 ∀ dF,fo (l_.take v103.toNat) ((gi l_ v103).aj)=dF ->
 VC50_J2 Q I1 μ1 v103 (!dF)) /\
 ((((gi l_ v103).bh) == 2)=false ->
 VC50_J2 Q I1 μ1 v103 false))) /\
 ((((gi l_ v103).bh) == 1)=false ->
 ((((gi l_ v103).bh) == 2)=true ->
 ((0:Int)≤v103/\v103≤(l_.length:Int)) /\
 ∀ fb,fo (l_.take v103.toNat) ((gi l_ v103).aj)=fb ->
 VC50_J2 Q I1 μ1 v103 (!fb)) /\
 ((((gi l_ v103).bh) == 2)=false ->
 VC50_J2 Q I1 μ1 v103 false))))))) /\
 ((decide (v103 < (l_.length:Int)))=false ->
 VC50_J1 l_ Q))
def VC57_J1 (Q:Bool->Prop):Prop :=
 Q true
def VC57 (a_:List ba) (b_:List ba) (Q:Bool->Prop):Prop :=
 sm a_ ->
 ∀ (_:sm b_),
 (((a_.length:Int) != (b_.length:Int))=true ->
 Q false) /\
 (((a_.length:Int) != (b_.length:Int))=false ->
 ∃ (I1:Int->Prop) (μ1:Int->Nat),I1 0/\∀ (v103:Int),I1 v103 ->
 ((decide (v103 < (a_.length:Int)))=true ->
 ((0:Int)≤v103/\v103 < (a_.length:Int)) /\
 ((0:Int)≤v103/\v103 < (b_.length:Int)) /\
 ((!(((gi a_ v103).State) == ((gi b_ v103).State) && (((gi a_ v103).Kind) == ((gi b_ v103).Kind) && (((gi a_ v103).Next) == ((gi b_ v103).Next) && (((gi a_ v103).Result) == ((gi b_ v103).Result) && true)))))=true ->
 Q false) /\
 ((!(((gi a_ v103).State) == ((gi b_ v103).State) && (((gi a_ v103).Kind) == ((gi b_ v103).Kind) && (((gi a_ v103).Next) == ((gi b_ v103).Next) && (((gi a_ v103).Result) == ((gi b_ v103).Result) && true)))))=false ->
 I1 (IntKind.i64.wrap (v103+1))/\μ1 (IntKind.i64.wrap (v103+1)) < μ1 v103)) /\
 ((decide (v103 < (a_.length:Int)))=false ->
 VC57_J1 Q))
def VC26 (a_:ae) (b_:ae) (Q:Bool->Prop):Prop :=
 sm a_.Rows ->
 ∀ (_:sm b_.Rows),
 ((((a_.ar == b_.ar) && (a_.aw == b_.aw)) && (a_.aC == b_.aC))=true ->
 ∀ ap,ew a_.Rows b_.Rows=ap ->
 Q ap) /\
 ((((a_.ar == b_.ar) && (a_.aw == b_.aw)) && (a_.aC == b_.aC))=false ->
 Q false)
def VC56_J1 (Q:((List ab) × Int)->Prop) (v109:List ab):Prop :=
 Q (v109,0)
def VC56_J2 (I1:(List ab)->(List (Int × Int))->Int->Prop) (μ1:(List ab)->(List (Int × Int))->Int->Nat) (v115:List ab) (v119:List (Int × Int)) (v122:Int) (v123:List ab) (v127:List (Int × Int)):Prop :=
 I1 v123 v127 (IntKind.i64.wrap (v122+1))/\μ1 v123 v127 (IntKind.i64.wrap (v122+1)) < μ1 v115 v119 v122
def VC56 (l_:List au) (Q:(List ab) × Int->Prop):Prop :=
 sm l_ ->
 ∀ ap,bA l_=ap ->
 ((ap.2 != 0)=true ->
 Q ([],ap.2)) /\
 ((ap.2 != 0)=false ->
 ∃ (I1:(List ab)->(List (Int × Int))->Int->Prop) (μ1:(List ab)->(List (Int × Int))->Int->Nat),I1 [] ([]:List (Int × Int)) 0/\∀ (v115:List ab) (v119:List (Int × Int)) (v122:Int),I1 v115 v119 v122 ->
 ((decide (v122 < (l_.length:Int)))=true ->
 ((0:Int)≤v122/\v122 < (l_.length:Int)) /\
 ((((gi l_ v122).bh) == 1)=true ->
 (v115.length+[(⟨(gi l_ v122).aj,(gi l_ v122).N,v122,(-1),(-1)⟩:ab)].length≤1099511627776) /\
 VC56_J2 I1 μ1 v115 v119 v122 (v115++[(⟨(gi l_ v122).aj,(gi l_ v122).N,v122,(-1),(-1)⟩:ab)]) (dk v119 ((gi l_ v122).aj) (v115.length:Int))) /\
 ((((gi l_ v122).bh) == 1)=false ->
 ((0:Int)≤((aF v119 ((gi l_ v122).aj)).getD 0)/\((aF v119 ((gi l_ v122).aj)).getD 0) < (v115.length:Int)) /\
 VC56_J2 I1 μ1 v115 v119 v122 ((v115.set ((aF v119 ((gi l_ v122).aj)).getD 0).toNat (⟨(gi v115 ((aF v119 ((gi l_ v122).aj)).getD 0)).aj,(gi v115 ((aF v119 ((gi l_ v122).aj)).getD 0)).Kind,(gi v115 ((aF v119 ((gi l_ v122).aj)).getD 0)).aE,v122,(gi v115 ((aF v119 ((gi l_ v122).aj)).getD 0)).Result⟩:ab)).set ((aF v119 ((gi l_ v122).aj)).getD 0).toNat (⟨(gi (v115.set ((aF v119 ((gi l_ v122).aj)).getD 0).toNat (⟨(gi v115 ((aF v119 ((gi l_ v122).aj)).getD 0)).aj,(gi v115 ((aF v119 ((gi l_ v122).aj)).getD 0)).Kind,(gi v115 ((aF v119 ((gi l_ v122).aj)).getD 0)).aE,v122,(gi v115 ((aF v119 ((gi l_ v122).aj)).getD 0)).Result⟩:ab)) ((aF v119 ((gi l_ v122).aj)).getD 0)).aj,(gi (v115.set ((aF v119 ((gi l_ v122).aj)).getD 0).toNat (⟨(gi v115 ((aF v119 ((gi l_ v122).aj)).getD 0)).aj,(gi v115 ((aF v119 ((gi l_ v122).aj)).getD 0)).Kind,(gi v115 ((aF v119 ((gi l_ v122).aj)).getD 0)).aE,v122,(gi v115 ((aF v119 ((gi l_ v122).aj)).getD 0)).Result⟩:ab)) ((aF v119 ((gi l_ v122).aj)).getD 0)).Kind,(gi (v115.set ((aF v119 ((gi l_ v122).aj)).getD 0).toNat (⟨(gi v115 ((aF v119 ((gi l_ v122).aj)).getD 0)).aj,(gi v115 ((aF v119 ((gi l_ v122).aj)).getD 0)).Kind,(gi v115 ((aF v119 ((gi l_ v122).aj)).getD 0)).aE,v122,(gi v115 ((aF v119 ((gi l_ v122).aj)).getD 0)).Result⟩:ab)) ((aF v119 ((gi l_ v122).aj)).getD 0)).aE,(gi (v115.set ((aF v119 ((gi l_ v122).aj)).getD 0).toNat (⟨(gi v115 ((aF v119 ((gi l_ v122).aj)).getD 0)).aj,(gi v115 ((aF v119 ((gi l_ v122).aj)).getD 0)).Kind,(gi v115 ((aF v119 ((gi l_ v122).aj)).getD 0)).aE,v122,(gi v115 ((aF v119 ((gi l_ v122).aj)).getD 0)).Result⟩:ab)) ((aF v119 ((gi l_ v122).aj)).getD 0)).End,(gi l_ v122).N⟩:ab)) v119)) /\
 ((decide (v122 < (l_.length:Int)))=false ->
 VC56_J1 Q v115))
def VC18_J1 (Q:((List ab) × Int)->Prop) (v105:List ab):Prop :=
 Q (v105,0)
def VC18_J2 (I1:(List ab)->Int->Prop) (μ1:(List ab)->Int->Nat) (v112:List ab) (v116:Int) (v118:List ab):Prop :=
 I1 v118 (IntKind.i64.wrap (v116+1))/\μ1 v118 (IntKind.i64.wrap (v116+1)) < μ1 v112 v116
def VC18_J3 (I1:(List ab)->Int->Prop) (μ1:(List ab)->Int->Nat) (v112:List ab) (v116:Int) (v145:List ab) (v149:Int) (v150:Int) (v151:Int) (v152:Int) (v153:Int):Prop :=
 (v145.length+[(⟨v149,v150,v151,v152,v153⟩:ab)].length≤1099511627776) /\
 VC18_J2 I1 μ1 v112 v116 (v145++[(⟨v149,v150,v151,v152,v153⟩:ab)])
def VC18_J4 (I2:(List ab)->Int->Int->Int->Int->Int->Int->Prop) (μ2:(List ab)->Int->Int->Int->Int->Int->Int->Nat) (v164:List ab) (v168:Int) (v169:Int) (v170:Int) (v171:Int) (v172:Int) (v173:Int) (v175:List ab) (v179:Int) (v180:Int):Prop :=
 I2 v175 (IntKind.i64.wrap (v168+1)) v169 v170 v171 v179 v180/\μ2 v175 (IntKind.i64.wrap (v168+1)) v169 v170 v171 v179 v180 < μ2 v164 v168 v169 v170 v171 v172 v173
def VC18 (l_:List au) (Q:(List ab) × Int->Prop):Prop :=
 sm l_ ->
 ∀ ap,eR l_=ap ->
 ((ap.2 != 0)=true ->
 Q ([],ap.2)) /\
 ((ap.2 != 0)=false ->
 ∃ (I1:(List ab)->Int->Prop) (μ1:(List ab)->Int->Nat),I1 [] 0/\∀ (v112:List ab) (v116:Int),I1 v112 v116 ->
 ((decide (v116 < (l_.length:Int)))=true ->
 ((0:Int)≤v116/\v116 < (l_.length:Int)) /\
 ((((gi l_ v116).bh) != 1)=true ->
 VC18_J2 I1 μ1 v112 v116 v112) /\
 ((((gi l_ v116).bh) != 1)=false ->
 ((0:Int)≤v116/\v116 < (l_.length:Int)) /\
 ((0:Int)≤v116/\v116 < (l_.length:Int)) /\
 ∃ (I2:(List ab)->Int->Int->Int->Int->Int->Int->Prop) (μ2:(List ab)->Int->Int->Int->Int->Int->Int->Nat),I2 v112 (IntKind.i64.wrap (v116+1)) ((gi l_ v116).aj) ((gi l_ v116).N) v116 (-1) (-1)/\∀ (v164:List ab) (v168:Int) (v169:Int) (v170:Int) (v171:Int) (v172:Int) (v173:Int),I2 v164 v168 v169 v170 v171 v172 v173 ->
 (((decide (v168 < (l_.length:Int))) && (decide (v172 < 0)))=true ->
 ((0:Int)≤v168/\v168 < (l_.length:Int)) /\
 ((0:Int)≤v116/\v116 < (l_.length:Int)) /\
 ((((gi l_ v168).aj) == ((gi l_ v116).aj))=true ->
 ((0:Int)≤v168/\v168 < (l_.length:Int)) /\
 VC18_J4 I2 μ2 v164 v168 v169 v170 v171 v172 v173 v164 v168 ((gi l_ v168).N)) /\
 ((((gi l_ v168).aj) == ((gi l_ v116).aj))=false ->
 VC18_J4 I2 μ2 v164 v168 v169 v170 v171 v172 v173 v164 v172 v173)) /\
 (((decide (v168 < (l_.length:Int))) && (decide (v172 < 0)))=false ->
 VC18_J3 I1 μ1 v112 v116 v164 v169 v170 v171 v172 v173))) /\
 ((decide (v116 < (l_.length:Int)))=false ->
 VC18_J1 Q v112))
def VC25_J1 (Q:Bool->Prop):Prop :=
 Q true
def VC25 (a_:List Int) (b_:List Int) (Q:Bool->Prop):Prop :=
 sm a_ ->
 ∀ (_:sm b_),
 (((a_.length:Int) != (b_.length:Int))=true ->
 Q false) /\
 (((a_.length:Int) != (b_.length:Int))=false ->
 ∃ (I1:Int->Prop) (μ1:Int->Nat),I1 0/\∀ (v103:Int),I1 v103 ->
 ((decide (v103 < (a_.length:Int)))=true ->
 ((0:Int)≤v103/\v103 < (a_.length:Int)) /\
 ((0:Int)≤v103/\v103 < (b_.length:Int)) /\
 (((gi a_ v103) != (gi b_ v103))=true ->
 Q false) /\
 (((gi a_ v103) != (gi b_ v103))=false ->
 I1 (IntKind.i64.wrap (v103+1))/\μ1 (IntKind.i64.wrap (v103+1)) < μ1 v103)) /\
 ((decide (v103 < (a_.length:Int)))=false ->
 VC25_J1 Q))
def VC92_J1 (Q:Int->Prop):Prop :=
 Q (-1)
def VC92 (s_:List Int) (v_:Int) (Q:Int->Prop):Prop :=
 sm s_ ->
 ∃ (I1:Int->Prop) (μ1:Int->Nat),I1 0/\∀ (v102:Int),I1 v102 ->
 ((decide (v102 < (s_.length:Int)))=true ->
 ((0:Int)≤v102/\v102 < (s_.length:Int)) /\
 ((v_ == (gi s_ v102))=true ->
 Q v102) /\
 ((v_ == (gi s_ v102))=false ->
 I1 (IntKind.i64.wrap (v102+1))/\μ1 (IntKind.i64.wrap (v102+1)) < μ1 v102)) /\
 ((decide (v102 < (s_.length:Int)))=false ->
 VC92_J1 Q)
def VC77 (s_:List Int) (v_:Int) (Q:Bool->Prop):Prop :=
 sm s_ ->
 ∀ ap,ea s_ v_=ap ->
 Q (decide (ap≥0))
def VC49 (s_:List ba) (Q:(List ba)->Prop):Prop :=
 sm s_ ->
 ∀ (b101:Bool),(b101=true->s_=[]) ->
 (b101=true ->
 Q []) /\
 (b101=false ->
 (([]:List ba).length+s_.length≤1099511627776) /\
 Q (([]:List ba)++s_))
def VC76 (p_:Int × Int) (n_:Int) (Q:Bool->Prop):Prop :=
 Q (((decide ((if p_.2 < p_.1 then p_.2 else p_.1)≥0)) && (decide ((if p_.2 > p_.1 then p_.2 else p_.1) < n_))) && (p_.1 != p_.2))
def VC75 (p_:Int × Int) (am:Int) (av:Int) (aN:List Int) (Q:Bool->Prop):Prop :=
 sm aN ->
 ∀ ap,eI (p_.1,p_.2) am=ap ->
 ((ap && (p_.2 == av))=true ->
 ∀ aV,cx aN p_.1=aV ->
 Q (!aV)) /\
 ((ap && (p_.2 == av))=false ->
 Q false)
def VC93_75_J1 (Q:Int->Prop):Prop :=
 Q (-1)
def VC93_75 (s_:List (Int × Int)) (am:Int) (av:Int) (aN:List Int) (Q:Int->Prop):Prop :=
 sm s_ ->
 ∀ (_:sm aN),
 ∃ (I1:Int->Prop) (μ1:Int->Nat),I1 0/\∀ (v103:Int),I1 v103 ->
 ((decide (v103 < (s_.length:Int)))=true ->
 ((0:Int)≤v103/\v103 < (s_.length:Int)) /\
 ∀ dG,cj (gi s_ v103) am av aN=dG ->
 (dG=true ->
 Q v103) /\
 (dG=false ->
 I1 (IntKind.i64.wrap (v103+1))/\μ1 (IntKind.i64.wrap (v103+1)) < μ1 v103)) /\
 ((decide (v103 < (s_.length:Int)))=false ->
 VC93_75_J1 Q)
def VC78_75 (s_:List (Int × Int)) (am:Int) (av:Int) (aN:List Int) (Q:Bool->Prop):Prop :=
 sm s_ ->
 ∀ (_:sm aN),
 ∀ ap,bm s_ am av aN=ap ->
 Q (decide (ap≥0))
def VC74 (x_:Int) (am:Int) (av:List Int) (aN:List (Int × Int)) (Q:Bool->Prop):Prop :=
 sm av ->
 ∀ (_:sm aN),
 ∀ ap,cx av x_=ap ->
 (ap=true ->
 Q true) /\
 (ap=false ->
 ∀ aV,bF aN am x_ av=aV ->
 Q aV)
def VC44_J1 (Q:((List Int) × Bool)->Prop) (v105:List Int):Prop :=
 Q (v105,true)
def VC44_J2 (n_:Int) (Q:((List Int) × Bool)->Prop) (I1:(List Int)->Prop) (μ1:(List Int)->Nat) (v112:List Int) (v116:Int) (v118:List Int):Prop :=
 ((v116 == n_)=true ->
 Q ([],false)) /\
 ((v116 == n_)=false ->
 (v118.length+[v116].length≤1099511627776) /\
 I1 (v118++[v116])/\μ1 (v118++[v116]) < μ1 v112)
def VC44_J3 (n_:Int) (Q:((List Int) × Bool)->Prop) (I1:(List Int)->Prop) (μ1:(List Int)->Nat) (v112:List Int) (I2:Int->(List Int)->Prop) (μ2:Int->(List Int)->Nat) (v133:Int) (v135:List Int) (v139:Bool) (v141:List Int):Prop :=
 (v139=true ->
 I2 (IntKind.i64.wrap (v133+1)) v141/\μ2 (IntKind.i64.wrap (v133+1)) v141 < μ2 v133 v135) /\
 (v139=false ->
 VC44_J2 n_ Q I1 μ1 v112 v133 v141)
def VC44 (n_:Int) (pairs:List (Int × Int)) (Q:(List Int) × Bool->Prop):Prop :=
 sm pairs ->
 (((decide (n_ < 0)) || (decide (n_ > 64)))=true ->
 Q ([],false)) /\
 (((decide (n_ < 0)) || (decide (n_ > 64)))=false ->
 ((0:Int)≤0/\0≤n_/\n_≤1099511627776) /\
 ∃ (I1:(List Int)->Prop) (μ1:(List Int)->Nat),I1 (List.replicate (0:Int).toNat (0:Int))/\∀ (v112:List Int),I1 v112 ->
 ((decide ((v112.length:Int) < n_))=true ->
 ∃ (I2:Int->(List Int)->Prop) (μ2:Int->(List Int)->Nat),I2 0 v112/\∀ (v133:Int) (v135:List Int),I2 v133 v135 ->
 ((decide (v133 < n_))=true ->
 ∀ zK,c6 v133 n_ v135 pairs=zK ->
 VC44_J3 n_ Q I1 μ1 v112 I2 μ2 v133 v135 zK v135) /\
 ((decide (v133 < n_))=false ->
 VC44_J3 n_ Q I1 μ1 v112 I2 μ2 v133 v135 false v135)) /\
 ((decide ((v112.length:Int) < n_))=false ->
 VC44_J1 Q v112))
def VC47_J1 (Q:((List au))->Prop) (v101:List au):Prop :=
 Q v101
def VC47 (h_:ak) (Q:(List au)->Prop):Prop :=
 sm h_.ah ->
 ∀ (_:sm h_.al),
 ∃ (I1:(List au)->Int->Prop) (μ1:(List au)->Int->Nat),I1 [] 0/\∀ (v107:List au) (v112:Int),I1 v107 v112 ->
 ((decide (v112 < (h_.al.length:Int)))=true ->
 ((0:Int)≤v112/\v112 < (h_.al.length:Int)) /\
 (v107.length+[((gi h_.al v112).aI)].length≤1099511627776) /\
 I1 (v107++[((gi h_.al v112).aI)]) (IntKind.i64.wrap (v112+1))/\μ1 (v107++[((gi h_.al v112).aI)]) (IntKind.i64.wrap (v112+1)) < μ1 v107 v112) /\
 ((decide (v112 < (h_.al.length:Int)))=false ->
 VC47_J1 Q v107)
def VC52 (o_:ae) (Q:Bool->Prop):Prop :=
 sm o_.Rows ->
 (kx o_) /\
 ∀ ap,bp o_=ap ->
 Q (ap.2 != 0)
def VC83_52_J1 (Q:Int->Prop):Prop :=
 Q (-1)
def VC83_52 (s_:List ae) (Q:Int->Prop):Prop :=
 sm s_ ->
 ∃ (I1:Int->Prop) (μ1:Int->Nat),I1 0/\∀ (v102:Int),I1 v102 ->
 ((decide (v102 < (s_.length:Int)))=true ->
 ((0:Int)≤v102/\v102 < (s_.length:Int)) /\
 ∀ (_:sm ((gi s_ v102).Rows)),
 (kx (gi s_ v102)) /\
 ∀ bv,cM (gi s_ v102)=bv ->
 (bv=true ->
 Q v102) /\
 (bv=false ->
 I1 (IntKind.i64.wrap (v102+1))/\μ1 (IntKind.i64.wrap (v102+1)) < μ1 v102)) /\
 ((decide (v102 < (s_.length:Int)))=false ->
 VC83_52_J1 Q)
def VC54_52 (s_:List ae) (Q:Bool->Prop):Prop :=
 sm s_ ->
 (lj s_) /\
 ∀ ap,bb s_=ap ->
 Q (decide (ap≥0))
def VC23_J2 (h_:ak) (Q:(Int × Int)->Prop):Prop :=
 Q ((h_.al.length:Int),0)
def VC23_J4 (h_:ak) (Q:(Int × Int)->Prop) (I1:(List (Int × Int))->Int->Prop) (μ1:(List (Int × Int))->Int->Nat) (v121:List (Int × Int)) (v124:Int) (v137:Bool):Prop :=
 (v137=true ->
 Q (v124,31)) /\
 (v137=false ->
 I1 (dk v121 (((gi h_.al v124).aI).aj) ((gi h_.al v124).ax)) (IntKind.i64.wrap (v124+1))/\μ1 (dk v121 (((gi h_.al v124).aI).aj) ((gi h_.al v124).ax)) (IntKind.i64.wrap (v124+1)) < μ1 v121 v124)
def VC23_J3 (h_:ak) (Q:(Int × Int)->Prop) (I1:(List (Int × Int))->Int->Prop) (μ1:(List (Int × Int))->Int->Nat) (v121:List (Int × Int)) (v124:Int) (v132:Bool):Prop :=
 (v132=true ->
 Q (v124,32)) /\
 (v132=false ->
 (((((gi h_.al v124).aI).bh) == 1)=true ->
 ((0:Int)≤((gi h_.al v124).ax)/\((gi h_.al v124).ax) < (h_.ah.length:Int)) /\
 VC23_J4 h_ Q I1 μ1 v121 v124 (decide ((((gi h_.al v124).aI).N)≥((gi h_.ah ((gi h_.al v124).ax)).aw)))) /\
 (((((gi h_.al v124).aI).bh) == 1)=false ->
 VC23_J4 h_ Q I1 μ1 v121 v124 false))
def VC23_J1 (h_:ak) (Q:(Int × Int)->Prop) (v101:Bool):Prop :=
 (v101=true ->
 Q ((-1),2)) /\
 (v101=false ->
 (lh (⟨h_.ah,h_.al⟩:ak)) /\
 ∀ wP,bl (⟨h_.ah,h_.al⟩:ak)=wP ->
 sm wP ->
 ∀ dy,bA wP=dy ->
 ((dy.2 != 0)=true ->
 Q (dy.1,dy.2)) /\
 ((dy.2 != 0)=false ->
 ∃ (I1:(List (Int × Int))->Int->Prop) (μ1:(List (Int × Int))->Int->Nat),I1 ([]:List (Int × Int)) 0/\∀ (v121:List (Int × Int)) (v124:Int),I1 v121 v124 ->
 ((decide (v124 < (h_.al.length:Int)))=true ->
 ((0:Int)≤v124/\v124 < (h_.al.length:Int)) /\
 (((decide (((gi h_.al v124).ax) < 0)) || (decide (((gi h_.al v124).ax)≥(h_.ah.length:Int))))=true ->
 Q (v124,2)) /\
 (((decide (((gi h_.al v124).ax) < 0)) || (decide (((gi h_.al v124).ax)≥(h_.ah.length:Int))))=false ->
 (((((gi h_.al v124).aI).bh) == 2)=true ->
 VC23_J3 h_ Q I1 μ1 v121 v124 (((aF v121 (((gi h_.al v124).aI).aj)).getD 0) != ((gi h_.al v124).ax))) /\
 (((((gi h_.al v124).aI).bh) == 2)=false ->
 VC23_J3 h_ Q I1 μ1 v121 v124 false))) /\
 ((decide (v124 < (h_.al.length:Int)))=false ->
 VC23_J2 h_ Q)))
def VC23 (h_:ak) (Q:Int × Int->Prop):Prop :=
 sm h_.ah ->
 ∀ (_:sm h_.al),
 (((decide ((h_.ah.length:Int) < 1)) || (decide ((h_.ah.length:Int) > 8)))=true ->
 VC23_J1 h_ Q true) /\
 (((decide ((h_.ah.length:Int) < 1)) || (decide ((h_.ah.length:Int) > 8)))=false ->
 (lj h_.ah) /\
 ∀ zI,a8 h_.ah=zI ->
 VC23_J1 h_ Q zI)
def VC45_J1 (Q:((List au))->Prop) (v101:List au):Prop :=
 Q v101
def VC45 (l_:List az) (Q:(List au)->Prop):Prop :=
 sm l_ ->
 ∃ (I1:(List au)->Int->Prop) (μ1:(List au)->Int->Nat),I1 [] 0/\∀ (v108:List au) (v112:Int),I1 v108 v112 ->
 ((decide (v112 < (l_.length:Int)))=true ->
 ((0:Int)≤v112/\v112 < (l_.length:Int)) /\
 (v108.length+[(gi l_ v112).aI].length≤1099511627776) /\
 I1 (v108++[(gi l_ v112).aI]) (IntKind.i64.wrap (v112+1))/\μ1 (v108++[(gi l_ v112).aI]) (IntKind.i64.wrap (v112+1)) < μ1 v108 v112) /\
 ((decide (v112 < (l_.length:Int)))=false ->
 VC45_J1 Q v108)
def VC59_J1 (Q:Int->Prop):Prop :=
 Q (-1)
def VC59 (l_:List az) (at_:Int) (Q:Int->Prop):Prop :=
 sm l_ ->
 ∃ (I1:Int->Prop) (μ1:Int->Nat),I1 (IntKind.i64.wrap (at_ - 1))/\∀ (v102:Int),I1 v102 ->
 ((decide (v102≥0))=true ->
 ((0:Int)≤v102/\v102 < (l_.length:Int)) /\
 ((0:Int)≤at_/\at_ < (l_.length:Int)) /\
 (((((gi l_ v102).aI).aj) == (((gi l_ at_).aI).aj))=true ->
 ((0:Int)≤v102/\v102 < (l_.length:Int)) /\
 Q ((gi l_ v102).ax)) /\
 (((((gi l_ v102).aI).aj) == (((gi l_ at_).aI).aj))=false ->
 I1 (IntKind.i64.wrap (v102 - 1))/\μ1 (IntKind.i64.wrap (v102 - 1)) < μ1 v102)) /\
 ((decide (v102≥0))=false ->
 VC59_J1 Q)
def VC28_J2 (l_:List az) (Q:(Int × Int)->Prop):Prop :=
 Q ((l_.length:Int),0)
def VC28_J4 (Q:(Int × Int)->Prop) (I1:Int->Prop) (μ1:Int->Nat) (v117:Int) (v126:Bool):Prop :=
 (v126=true ->
 Q (v117,31)) /\
 (v126=false ->
 I1 (IntKind.i64.wrap (v117+1))/\μ1 (IntKind.i64.wrap (v117+1)) < μ1 v117)
def VC28_J3 (objects:List ae) (l_:List az) (Q:(Int × Int)->Prop) (I1:Int->Prop) (μ1:Int->Nat) (v117:Int) (v123:Bool):Prop :=
 (v123=true ->
 Q (v117,32)) /\
 (v123=false ->
 (((((gi l_ v117).aI).bh) == 1)=true ->
 ((0:Int)≤((gi l_ v117).ax)/\((gi l_ v117).ax) < (objects.length:Int)) /\
 VC28_J4 Q I1 μ1 v117 (decide ((((gi l_ v117).aI).N)≥((gi objects ((gi l_ v117).ax)).aw)))) /\
 (((((gi l_ v117).aI).bh) == 1)=false ->
 VC28_J4 Q I1 μ1 v117 false))
def VC28_J1 (objects:List ae) (l_:List az) (Q:(Int × Int)->Prop):Prop :=
 (rY l_) /\
 ∀ f9,bQ l_=f9 ->
 sm f9 ->
 ∀ fS,eR f9=fS ->
 ((fS.2 != 0)=true ->
 Q (fS.1,fS.2)) /\
 ((fS.2 != 0)=false ->
 ∃ (I1:Int->Prop) (μ1:Int->Nat),I1 0/\∀ (v117:Int),I1 v117 ->
 ((decide (v117 < (l_.length:Int)))=true ->
 ((0:Int)≤v117/\v117 < (l_.length:Int)) /\
 (((decide (((gi l_ v117).ax) < 0)) || (decide (((gi l_ v117).ax)≥(objects.length:Int))))=true ->
 Q (v117,2)) /\
 (((decide (((gi l_ v117).ax) < 0)) || (decide (((gi l_ v117).ax)≥(objects.length:Int))))=false ->
 (((((gi l_ v117).aI).bh) == 2)=true ->
 (tr l_ v117) /\
 ∀ mE,fC l_ v117=mE ->
 VC28_J3 objects l_ Q I1 μ1 v117 (mE != ((gi l_ v117).ax))) /\
 (((((gi l_ v117).aI).bh) == 2)=false ->
 VC28_J3 objects l_ Q I1 μ1 v117 false))) /\
 ((decide (v117 < (l_.length:Int)))=false ->
 VC28_J2 l_ Q))
def VC28 (objects:List ae) (l_:List az) (Q:Int × Int->Prop):Prop :=
 sm objects ->
 ∀ (_:sm l_),
 (((decide ((objects.length:Int) < 1)) || (decide ((objects.length:Int) > 8)))=true ->
 Q ((-1),2)) /\
 (((decide ((objects.length:Int) < 1)) || (decide ((objects.length:Int) > 8)))=false ->
 ∃ (I2:Int->Prop) (μ2:Int->Nat),I2 0/\∀ (v152:Int),I2 v152 ->
 ((decide (v152 < (objects.length:Int)))=true ->
 ((0:Int)≤v152/\v152 < (objects.length:Int)) /\
 ∀ (_:sm ((gi objects v152).Rows)),
 ∀ uM,cJ (gi objects v152)=uM ->
 ((uM.2 != 0)=true ->
 Q ((-1),2)) /\
 ((uM.2 != 0)=false ->
 I2 (IntKind.i64.wrap (v152+1))/\μ2 (IntKind.i64.wrap (v152+1)) < μ2 v152)) /\
 ((decide (v152 < (objects.length:Int)))=false ->
 VC28_J1 objects l_ Q))
def VC48 (i_:Int) (am:ak) (av:Int) (Q:Bool->Prop):Prop :=
 sm am.ah ->
 ∀ (_:sm am.al),
 ((0:Int)≤i_/\i_ < (am.al.length:Int)) /\
 Q (((gi am.al i_).ax) == av)
def VC46_48_J1 (Q:((List au))->Prop) (v101:List au):Prop :=
 Q v101
def VC46_48_J2 (I1:(List au)->Int->Prop) (μ1:(List au)->Int->Nat) (v109:List au) (v114:Int) (v117:List au):Prop :=
 I1 v117 (IntKind.i64.wrap (v114+1))/\μ1 v117 (IntKind.i64.wrap (v114+1)) < μ1 v109 v114
def VC46_48 (l_:List au) (am:ak) (av:Int) (Q:(List au)->Prop):Prop :=
 sm l_ ->
 ∀ (_:sm am.ah),
 sm am.al ->
 ∃ (I1:(List au)->Int->Prop) (μ1:(List au)->Int->Nat),I1 [] 0/\∀ (v109:List au) (v114:Int),I1 v109 v114 ->
 ((decide (v114 < (l_.length:Int)))=true ->
 ((0:Int)≤v114/\v114 < (l_.length:Int)) /\
 (x4 v114 (⟨am.ah,am.al⟩:ak) av) /\
 ∀ tp,eN v114 (⟨am.ah,am.al⟩:ak) av=tp ->
 (tp=true ->
 (v109.length+[(gi l_ v114)].length≤1099511627776) /\
 VC46_48_J2 I1 μ1 v109 v114 (v109++[(gi l_ v114)])) /\
 (tp=false ->
 VC46_48_J2 I1 μ1 v109 v114 v109)) /\
 ((decide (v114 < (l_.length:Int)))=false ->
 VC46_48_J1 Q v109)
def VC17 (h_:ak) (k_:Int) (Q:fO->Prop):Prop :=
 sm h_.ah ->
 ∀ (_:sm h_.al),
 (gg h_) /\
 ∀ ap,aB h_=ap ->
 ((((ap.2 != 0) || (decide (k_ < 0))) || (decide (k_≥(h_.ah.length:Int))))=true ->
 Q (⟨(⟨0,0,0,[]⟩:ae),[]⟩:fO)) /\
 ((((ap.2 != 0) || (decide (k_ < 0))) || (decide (k_≥(h_.ah.length:Int))))=false ->
 (lh h_) /\
 ∀ fp,bl h_=fp ->
 sm fp ->
 (ya fp h_ k_) /\
 ∀ d7,bO fp h_ k_=d7 ->
 sm d7 ->
 ((0:Int)≤k_/\k_ < (h_.ah.length:Int)) /\
 ∀ (_:sm ((gi h_.ah k_).Rows)),
 (yl ((gi h_.ah k_).Rows)) /\
 ∀ iT,cY ((gi h_.ah k_).Rows)=iT ->
 sm iT ->
 Q (⟨(⟨(gi h_.ah k_).ar,(gi h_.ah k_).aw,(gi h_.ah k_).aC,iT⟩:ae),d7⟩:fO))
def VC29_J1 (Q:((List au) × Bool)->Prop) (v105:List au):Prop :=
 Q (v105,true)
def VC29_J2 (I1:(List au)->Int->Prop) (μ1:(List au)->Int->Nat) (v112:List au) (v116:Int) (v118:List au):Prop :=
 I1 v118 (IntKind.i64.wrap (v116+1))/\μ1 v118 (IntKind.i64.wrap (v116+1)) < μ1 v112 v116
def VC29 (objects:List ae) (l_:List az) (k_:Int) (Q:(List au) × Bool->Prop):Prop :=
 sm objects ->
 ∀ (_:sm l_),
 (jl objects l_) /\
 ∀ ap,cc objects l_=ap ->
 ((((ap.2 != 0) || (decide (k_ < 0))) || (decide (k_≥(objects.length:Int))))=true ->
 Q ([],false)) /\
 ((((ap.2 != 0) || (decide (k_ < 0))) || (decide (k_≥(objects.length:Int))))=false ->
 ∃ (I1:(List au)->Int->Prop) (μ1:(List au)->Int->Nat),I1 [] 0/\∀ (v112:List au) (v116:Int),I1 v112 v116 ->
 ((decide (v116 < (l_.length:Int)))=true ->
 ((0:Int)≤v116/\v116 < (l_.length:Int)) /\
 ((((gi l_ v116).ax) == k_)=true ->
 ((0:Int)≤v116/\v116 < (l_.length:Int)) /\
 (v112.length+[(gi l_ v116).aI].length≤1099511627776) /\
 VC29_J2 I1 μ1 v112 v116 (v112++[(gi l_ v116).aI])) /\
 ((((gi l_ v116).ax) == k_)=false ->
 VC29_J2 I1 μ1 v112 v116 v112)) /\
 ((decide (v116 < (l_.length:Int)))=false ->
 VC29_J1 Q v112))
def VC24_J1 (Q:((List ab) × (List Int))->Prop) (cZ:(List ab) × Int) (v120:List Int):Prop :=
 Q (cZ.1,v120)
def VC24 (h_:ak) (Q:(List ab) × (List Int)->Prop):Prop :=
 sm h_.ah ->
 ∀ (_:sm h_.al),
 (gg h_) /\
 ∀ ap,aB h_=ap ->
 ((ap.2 != 0)=true ->
 Q ([],[])) /\
 ((ap.2 != 0)=false ->
 (lh h_) /\
 ∀ aV,bl h_=aV ->
 sm aV ->
 ∀ cZ,fD aV=cZ ->
 sm cZ.1 ->
 ∃ (I1:(List Int)->Int->Prop) (μ1:(List Int)->Int->Nat),I1 [] 0/\∀ (v127:List Int) (v132:Int),I1 v127 v132 ->
 ((decide (v132 < (cZ.1.length:Int)))=true ->
 ((0:Int)≤v132/\v132 < (cZ.1.length:Int)) /\
 ((0:Int)≤((gi cZ.1 v132).aE)/\((gi cZ.1 v132).aE) < (h_.al.length:Int)) /\
 (v127.length+[(gi h_.al ((gi cZ.1 v132).aE)).ax].length≤1099511627776) /\
 I1 (v127++[(gi h_.al ((gi cZ.1 v132).aE)).ax]) (IntKind.i64.wrap (v132+1))/\μ1 (v127++[(gi h_.al ((gi cZ.1 v132).aE)).ax]) (IntKind.i64.wrap (v132+1)) < μ1 v127 v132) /\
 ((decide (v132 < (cZ.1.length:Int)))=false ->
 VC24_J1 Q cZ v127))
def VC16_J1 (Q:((List ab) × (List Int))->Prop) (cZ:(List ab) × Int) (v120:List Int):Prop :=
 Q (cZ.1,v120)
def VC16 (objects:List ae) (l_:List az) (Q:(List ab) × (List Int)->Prop):Prop :=
 sm objects ->
 ∀ (_:sm l_),
 (jl objects l_) /\
 ∀ ap,cc objects l_=ap ->
 ((ap.2 != 0)=true ->
 Q ([],[])) /\
 ((ap.2 != 0)=false ->
 (rY l_) /\
 ∀ aV,bQ l_=aV ->
 sm aV ->
 ∀ cZ,eu aV=cZ ->
 sm cZ.1 ->
 ∃ (I1:(List Int)->Int->Prop) (μ1:(List Int)->Int->Nat),I1 [] 0/\∀ (v128:List Int) (v132:Int),I1 v128 v132 ->
 ((decide (v132 < (cZ.1.length:Int)))=true ->
 ((0:Int)≤v132/\v132 < (cZ.1.length:Int)) /\
 ((0:Int)≤((gi cZ.1 v132).aE)/\((gi cZ.1 v132).aE) < (l_.length:Int)) /\
 (v128.length+[(gi l_ ((gi cZ.1 v132).aE)).ax].length≤1099511627776) /\
 I1 (v128++[(gi l_ ((gi cZ.1 v132).aE)).ax]) (IntKind.i64.wrap (v132+1))/\μ1 (v128++[(gi l_ ((gi cZ.1 v132).aE)).ax]) (IntKind.i64.wrap (v132+1)) < μ1 v128 v132) /\
 ((decide (v132 < (cZ.1.length:Int)))=false ->
 VC16_J1 Q cZ v128))
def VC41 (h_:ak) (Q:(List ab) × (List Int) × Int->Prop):Prop :=
 sm h_.ah ->
 ∀ (_:sm h_.al),
 (gg h_) /\
 ∀ ap,aB h_=ap ->
 ((ap.2 != 0)=true ->
 Q ([],[],ap.2)) /\
 ((ap.2 != 0)=false ->
 (gg h_) /\
 ∀ aV,cV h_=aV ->
 sm aV.1 ->
 ∀ (_:sm aV.2),
 ((decide ((aV.1.length:Int) > 20))=true ->
 Q ([],[],3)) /\
 ((decide ((aV.1.length:Int) > 20))=false ->
 Q (aV.1,aV.2,0)))
def VC69_J1 (Q:((List Int))->Prop) (v101:List Int):Prop :=
 Q v101
def VC69_J2 (I1:(List Int)->Int->Prop) (μ1:(List Int)->Int->Nat) (v107:List Int) (v112:Int) (v113:List Int):Prop :=
 I1 v113 (IntKind.i64.wrap (v112+1))/\μ1 v113 (IntKind.i64.wrap (v112+1)) < μ1 v107 v112
def VC69 (of:List Int) (k_:Int) (Q:(List Int)->Prop):Prop :=
 sm of ->
 ∃ (I1:(List Int)->Int->Prop) (μ1:(List Int)->Int->Nat),I1 [] 0/\∀ (v107:List Int) (v112:Int),I1 v107 v112 ->
 ((decide (v112 < (of.length:Int)))=true ->
 ((0:Int)≤v112/\v112 < (of.length:Int)) /\
 (((gi of v112) == k_)=true ->
 (v107.length+[v112].length≤1099511627776) /\
 VC69_J2 I1 μ1 v107 v112 (v107++[v112])) /\
 (((gi of v112) == k_)=false ->
 VC69_J2 I1 μ1 v107 v112 v107)) /\
 ((decide (v112 < (of.length:Int)))=false ->
 VC69_J1 Q v107)
def VC72 (i_:Int) (am:List Int) (av:Int) (Q:Bool->Prop):Prop :=
 sm am ->
 ((0:Int)≤i_/\i_ < (am.length:Int)) /\
 Q ((gi am i_) == av)
def VC71_72_J1 (Q:((List ab))->Prop) (v101:List ab):Prop :=
 Q v101
def VC71_72_J2 (I1:(List ab)->Int->Prop) (μ1:(List ab)->Int->Nat) (v108:List ab) (v113:Int) (v115:List ab):Prop :=
 I1 v115 (IntKind.i64.wrap (v113+1))/\μ1 v115 (IntKind.i64.wrap (v113+1)) < μ1 v108 v113
def VC71_72 (l_:List ab) (am:List Int) (av:Int) (Q:(List ab)->Prop):Prop :=
 sm l_ ->
 ∀ (_:sm am),
 ∃ (I1:(List ab)->Int->Prop) (μ1:(List ab)->Int->Nat),I1 [] 0/\∀ (v108:List ab) (v113:Int),I1 v108 v113 ->
 ((decide (v113 < (l_.length:Int)))=true ->
 ((0:Int)≤v113/\v113 < (l_.length:Int)) /\
 (tq v113 am av) /\
 ∀ zL,dp v113 am av=zL ->
 (zL=true ->
 (v108.length+[(gi l_ v113)].length≤1099511627776) /\
 VC71_72_J2 I1 μ1 v108 v113 (v108++[(gi l_ v113)])) /\
 (zL=false ->
 VC71_72_J2 I1 μ1 v108 v113 v108)) /\
 ((decide (v113 < (l_.length:Int)))=false ->
 VC71_72_J1 Q v108)
def VC42_J1 (Q:((List (List aa)) × Int)->Prop) (v101:List (List aa)):Prop :=
 Q (v101,0)
def VC42_J2 (I1:(List (List aa))->Int->Prop) (μ1:(List (List aa))->Int->Nat) (v108:List (List aa)) (v113:Int) (v147:List (List aa)) (v151:List aa):Prop :=
 (v147.length+[v151].length≤1099511627776) /\
 I1 (v147++[v151]) (IntKind.i64.wrap (v113+1))/\μ1 (v147++[v151]) (IntKind.i64.wrap (v113+1)) < μ1 v108 v113
def VC42 (h_:ak) (l_:List ab) (of:List Int) (Q:(List (List aa)) × Int->Prop):Prop :=
 sm h_.ah ->
 ∀ (_:sm h_.al),
 sm l_ ->
 ∀ (_:sm of),
 ∃ (I1:(List (List aa))->Int->Prop) (μ1:(List (List aa))->Int->Nat),I1 [] 0/\∀ (v108:List (List aa)) (v113:Int),I1 v108 v113 ->
 ((decide (v113 < (h_.ah.length:Int)))=true ->
 ((0:Int)≤v113/\v113 < (h_.ah.length:Int)) /\
 ∀ (_:sm ((gi h_.ah v113).Rows)),
 (r6 of v113) /\
 ∀ dF,bo of v113=dF ->
 sm dF ->
 (x7 l_ of v113) /\
 ∀ jB,bw l_ of v113=jB ->
 sm jB ->
 (xX (gi h_.ah v113) jB) /\
 ∀ bV,bk (gi h_.ah v113) jB=bV ->
 sm bV.1 ->
 ((bV.2 != 0)=true ->
 Q ([],bV.2)) /\
 ((bV.2 != 0)=false ->
 ∃ (I2:(List (List aa))->(List aa)->Int->Prop) (μ2:(List (List aa))->(List aa)->Int->Nat),I2 v108 bV.1 0/\∀ (v169:List (List aa)) (v174:List aa) (v179:Int),I2 v169 v174 v179 ->
 ((decide (v179 < (bV.1.length:Int)))=true ->
 ((0:Int)≤v179/\v179 < (v174.length:Int)) /\
 ((0:Int)≤((gi v174 v179).Oper)/\((gi v174 v179).Oper) < (dF.length:Int)) /\
 ((0:Int)≤v179/\v179 < (v174.length:Int)) /\
 I2 v169 (v174.set v179.toNat (⟨gi dF ((gi v174 v179).Oper),(gi v174 v179).Result⟩:aa)) (IntKind.i64.wrap (v179+1))/\μ2 v169 (v174.set v179.toNat (⟨gi dF ((gi v174 v179).Oper),(gi v174 v179).Result⟩:aa)) (IntKind.i64.wrap (v179+1)) < μ2 v169 v174 v179) /\
 ((decide (v179 < (bV.1.length:Int)))=false ->
 VC42_J2 I1 μ1 v108 v113 v169 v174))) /\
 ((decide (v113 < (h_.ah.length:Int)))=false ->
 VC42_J1 Q v108)
def VC91_J1 (Q:((List aa))->Prop) (v101:List aa):Prop :=
 Q v101
def VC91 (n_:Int) (Q:(List aa)->Prop):Prop :=
 ((decide (n_ < 0))=true ->
 False) /\
 ((decide (n_ < 0))=false ->
 ((decide ((IntKind.i64.wrap (n_ - (IntKind.i64.wrap (0 - 0)))) > 0))=true ->
 ((0:Int)≤0/\0≤(([]:List aa).length:Int)) /\
 ((0:Int) < (IntKind.i64.wrap (n_ - (IntKind.i64.wrap (0 - 0))))/\(IntKind.i64.wrap (n_ - (IntKind.i64.wrap (0 - 0))))≤1099511627776) /\
 ((0:Int)≤0/\0≤((List.replicate (IntKind.i64.wrap (n_ - (IntKind.i64.wrap (0 - 0)))).toNat (⟨0,0⟩:aa)).length:Int)) /\
 VC91_J1 Q ((List.replicate (IntKind.i64.wrap (n_ - (IntKind.i64.wrap (0 - 0)))).toNat (⟨0,0⟩:aa)).take (0:Int).toNat)) /\
 ((decide ((IntKind.i64.wrap (n_ - (IntKind.i64.wrap (0 - 0)))) > 0))=false ->
 VC91_J1 Q []))
def VC73_J2 (Q:((List aa))->Prop) (v110:List aa):Prop :=
 Q v110
def VC73_J1 (bU:List (List aa)) (Q:((List aa))->Prop) (v102:Int):Prop :=
 (yh v102) /\
 ∀ f9,ct v102=f9 ->
 sm f9 ->
 ∃ (I1:(List aa)->Int->Prop) (μ1:(List aa)->Int->Nat),I1 f9 0/\∀ (v116:List aa) (v121:Int),I1 v116 v121 ->
 ((decide (v121 < (bU.length:Int)))=true ->
 ((0:Int)≤v121/\v121 < (bU.length:Int)) /\
 ∀ (_:sm (gi bU v121)),
 (v116.length+(gi bU v121).length≤1099511627776) /\
 I1 (v116++(gi bU v121)) (IntKind.i64.wrap (v121+1))/\μ1 (v116++(gi bU v121)) (IntKind.i64.wrap (v121+1)) < μ1 v116 v121) /\
 ((decide (v121 < (bU.length:Int)))=false ->
 VC73_J2 Q v116)
def VC73 (bU:List (List aa)) (Q:(List aa)->Prop):Prop :=
 sm bU ->
 ∃ (I2:Int->Int->Prop) (μ2:Int->Int->Nat),I2 0 0/\∀ (v138:Int) (v140:Int),I2 v138 v140 ->
 ((decide (v140 < (bU.length:Int)))=true ->
 ((0:Int)≤v140/\v140 < (bU.length:Int)) /\
 ∀ (_:sm (gi bU v140)),
 ((decide ((IntKind.i64.wrap (v138+((gi bU v140).length:Int))) < 0))=true ->
 False) /\
 ((decide ((IntKind.i64.wrap (v138+((gi bU v140).length:Int))) < 0))=false ->
 I2 (IntKind.i64.wrap (v138+((gi bU v140).length:Int))) (IntKind.i64.wrap (v140+1))/\μ2 (IntKind.i64.wrap (v138+((gi bU v140).length:Int))) (IntKind.i64.wrap (v140+1)) < μ2 v138 v140)) /\
 ((decide (v140 < (bU.length:Int)))=false ->
 VC73_J1 bU Q v138)
def VC43_J2 (Q:((List aa) × (List (Int × Int)))->Prop) (ap:(List aa)) (v115:List (Int × Int)):Prop :=
 Q (ap,v115)
def VC43_J3 (I1:(List (Int × Int))->Int->Prop) (μ1:(List (Int × Int))->Int->Nat) (v123:List (Int × Int)) (v128:Int) (v131:List (Int × Int)):Prop :=
 I1 v131 (IntKind.i64.wrap (v128+1))/\μ1 v131 (IntKind.i64.wrap (v128+1)) < μ1 v123 v128
def VC43_J4 (I2:(List (Int × Int))->Int->Prop) (μ2:(List (Int × Int))->Int->Nat) (v141:List (Int × Int)) (v147:Int) (v150:List (Int × Int)):Prop :=
 I2 v150 (IntKind.i64.wrap (v147+1))/\μ2 v150 (IntKind.i64.wrap (v147+1)) < μ2 v141 v147
def VC43_J1 (l_:List ab) (Q:((List aa) × (List (Int × Int)))->Prop) (ap:(List aa)) (v110:List (Int × Int)):Prop :=
 ∃ (I1:(List (Int × Int))->Int->Prop) (μ1:(List (Int × Int))->Int->Nat),I1 v110 0/\∀ (v123:List (Int × Int)) (v128:Int),I1 v123 v128 ->
 ((decide (v128 < (ap.length:Int)))=true ->
 ((0:Int)≤v128/\v128 < (ap.length:Int)) /\
 ∃ (I2:(List (Int × Int))->Int->Prop) (μ2:(List (Int × Int))->Int->Nat),I2 v123 0/\∀ (v141:List (Int × Int)) (v147:Int),I2 v141 v147 ->
 ((decide (v147 < (ap.length:Int)))=true ->
 ((0:Int)≤v147/\v147 < (ap.length:Int)) /\
 ((0:Int)≤((gi ap v128).Oper)/\((gi ap v128).Oper) < (l_.length:Int)) /\
 ((0:Int)≤((gi ap v147).Oper)/\((gi ap v147).Oper) < (l_.length:Int)) /\
 ∀ uL,aZ (gi l_ ((gi ap v128).Oper)) (gi l_ ((gi ap v147).Oper))=uL ->
 (uL=true ->
 (v141.length+[(v128,v147)].length≤1099511627776) /\
 VC43_J4 I2 μ2 v141 v147 (v141++[(v128,v147)])) /\
 (uL=false ->
 VC43_J4 I2 μ2 v141 v147 v141)) /\
 ((decide (v147 < (ap.length:Int)))=false ->
 VC43_J3 I1 μ1 v123 v128 v141)) /\
 ((decide (v128 < (ap.length:Int)))=false ->
 VC43_J2 Q ap v123)
def VC43_J5 (rows:List (List aa)) (I3:(List (Int × Int))->Int->Int->Prop) (μ3:(List (Int × Int))->Int->Int->Nat) (v196:List (Int × Int)) (v200:Int) (v202:Int) (v211:List (Int × Int)):Prop :=
 I3 v211 (IntKind.i64.wrap (v200+((gi rows v202).length:Int))) (IntKind.i64.wrap (v202+1))/\μ3 v211 (IntKind.i64.wrap (v200+((gi rows v202).length:Int))) (IntKind.i64.wrap (v202+1)) < μ3 v196 v200 v202
def VC43 (l_:List ab) (rows:List (List aa)) (Q:(List aa) × (List (Int × Int))->Prop):Prop :=
 sm l_ ->
 ∀ (_:sm rows),
 (r9 rows) /\
 ∀ ap,cd rows=ap ->
 sm ap ->
 ∃ (I3:(List (Int × Int))->Int->Int->Prop) (μ3:(List (Int × Int))->Int->Int->Nat),I3 [] 0 0/\∀ (v196:List (Int × Int)) (v200:Int) (v202:Int),I3 v196 v200 v202 ->
 ((decide (v202 < (rows.length:Int)))=true ->
 ((0:Int)≤v202/\v202 < (rows.length:Int)) /\
 ∀ (_:sm (gi rows v202)),
 ∃ (I4:(List (Int × Int))->Int->Prop) (μ4:(List (Int × Int))->Int->Nat),I4 v196 1/\∀ (v219:List (Int × Int)) (v224:Int),I4 v219 v224 ->
 ((decide (v224 < ((gi rows v202).length:Int)))=true ->
 (v219.length+[(IntKind.i64.wrap ((IntKind.i64.wrap (v200+v224)) - 1),IntKind.i64.wrap (v200+v224))].length≤1099511627776) /\
 I4 (v219++[(IntKind.i64.wrap ((IntKind.i64.wrap (v200+v224)) - 1),IntKind.i64.wrap (v200+v224))]) (IntKind.i64.wrap (v224+1))/\μ4 (v219++[(IntKind.i64.wrap ((IntKind.i64.wrap (v200+v224)) - 1),IntKind.i64.wrap (v200+v224))]) (IntKind.i64.wrap (v224+1)) < μ4 v219 v224) /\
 ((decide (v224 < ((gi rows v202).length:Int)))=false ->
 VC43_J5 rows I3 μ3 v196 v200 v202 v219)) /\
 ((decide (v202 < (rows.length:Int)))=false ->
 VC43_J1 l_ Q ap v196)
def VC15_J1 (Q:((List aa) × Int)->Prop) (v139:List aa):Prop :=
 Q (v139,0)
def VC15 (h_:ak) (Q:(List aa) × Int->Prop):Prop :=
 sm h_.ah ->
 ∀ (_:sm h_.al),
 (gg h_) /\
 ∀ ap,cq h_=ap ->
 sm ap.1 ->
 ∀ (_:sm ap.2.1),
 ((ap.2.2 != 0)=true ->
 Q ([],ap.2.2)) /\
 ((ap.2.2 != 0)=false ->
 (x3 h_ ap.1 ap.2.1) /\
 ∀ dy,cC h_ ap.1 ap.2.1=dy ->
 sm dy.1 ->
 ((dy.2 != 0)=true ->
 Q ([],dy.2)) /\
 ((dy.2 != 0)=false ->
 (uR ap.1 dy.1) /\
 ∀ d8,cS ap.1 dy.1=d8 ->
 sm d8.1 ->
 ∀ (_:sm d8.2),
 ∀ fb,dc (d8.1.length:Int) d8.2=fb ->
 sm fb.1 ->
 ((!fb.2)=true ->
 Q ([],41)) /\
 ((!fb.2)=false ->
 ∃ (I1:(List aa)->Int->Prop) (μ1:(List aa)->Int->Nat),I1 ([]:List aa) 0/\∀ (v146:List aa) (v151:Int),I1 v146 v151 ->
 ((decide (v151 < (fb.1.length:Int)))=true ->
 ((0:Int)≤v151/\v151 < (fb.1.length:Int)) /\
 ((0:Int)≤(gi fb.1 v151)/\(gi fb.1 v151) < (d8.1.length:Int)) /\
 (v146.length+[gi d8.1 (gi fb.1 v151)].length≤1099511627776) /\
 I1 (v146++[gi d8.1 (gi fb.1 v151)]) (IntKind.i64.wrap (v151+1))/\μ1 (v146++[gi d8.1 (gi fb.1 v151)]) (IntKind.i64.wrap (v151+1)) < μ1 v146 v151) /\
 ((decide (v151 < (fb.1.length:Int)))=false ->
 VC15_J1 Q v146))))
def VC9 (h_:ak) (Q:Bool × Int->Prop):Prop :=
 sm h_.ah ->
 ∀ (_:sm h_.al),
 (gg h_) /\
 ∀ ap,cI h_=ap ->
 sm ap.1 ->
 ((ap.2 == 41)=true ->
 Q (false,0)) /\
 ((ap.2 == 41)=false ->
 Q ((ap.2 == 0),ap.2))
def VC32 (i_:Int) (am:List aa) (av:List ab) (aN:List Int) (bC:Int) (Q:Bool->Prop):Prop :=
 sm am ->
 ∀ (_:sm av),
 sm aN ->
 ((0:Int)≤i_/\i_ < (am.length:Int)) /\
 (((decide (((gi am i_).Oper) < 0)) || (decide (((gi am i_).Oper)≥(av.length:Int))))=true ->
 Q true) /\
 (((decide (((gi am i_).Oper) < 0)) || (decide (((gi am i_).Oper)≥(av.length:Int))))=false ->
 ((0:Int)≤((gi am i_).Oper)/\((gi am i_).Oper) < (aN.length:Int)) /\
 Q ((gi aN ((gi am i_).Oper)) == bC))
def VC31_32_J1 (Q:((List aa))->Prop) (v101:List aa):Prop :=
 Q v101
def VC31_32_J2 (I1:(List aa)->Int->Prop) (μ1:(List aa)->Int->Nat) (v110:List aa) (v115:Int) (v119:List aa):Prop :=
 I1 v119 (IntKind.i64.wrap (v115+1))/\μ1 v119 (IntKind.i64.wrap (v115+1)) < μ1 v110 v115
def VC31_32 (l_:List aa) (am:List aa) (av:List ab) (aN:List Int) (bC:Int) (Q:(List aa)->Prop):Prop :=
 sm l_ ->
 ∀ (_:sm am),
 sm av ->
 ∀ (_:sm aN),
 ∃ (I1:(List aa)->Int->Prop) (μ1:(List aa)->Int->Nat),I1 [] 0/\∀ (v110:List aa) (v115:Int),I1 v110 v115 ->
 ((decide (v115 < (l_.length:Int)))=true ->
 ((0:Int)≤v115/\v115 < (l_.length:Int)) /\
 (yf v115 am av aN bC) /\
 ∀ jB,dI v115 am av aN bC=jB ->
 (jB=true ->
 (v110.length+[(gi l_ v115)].length≤1099511627776) /\
 VC31_32_J2 I1 μ1 v110 v115 (v110++[(gi l_ v115)])) /\
 (jB=false ->
 VC31_32_J2 I1 μ1 v110 v115 v110)) /\
 ((decide (v115 < (l_.length:Int)))=false ->
 VC31_32_J1 Q v110)
def VC12_J1 (ac:List aa) (Q:Bool->Prop) (aV:(List ab) × (List Int)):Prop :=
 ∀ jT,cA aV.1 ac=jT ->
 ((decide (jT < 0))=true ->
 (ql aV.1 ac) /\
 ∀ dF,b7 aV.1 ac=dF ->
 sm dF ->
 Q ((dF.length:Int) == 0)) /\
 ((decide (jT < 0))=false ->
 Q false)
def VC12 (h_:ak) (ac:List aa) (Q:Bool->Prop):Prop :=
 sm h_.ah ->
 ∀ (_:sm h_.al),
 sm ac ->
 (gg h_) /\
 ∀ ap,aB h_=ap ->
 ((ap.2 != 0)=true ->
 Q false) /\
 ((ap.2 != 0)=false ->
 (gg h_) /\
 ∀ aV,cV h_=aV ->
 sm aV.1 ->
 ∀ (_:sm aV.2),
 ∃ (I1:Int->Prop) (μ1:Int->Nat),I1 0/\∀ (v129:Int),I1 v129 ->
 ((decide (v129 < (h_.ah.length:Int)))=true ->
 ((0:Int)≤v129/\v129 < (h_.ah.length:Int)) /\
 ∀ (_:sm ((gi h_.ah v129).Rows)),
 (ye ac ac aV.1 aV.2 v129) /\
 ∀ bV,bN ac ac aV.1 aV.2 v129=bV ->
 sm bV ->
 (lk (gi h_.ah v129) aV.1 bV) /\
 ∀ uO,cg (gi h_.ah v129) aV.1 bV=uO ->
 ((uO.2.2 != 0)=true ->
 Q false) /\
 ((uO.2.2 != 0)=false ->
 I1 (IntKind.i64.wrap (v129+1))/\μ1 (IntKind.i64.wrap (v129+1)) < μ1 v129)) /\
 ((decide (v129 < (h_.ah.length:Int)))=false ->
 VC12_J1 ac Q aV))
def VC10_J1 (Q:(Bool × Int)->Prop):Prop :=
 Q (true,0)
def VC10 (objects:List ae) (l_:List az) (Q:Bool × Int->Prop):Prop :=
 sm objects ->
 ∀ (_:sm l_),
 (jl objects l_) /\
 ∀ ap,cc objects l_=ap ->
 ((ap.2 != 0)=true ->
 Q (false,ap.2)) /\
 ((ap.2 != 0)=false ->
 (jl objects l_) /\
 ∀ aV,cU objects l_=aV ->
 sm aV.1 ->
 ∀ (_:sm aV.2),
 ((decide ((aV.1.length:Int) > 20))=true ->
 Q (false,3)) /\
 ((decide ((aV.1.length:Int) > 20))=false ->
 ∃ (I1:Int->Prop) (μ1:Int->Nat),I1 0/\∀ (v117:Int),I1 v117 ->
 ((decide (v117 < (objects.length:Int)))=true ->
 (pL objects l_ v117) /\
 ∀ d8,de objects l_ v117=d8 ->
 sm d8.1 ->
 ∀ bI,eu d8.1=bI ->
 sm bI.1 ->
 ((0:Int)≤v117/\v117 < (objects.length:Int)) /\
 ∀ (_:sm ((gi objects v117).Rows)),
 (yn (gi objects v117) bI.1) /\
 ∀ mE,eV (gi objects v117) bI.1=mE ->
 sm mE ->
 (((mE.length:Int) == 0)=true ->
 Q (false,0)) /\
 (((mE.length:Int) == 0)=false ->
 I1 (IntKind.i64.wrap (v117+1))/\μ1 (IntKind.i64.wrap (v117+1)) < μ1 v117)) /\
 ((decide (v117 < (objects.length:Int)))=false ->
 VC10_J1 Q)))
def VC13_J2 (ac:List aa) (Q:Bool->Prop) (aV:(List ab) × (List Int)):Prop :=
 ∀ dF,eB aV.1 ac=dF ->
 ((decide (dF < 0))=true ->
 (rZ aV.1 ac false) /\
 ∀ bI,eL aV.1 ac false=bI ->
 sm bI ->
 Q ((bI.length:Int) == 0)) /\
 ((decide (dF < 0))=false ->
 Q false)
def VC13_J3 (objects:List ae) (Q:Bool->Prop) (aV:(List ab) × (List Int)) (I1:Int->Prop) (μ1:Int->Nat) (v136:Int) (v141:List aa):Prop :=
 ((0:Int)≤v136/\v136 < (objects.length:Int)) /\
 ∀ (_:sm ((gi objects v136).Rows)),
 ((0:Int)≤v136/\v136 < (objects.length:Int)) /\
 ∀ uN,bL (gi objects v136) aV.1 ((gi objects v136).aC) v141=uN ->
 ((uN.2.2 != 0)=true ->
 Q false) /\
 ((uN.2.2 != 0)=false ->
 I1 (IntKind.i64.wrap (v136+1))/\μ1 (IntKind.i64.wrap (v136+1)) < μ1 v136)
def VC13_J4 (I2:(List aa)->Int->Prop) (μ2:(List aa)->Int->Nat) (v166:List aa) (v170:Int) (v175:List aa):Prop :=
 I2 v175 (IntKind.i64.wrap (v170+1))/\μ2 v175 (IntKind.i64.wrap (v170+1)) < μ2 v166 v170
def VC13_J1 (objects:List ae) (ac:List aa) (Q:Bool->Prop) (aV:(List ab) × (List Int)):Prop :=
 ∃ (I1:Int->Prop) (μ1:Int->Nat),I1 0/\∀ (v136:Int),I1 v136 ->
 ((decide (v136 < (objects.length:Int)))=true ->
 ∃ (I2:(List aa)->Int->Prop) (μ2:(List aa)->Int->Nat),I2 [] 0/\∀ (v166:List aa) (v170:Int),I2 v166 v170 ->
 ((decide (v170 < (ac.length:Int)))=true ->
 ((0:Int)≤v170/\v170 < (ac.length:Int)) /\
 ((0:Int)≤((gi ac v170).Oper)/\((gi ac v170).Oper) < (aV.2.length:Int)) /\
 (((gi aV.2 ((gi ac v170).Oper)) == v136)=true ->
 ((0:Int)≤v170/\v170 < (ac.length:Int)) /\
 (v166.length+[gi ac v170].length≤1099511627776) /\
 VC13_J4 I2 μ2 v166 v170 (v166++[gi ac v170])) /\
 (((gi aV.2 ((gi ac v170).Oper)) == v136)=false ->
 VC13_J4 I2 μ2 v166 v170 v166)) /\
 ((decide (v170 < (ac.length:Int)))=false ->
 VC13_J3 objects Q aV I1 μ1 v136 v166)) /\
 ((decide (v136 < (objects.length:Int)))=false ->
 VC13_J2 ac Q aV)
def VC13_J5 (Q:Bool->Prop) (I3:Int->Prop) (μ3:Int->Nat) (v213:Int) (v218:Bool):Prop :=
 (v218=true ->
 Q false) /\
 (v218=false ->
 I3 (IntKind.i64.wrap (v213+1))/\μ3 (IntKind.i64.wrap (v213+1)) < μ3 v213)
def VC13 (objects:List ae) (l_:List az) (ac:List aa) (Q:Bool->Prop):Prop :=
 sm objects ->
 ∀ (_:sm l_),
 sm ac ->
 (jl objects l_) /\
 ∀ ap,cc objects l_=ap ->
 ((ap.2 != 0)=true ->
 Q false) /\
 ((ap.2 != 0)=false ->
 (jl objects l_) /\
 ∀ aV,cU objects l_=aV ->
 sm aV.1 ->
 ∀ (_:sm aV.2),
 ∃ (I3:Int->Prop) (μ3:Int->Nat),I3 0/\∀ (v213:Int),I3 v213 ->
 ((decide (v213 < (ac.length:Int)))=true ->
 ((0:Int)≤v213/\v213 < (ac.length:Int)) /\
 ((decide (((gi ac v213).Oper) < 0))=true ->
 VC13_J5 Q I3 μ3 v213 true) /\
 ((decide (((gi ac v213).Oper) < 0))=false ->
 ((0:Int)≤v213/\v213 < (ac.length:Int)) /\
 VC13_J5 Q I3 μ3 v213 (decide (((gi ac v213).Oper)≥(aV.1.length:Int))))) /\
 ((decide (v213 < (ac.length:Int)))=false ->
 VC13_J1 objects ac Q aV))
def VC27 (Q:ae->Prop):Prop :=
 Q (⟨2,2,0,[(⟨0,0,1,0⟩:ba),(⟨0,1,0,0⟩:ba),(⟨1,0,1,0⟩:ba),(⟨1,1,1,1⟩:ba)]⟩:ae)
def VC22 (object:Int) (Q:ak->Prop):Prop :=
 ∀ ap,du=ap ->
 sm ap.Rows ->
 ∀ dG,du=dG ->
 sm dG.Rows ->
 Q (⟨[ap,dG],[(⟨0,(⟨1,1,0⟩:au)⟩:aR),(⟨object,(⟨1,2,1⟩:au)⟩:aR),(⟨0,(⟨2,1,0⟩:au)⟩:aR),(⟨object,(⟨2,2,1⟩:au)⟩:aR)]⟩:ak)
def VC11_J1 (Q:((List az))->Prop) (v101:List az):Prop :=
 Q v101
def VC11 (h_:ak) (Q:(List az)->Prop):Prop :=
 sm h_.ah ->
 ∀ (_:sm h_.al),
 ∃ (I1:(List az)->Int->Prop) (μ1:(List az)->Int->Nat),I1 [] 0/\∀ (v107:List az) (v111:Int),I1 v107 v111 ->
 ((decide (v111 < (h_.al.length:Int)))=true ->
 ((0:Int)≤v111/\v111 < (h_.al.length:Int)) /\
 ((0:Int)≤v111/\v111 < (h_.al.length:Int)) /\
 (v107.length+[(⟨(gi h_.al v111).ax,((gi h_.al v111).aI)⟩:az)].length≤1099511627776) /\
 I1 (v107++[(⟨(gi h_.al v111).ax,((gi h_.al v111).aI)⟩:az)]) (IntKind.i64.wrap (v111+1))/\μ1 (v107++[(⟨(gi h_.al v111).ax,((gi h_.al v111).aI)⟩:az)]) (IntKind.i64.wrap (v111+1)) < μ1 v107 v111) /\
 ((decide (v111 < (h_.al.length:Int)))=false ->
 VC11_J1 Q v107)
def VC7_J1 (Q:Int->Prop) (v101:Int):Prop :=
 Q v101
def VC7_J2 (I1:Int->Int->Prop) (μ1:Int->Int->Nat) (v102:Int) (v103:Int) (v106:Int):Prop :=
 I1 v106 (IntKind.i64.wrap (v103+1))/\μ1 v106 (IntKind.i64.wrap (v103+1)) < μ1 v102 v103
def VC7 (h_:ak) (Q:Int->Prop):Prop :=
 sm h_.ah ->
 ∀ (_:sm h_.al),
 ∃ (I1:Int->Int->Prop) (μ1:Int->Int->Nat),I1 0 0/\∀ (v102:Int) (v103:Int),I1 v102 v103 ->
 ((decide (v103 < (h_.al.length:Int)))=true ->
 ((0:Int)≤v103/\v103 < (h_.al.length:Int)) /\
 (((((gi h_.al v103).aI).bh) == 1)=true ->
 VC7_J2 I1 μ1 v102 v103 (IntKind.i64.wrap (v102+1))) /\
 (((((gi h_.al v103).aI).bh) == 1)=false ->
 VC7_J2 I1 μ1 v102 v103 v102)) /\
 ((decide (v103 < (h_.al.length:Int)))=false ->
 VC7_J1 Q v102)
def VC6_J1 (Q:Bool->Prop):Prop :=
 Q true
def VC6 (h_:ak) (Q:Bool->Prop):Prop :=
 sm h_.ah ->
 ∀ (_:sm h_.al),
 (((decide ((h_.ah.length:Int) > 10)) || (decide ((h_.al.length:Int) > 20)))=true ->
 Q false) /\
 (((decide ((h_.ah.length:Int) > 10)) || (decide ((h_.al.length:Int) > 20)))=false ->
 ∃ (I1:Int->Prop) (μ1:Int->Nat),I1 0/\∀ (v101:Int),I1 v101 ->
 ((decide (v101 < (h_.ah.length:Int)))=true ->
 ((0:Int)≤v101/\v101 < (h_.ah.length:Int)) /\
 ∀ (_:sm ((gi h_.ah v101).Rows)),
 ∀ fS,gR (gi h_.ah v101)=fS ->
 ((!fS)=true ->
 Q false) /\
 ((!fS)=false ->
 I1 (IntKind.i64.wrap (v101+1))/\μ1 (IntKind.i64.wrap (v101+1)) < μ1 v101)) /\
 ((decide (v101 < (h_.ah.length:Int)))=false ->
 VC6_J1 Q))
def VC8 (Q:Bool->Prop):Prop :=
 ∀ ap,cz 0=ap ->
 sm ap.ah ->
 ∀ (_:sm ap.al),
 (gg ap) /\
 ∀ dy,dx ap=dy ->
 ∀ ip,cz 1=ip ->
 sm ip.ah ->
 ∀ (_:sm ip.al),
 (gg ip) /\
 ∀ bI,dx ip=bI ->
 ∀ iT,cz 0=iT ->
 sm iT.ah ->
 ∀ (_:sm iT.al),
 (gg iT) /\
 ∀ bV,cI iT=bV ->
 sm bV.1 ->
 ∀ tj,cz 1=tj ->
 sm tj.ah ->
 ∀ (_:sm tj.al),
 (gg tj) /\
 ∀ ib,cI tj=ib ->
 sm ib.1 ->
 ∀ ti,cz 0=ti ->
 sm ti.ah ->
 ∀ (_:sm ti.al),
 (gg ti) /\
 ∀ d9,aB ti=d9 ->
 (gg (⟨[],[]⟩:ak)) /\
 ∀ i6,aB (⟨[],[]⟩:ak)=i6 ->
 ∀ gt,cz 0=gt ->
 sm gt.ah ->
 ∀ (_:sm gt.al),
 ((0:Int)≤3/\3 < (gt.al.length:Int)) /\
 (gg (⟨gt.ah,(gt.al.set (3:Int).toNat (⟨1,(gi gt.al 3).aI⟩:aR))⟩:ak)) /\
 ∀ fR,aB (⟨gt.ah,(gt.al.set (3:Int).toNat (⟨1,(gi gt.al 3).aI⟩:aR))⟩:ak)=fR ->
 ∀ th,cz 1=th ->
 sm th.ah ->
 ∀ (_:sm th.al),
 (gg th) /\
 ∀ f5,cV th=f5 ->
 sm f5.1 ->
 ∀ (_:sm f5.2),
 ∀ tg,cz 1=tg ->
 sm tg.ah ->
 ∀ (_:sm tg.al),
 (yg tg 1) /\
 ∀ da,eF tg 1=da ->
 sm da.ax.Rows ->
 ∀ (_:sm da.al),
 (((((dy.1 && (dy.2 == 0)) && (!bI.1)) && (bI.2 == 0)) && (bV.2 == 0))=true ->
 ∀ qk,cz 0=qk ->
 sm qk.ah ->
 ∀ (_:sm qk.al),
 (r7 qk bV.1) /\
 ∀ jA,dT qk bV.1=jA ->
 (((((((((jA && ((bV.1.length:Int) == 2)) && (ib.2 == 41)) && (d9.1 == 4)) && (d9.2 == 0)) && (i6.2 == 2)) && (fR.1 == 3)) && (fR.2 == 32)) && ((f5.1.length:Int) == 2))=true ->
 ∀ rA,eS f5.2 [0,1]=rA ->
 ((rA && ((da.al.length:Int) == 2))=true ->
 ∀ qj,du=qj ->
 sm qj.Rows ->
 ∀ uK,iR da.ax qj=uK ->
 (uK=true ->
 ∀ qi,cz 0=qi ->
 sm qi.ah ->
 ∀ (_:sm qi.al),
 (r7 qi []) /\
 ∀ tf,dT qi []=tf ->
 Q (!tf)) /\
 (uK=false ->
 Q false)) /\
 ((rA && ((da.al.length:Int) == 2))=false ->
 Q false)) /\
 (((((((((jA && ((bV.1.length:Int) == 2)) && (ib.2 == 41)) && (d9.1 == 4)) && (d9.2 == 0)) && (i6.2 == 2)) && (fR.1 == 3)) && (fR.2 == 32)) && ((f5.1.length:Int) == 2))=false ->
 Q false)) /\
 (((((dy.1 && (dy.2 == 0)) && (!bI.1)) && (bI.2 == 0)) && (bV.2 == 0))=false ->
 Q false)
def VC3_J1 (h_:ak) (ac:List aa) (Q:Bool->Prop) (v102:Bool):Prop :=
 (v102=true ->
 ∀ aV,gE=aV ->
 Q aV) /\
 (v102=false ->
 (gg (⟨h_.ah,h_.al⟩:ak)) /\
 ∀ bv,dx (⟨h_.ah,h_.al⟩:ak)=bv ->
 (lh (⟨h_.ah,h_.al⟩:ak)) /\
 ∀ ip,dg (⟨h_.ah,h_.al⟩:ak)=ip ->
 sm ip ->
 (qm h_.ah ip) /\
 ∀ jk,gO h_.ah ip=jk ->
 (((bv.1 == jk.1) && (bv.2 == jk.2))=true ->
 (r7 (⟨h_.ah,h_.al⟩:ak) ac) /\
 ∀ fb,dT (⟨h_.ah,h_.al⟩:ak) ac=fb ->
 (lh (⟨h_.ah,h_.al⟩:ak)) /\
 ∀ tn,dg (⟨h_.ah,h_.al⟩:ak)=tn ->
 sm tn ->
 (xY h_.ah tn ac) /\
 ∀ bV,fc h_.ah tn ac=bV ->
 ((fb == bV)=true ->
 ∀ tl,gE=tl ->
 Q tl) /\
 ((fb == bV)=false ->
 Q false)) /\
 (((bv.1 == jk.1) && (bv.2 == jk.2))=false ->
 Q false))
def VC3 (h_:ak) (ac:List aa) (Q:Bool->Prop):Prop :=
 sm h_.ah ->
 ∀ (_:sm h_.al),
 sm ac ->
 ∀ nN,gQ h_=nN ->
 ((!nN)=true ->
 VC3_J1 h_ ac Q true) /\
 ((!nN)=false ->
 ∀ zJ,ff h_=zJ ->
 VC3_J1 h_ ac Q ((decide (zJ > 5)) || (decide ((ac.length:Int) > 20))))
end Go.Proofs.YteahldlmkheleaaGreat
