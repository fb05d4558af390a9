import Derived.Test.YteahldlmkheleaaGreatLSpec
set_option linter.all false
namespace Go.Proofs.YteahldlmkheleaaGreat
open Go Go.Sv
/-- Hb/Ch.Rz -/
def VC21 (o_:ah) (Q:Bool->Prop):Prop :=
 sm o_.Rows ->
 Q (decide ((o_.Rows.length:Int)≤300))
def VC81 (n_:Int) (top:Int) (Q:Bool->Prop):Prop :=
 Q ((decide (n_≥0)) && (decide (n_ < top)))
def VC107_J1 (Q:Int->Prop):Prop :=
 Q 0
def VC107 (vals:List Int) (Q:Int->Prop):Prop :=
 sm vals ->
 ∃ (I1:Int->Prop) (μ1:Int->Nat),I1 0/\∀ (v102:Int),I1 v102 ->
 ((decide (v102 < (vals.length:Int)))=true ->
 ((0:Int)≤v102/\v102 < (vals.length:Int)) /\
 (((gi vals v102) != 0)=true ->
 Q (gi vals v102)) /\
 (((gi vals v102) != 0)=false ->
 I1 (IntKind.i64.wrap (v102+1))/\μ1 (IntKind.i64.wrap (v102+1)) < μ1 v102)) /\
 ((decide (v102 < (vals.length:Int)))=false ->
 VC107_J1 Q)
def VC113 (x_:Int) (Q:Bool->Prop):Prop :=
 Q (x_ != x_)
def VC108 (x_:Int) (y_:Int) (Q:Int->Prop):Prop :=
 ∀ am,eH x_=am ->
 ∀ aZ,eH y_=aZ ->
 (am=true ->
 (aZ=true ->
 Q 0) /\
 (aZ=false ->
 Q (-1))) /\
 (am=false ->
 (aZ=true ->
 Q 1) /\
 (aZ=false ->
 ((decide (x_ < y_))=true ->
 Q (-1)) /\
 ((decide (x_ < y_))=false ->
 ((decide (x_ > y_))=true ->
 Q 1) /\
 ((decide (x_ > y_))=false ->
 Q 0))))
def VC96 (a_:a8) (b_:a8) (Q:Int->Prop):Prop :=
 ∀ f5,dk a_.State b_.State=f5 ->
 ∀ eZ,dk a_.Kind b_.Kind=eZ ->
 ∀ kV,gd [f5,eZ]=kV ->
 Q kV
def VC82_J2 (Q:Int->Prop) (v114:Bool):Prop :=
 (v114=true ->
 Q 32) /\
 (v114=false ->
 Q 0)
def VC82_J1 (o_:ah) (i_:Int) (Q:Int->Prop) (v104:Bool):Prop :=
 (v104=true ->
 Q 30) /\
 (v104=false ->
 ∀ iD,bV ((gi o_.Rows i_).Kind) o_.aw=iD ->
 ((!iD)=true ->
 Q 31) /\
 ((!iD)=false ->
 ∀ fB,bV ((gi o_.Rows i_).Result) 1000001=fB ->
 ((!fB)=true ->
 Q 7) /\
 ((!fB)=false ->
 ((decide (i_ > 0))=true ->
 ((0:Int)≤(IntKind.i64.wrap (i_ - 1))/\(IntKind.i64.wrap (i_ - 1)) < (o_.Rows.length:Int)) /\
 ∀ t8,fX (gi o_.Rows (IntKind.i64.wrap (i_ - 1))) (gi o_.Rows i_)=t8 ->
 VC82_J2 Q (decide (t8≥0))) /\
 ((decide (i_ > 0))=false ->
 VC82_J2 Q false))))
def VC82 (o_:ah) (i_:Int) (Q:Int->Prop):Prop :=
 sm o_.Rows ->
 ((0:Int)≤i_/\i_ < (o_.Rows.length:Int)) /\
 ∀ vU,bV ((gi o_.Rows i_).State) o_.ar=vU ->
 ((!vU)=true ->
 VC82_J1 o_ i_ Q true) /\
 ((!vU)=false ->
 ∀ fP,bV ((gi o_.Rows i_).Next) o_.ar=fP ->
 VC82_J1 o_ i_ Q (!fP))
def VC53_J2 (o_:ah) (Q:(Int × Int)->Prop):Prop :=
 Q ((o_.Rows.length:Int),0)
def VC53_J1 (o_:ah) (Q:(Int × Int)->Prop) (v101:Bool):Prop :=
 (v101=true ->
 Q ((-1),2)) /\
 (v101=false ->
 ∃ (I1:Int->Prop) (μ1:Int->Nat),I1 0/\∀ (v104:Int),I1 v104 ->
 ((decide (v104 < (o_.Rows.length:Int)))=true ->
 (preRow o_ v104) /\
 ∀ iD,g7 o_ v104=iD ->
 ((iD != 0)=true ->
 Q (v104,iD)) /\
 ((iD != 0)=false ->
 I1 (IntKind.i64.wrap (v104+1))/\μ1 (IntKind.i64.wrap (v104+1)) < μ1 v104)) /\
 ((decide (v104 < (o_.Rows.length:Int)))=false ->
 VC53_J2 o_ Q))
def VC53 (o_:ah) (Q:Int × Int->Prop):Prop :=
 sm o_.Rows ->
 ∀ d6,bV (IntKind.i64.wrap (o_.ar - 1)) 32=d6 ->
 ((!d6)=true ->
 VC53_J1 o_ Q true) /\
 ((!d6)=false ->
 ∀ d7,bV (IntKind.i64.wrap (o_.aw - 1)) 64=d7 ->
 ((!d7)=true ->
 VC53_J1 o_ Q true) /\
 ((!d7)=false ->
 ∀ yG,bV o_.aE o_.ar=yG ->
 VC53_J1 o_ Q (!yG)))
def VC85 (o_:ah) (state:Int) (Q:Int->Prop):Prop :=
 sm o_.Rows ->
 (jW o_) /\
 ∀ am,br o_=am ->
 ((am.2 != 0)=true ->
 Q 2) /\
 ((am.2 != 0)=false ->
 (((decide (state < 0)) || (decide (state≥o_.ar)))=true ->
 Q 30) /\
 (((decide (state < 0)) || (decide (state≥o_.ar)))=false ->
 Q 0))
def VC86 (o_:ah) (l_:List ab) (state:Int) (Q:(List ab) × (List (Int × Int)) × ah × Int->Prop):Prop :=
 sm o_.Rows ->
 ∀ (_:sm l_),
 Q (l_,([]:List (Int × Int)),o_,state)
def VC110 (r_:a8) (al:Int) (ap:Int) (Q:Bool->Prop):Prop :=
 Q (r_.State == al && (r_.Kind == ap && (r_.Next == r_.Next && (r_.Result == r_.Result && true))))
def VC111_110_J1 (Q:Int->Prop):Prop :=
 Q (-1)
def VC111_110 (s_:List a8) (al:Int) (ap:Int) (Q:Int->Prop):Prop :=
 sm s_ ->
 ∃ (I1:Int->Prop) (μ1:Int->Nat),I1 0/\∀ (v102:Int),I1 v102 ->
 ((decide (v102 < (s_.length:Int)))=true ->
 ((0:Int)≤v102/\v102 < (s_.length:Int)) /\
 ∀ iD,gh (gi s_ v102) al ap=iD ->
 (iD=true ->
 Q v102) /\
 (iD=false ->
 I1 (IntKind.i64.wrap (v102+1))/\μ1 (IntKind.i64.wrap (v102+1)) < μ1 v102)) /\
 ((decide (v102 < (s_.length:Int)))=false ->
 VC111_110_J1 Q)
def VC103 (o_:ah) (state:Int) (kind:Int) (Q:Int × Int × Bool->Prop):Prop :=
 sm o_.Rows ->
 ∀ am,bg o_.Rows state kind=am ->
 ((decide (am < 0))=true ->
 Q (0,0,false)) /\
 ((decide (am < 0))=false ->
 ((0:Int)≤am/\am < (o_.Rows.length:Int)) /\
 ((0:Int)≤am/\am < (o_.Rows.length:Int)) /\
 Q ((gi o_.Rows am).Next,(gi o_.Rows am).Result,true))
def VC109 (t_:gQ) (state:Int) (kind:Int) (Q:Int × Int × Bool->Prop):Prop :=
 sm t_.o.Rows ->
 ∀ am,cm t_.o state kind=am ->
 Q (am.1,am.2.1,am.2.2)
def VC98 (o_:ah) (state:Int) (kind:Int) (result:Int) (Q:Int × Int->Prop):Prop :=
 sm o_.Rows ->
 (((decide (state < 0)) || (decide (state≥o_.ar)))=true ->
 Q (0,30)) /\
 (((decide (state < 0)) || (decide (state≥o_.ar)))=false ->
 ∀ am,eI (⟨o_⟩:gQ) state kind=am ->
 (((!am.2.2) || (am.2.1 != result))=true ->
 Q (0,40)) /\
 (((!am.2.2) || (am.2.1 != result))=false ->
 Q (am.1,0)))
def VC97_J1 (p_:aa) (ap:List (Int × Int)) (bz:Int) (Q:(Int × Int × (List (Int × Int)) × Int)->Prop) (cZ:Int × Int) (v112:Int):Prop :=
 ((v112 != 0)=true ->
 Q (0,v112,dj ap p_.Oper (IntKind.i64.wrap (((aC ap p_.Oper).getD 0)+1)),bz)) /\
 ((v112 != 0)=false ->
 Q (cZ.1,0,dj ap p_.Oper (IntKind.i64.wrap (((aC ap p_.Oper).getD 0)+1)),cZ.1))
def VC97 (p_:aa) (al:List ab) (ap:List (Int × Int)) (aL:ah) (bz:Int) (Q:Int × Int × (List (Int × Int)) × Int->Prop):Prop :=
 sm al ->
 ∀ (_:sm aL.Rows),
 (((decide (p_.Oper < 0)) || (decide (p_.Oper≥(al.length:Int))))=true ->
 Q (0,2,ap,bz)) /\
 (((decide (p_.Oper < 0)) || (decide (p_.Oper≥(al.length:Int))))=false ->
 ((decide (((aC ap p_.Oper).getD 0) > 0))=true ->
 Q (0,21,ap,bz)) /\
 ((decide (((aC ap p_.Oper).getD 0) > 0))=false ->
 ((0:Int)≤p_.Oper/\p_.Oper < (al.length:Int)) /\
 ∀ cZ,im aL bz ((gi al p_.Oper).Kind) p_.Result=cZ ->
 ((((cZ.2 == 0) && (((gi al p_.Oper).End) != (-1))) && (((gi al p_.Oper).Result) != p_.Result))=true ->
 VC97_J1 p_ ap bz Q cZ 40) /\
 ((((cZ.2 == 0) && (((gi al p_.Oper).End) != (-1))) && (((gi al p_.Oper).Result) != p_.Result))=false ->
 VC97_J1 p_ ap bz Q cZ cZ.2)))
def VC62_J1 (ac:List aa) (Q:(Int × Int × Int)->Prop) (v126:Int):Prop :=
 Q (v126,(ac.length:Int),0)
def VC62 (o_:ah) (l_:List ab) (state:Int) (ac:List aa) (Q:Int × Int × Int->Prop):Prop :=
 sm o_.Rows ->
 ∀ (_:sm l_),
 sm ac ->
 (xd o_ state) /\
 ∀ am,fg o_ state=am ->
 ((am != 0)=true ->
 Q (0,(-1),am)) /\
 ((am != 0)=false ->
 ∀ aZ,dZ o_ l_ state=aZ ->
 sm aZ.1 ->
 ∀ (_:sm aZ.2.2.1.Rows),
 ∃ (I1:Int->Int->(List (Int × Int))->Int->Prop) (μ1:Int->Int->(List (Int × Int))->Int->Nat),I1 state 0 aZ.2.1 aZ.2.2.2/\∀ (v128:Int) (v130:Int) (v132:List (Int × Int)) (v135:Int),I1 v128 v130 v132 v135 ->
 ((decide (v130 < (ac.length:Int)))=true ->
 ((0:Int)≤v130/\v130 < (ac.length:Int)) /\
 ∀ b6,dc (gi ac v130) aZ.1 v132 aZ.2.2.1 v135=b6 ->
 ((b6.2.1 != 0)=true ->
 Q (0,v130,b6.2.1)) /\
 ((b6.2.1 != 0)=false ->
 I1 b6.1 (IntKind.i64.wrap (v130+1)) b6.2.2.1 b6.2.2.2/\μ1 b6.1 (IntKind.i64.wrap (v130+1)) b6.2.2.1 b6.2.2.2 < μ1 v128 v130 v132 v135)) /\
 ((decide (v130 < (ac.length:Int)))=false ->
 VC62_J1 ac Q v128))
def VC33 (o_:ah) (l_:List ab) (ac:List aa) (Q:Int × Int × Int->Prop):Prop :=
 sm o_.Rows ->
 ∀ (_:sm l_),
 sm ac ->
 (xc o_ l_ o_.aE ac) /\
 ∀ am,iO o_ l_ o_.aE ac=am ->
 Q (am.1,am.2.1,am.2.2)
def VC87_J1 (Q:((List (Int × Int)))->Prop) (v105:List (Int × Int)):Prop :=
 Q v105
def VC87 (ac:List aa) (Q:(List (Int × Int))->Prop):Prop :=
 sm ac ->
 ∃ (I1:Int->(List (Int × Int))->Prop) (μ1:Int->(List (Int × Int))->Nat),I1 0 ([]:List (Int × Int))/\∀ (v108:Int) (v109:List (Int × Int)),I1 v108 v109 ->
 ((decide (v108 < (ac.length:Int)))=true ->
 ((0:Int)≤v108/\v108 < (ac.length:Int)) /\
 I1 (IntKind.i64.wrap (v108+1)) (dj v109 ((gi ac v108).Oper) (IntKind.i64.wrap (((aC v109 ((gi ac v108).Oper)).getD 0)+1)))/\μ1 (IntKind.i64.wrap (v108+1)) (dj v109 ((gi ac v108).Oper) (IntKind.i64.wrap (((aC v109 ((gi ac v108).Oper)).getD 0)+1))) < μ1 v108 v109) /\
 ((decide (v108 < (ac.length:Int)))=false ->
 VC87_J1 Q v109)
def VC99 (i_:Int) (al:List (Int × Int)) (Q:Bool->Prop):Prop :=
 Q (((aC al i_).getD 0) == 0)
def VC64_J1 (Q:((List Int))->Prop) (v109:List Int):Prop :=
 Q v109
def VC64_J2 (I1:(List Int)->Int->Prop) (μ1:(List Int)->Int->Nat) (v115:List Int) (v120:Int) (v122:List Int):Prop :=
 I1 v122 (IntKind.i64.wrap (v120+1))/\μ1 v122 (IntKind.i64.wrap (v120+1)) < μ1 v115 v120
def VC64_J3 (I1:(List Int)->Int->Prop) (μ1:(List Int)->Int->Nat) (v115:List Int) (v120:Int) (v131:List Int) (v136:Bool):Prop :=
 (v136=true ->
 (v131.length+[v120].length≤1099511627776) /\
 VC64_J2 I1 μ1 v115 v120 (v131++[v120])) /\
 (v136=false ->
 VC64_J2 I1 μ1 v115 v120 v131)
def VC64 (l_:List ab) (ac:List aa) (pending:Bool) (Q:(List Int)->Prop):Prop :=
 sm l_ ->
 ∀ (_:sm ac),
 ∀ am,eW ac=am ->
 ∃ (I1:(List Int)->Int->Prop) (μ1:(List Int)->Int->Nat),I1 [] 0/\∀ (v115:List Int) (v120:Int),I1 v115 v120 ->
 ((decide (v120 < (l_.length:Int)))=true ->
 ((0:Int)≤v120/\v120 < (l_.length:Int)) /\
 (((((gi l_ v120).End) == (-1)) == pending)=true ->
 ∀ yB,eU v120 am=yB ->
 VC64_J3 I1 μ1 v115 v120 v115 yB) /\
 (((((gi l_ v120).End) == (-1)) == pending)=false ->
 VC64_J3 I1 μ1 v115 v120 v115 false)) /\
 ((decide (v120 < (l_.length:Int)))=false ->
 VC64_J1 Q v115)
def VC35 (l_:List ab) (ac:List aa) (Q:(List Int)->Prop):Prop :=
 sm l_ ->
 ∀ (_:sm ac),
 (ua l_ ac false) /\
 ∀ am,dY l_ ac false=am ->
 sm am ->
 Q am
def VC63 (a_:ab) (b_:ab) (Q:Bool->Prop):Prop :=
 Q ((decide (a_.End≥0)) && (decide (a_.End < b_.aF)))
def VC34_J1 (Q:Int->Prop):Prop :=
 Q (-1)
def VC34_J2 (I1:(List (Int × Int))->Int->Prop) (μ1:(List (Int × Int))->Int->Nat) (v106:List (Int × Int)) (v109:Int) (v111:List (Int × Int)):Prop :=
 I1 v111 (IntKind.i64.wrap (v109+1))/\μ1 v111 (IntKind.i64.wrap (v109+1)) < μ1 v106 v109
def VC34_J3 (ac:List aa) (I1:(List (Int × Int))->Int->Prop) (μ1:(List (Int × Int))->Int->Nat) (v106:List (Int × Int)) (v109:Int):Prop :=
 VC34_J2 I1 μ1 v106 v109 (dj v106 ((gi ac v109).Oper) (IntKind.i64.wrap (((aC v106 ((gi ac v109).Oper)).getD 0)+1)))
def VC34_J4 (Q:Int->Prop) (v109:Int) (I2:Int->Prop) (μ2:Int->Nat) (v127:Int) (v135:Bool):Prop :=
 (v135=true ->
 Q v109) /\
 (v135=false ->
 I2 (IntKind.i64.wrap (v127+1))/\μ2 (IntKind.i64.wrap (v127+1)) < μ2 v127)
def VC34 (l_:List ab) (ac:List aa) (Q:Int->Prop):Prop :=
 sm l_ ->
 ∀ (_:sm ac),
 ∃ (I1:(List (Int × Int))->Int->Prop) (μ1:(List (Int × Int))->Int->Nat),I1 ([]:List (Int × Int)) 0/\∀ (v106:List (Int × Int)) (v109:Int),I1 v106 v109 ->
 ((decide (v109 < (ac.length:Int)))=true ->
 ((0:Int)≤v109/\v109 < (ac.length:Int)) /\
 (((decide (((gi ac v109).Oper) < 0)) || (decide (((gi ac v109).Oper)≥(l_.length:Int))))=true ->
 VC34_J2 I1 μ1 v106 v109 v106) /\
 (((decide (((gi ac v109).Oper) < 0)) || (decide (((gi ac v109).Oper)≥(l_.length:Int))))=false ->
 ∃ (I2:Int->Prop) (μ2:Int->Nat),I2 0/\∀ (v127:Int),I2 v127 ->
 ((decide (v127 < (l_.length:Int)))=true ->
 ((0:Int)≤v127/\v127 < (l_.length:Int)) /\
 ((0:Int)≤((gi ac v109).Oper)/\((gi ac v109).Oper) < (l_.length:Int)) /\
 ∀ f9,bh (gi l_ v127) (gi l_ ((gi ac v109).Oper))=f9 ->
 (f9=true ->
 VC34_J4 Q v109 I2 μ2 v127 (((aC v106 v127).getD 0) == 0)) /\
 (f9=false ->
 VC34_J4 Q v109 I2 μ2 v127 false)) /\
 ((decide (v127 < (l_.length:Int)))=false ->
 VC34_J3 ac I1 μ1 v106 v109))) /\
 ((decide (v109 < (ac.length:Int)))=false ->
 VC34_J1 Q)
def VC106 (o_:ab) (Q:Bool->Prop):Prop :=
 ((o_.End == (-1))=true ->
 Q (o_.Result == (-1))) /\
 ((o_.End == (-1))=false ->
 Q ((((decide (o_.End > o_.aF)) && (decide (o_.End≤9999))) && (decide (o_.Result≥0))) && (decide (o_.Result≤1000000))))
def VC95 (o_:ab) (Q:Int->Prop):Prop :=
 (((((decide (o_.aj < 1)) || (decide (o_.aj > 1000))) || (decide (o_.aF < 0))) || (decide (o_.aF > 9999)))=true ->
 Q 2) /\
 (((((decide (o_.aj < 1)) || (decide (o_.aj > 1000))) || (decide (o_.aF < 0))) || (decide (o_.aF > 9999)))=false ->
 (((decide (o_.Kind < 0)) || (decide (o_.Kind≥64)))=true ->
 Q 31) /\
 (((decide (o_.Kind < 0)) || (decide (o_.Kind≥64)))=false ->
 ∀ am,en o_=am ->
 ((!am)=true ->
 Q 7) /\
 ((!am)=false ->
 Q 0)))
def VC80_J1 (l_:List ab) (Q:(Int × Int)->Prop):Prop :=
 Q ((l_.length:Int),0)
def VC80_J2 (l_:List ab) (I1:(List (Int × Int))->(List (Int × ab))->Int->Prop) (μ1:(List (Int × Int))->(List (Int × ab))->Int->Nat) (v111:List (Int × Int)) (v113:List (Int × ab)) (v116:Int) (v118:List (Int × Int)):Prop :=
 I1 v118 (dj v113 ((gi l_ v116).aj) (gi l_ v116)) (IntKind.i64.wrap (v116+1))/\μ1 v118 (dj v113 ((gi l_ v116).aj) (gi l_ v116)) (IntKind.i64.wrap (v116+1)) < μ1 v111 v113 v116
def VC80_J4 (l_:List ab) (Q:(Int × Int)->Prop) (I1:(List (Int × Int))->(List (Int × ab))->Int->Prop) (μ1:(List (Int × Int))->(List (Int × ab))->Int->Nat) (v111:List (Int × Int)) (v113:List (Int × ab)) (v116:Int) (v139:Bool):Prop :=
 (v139=true ->
 Q (v116,33)) /\
 (v139=false ->
 ((decide (((gi l_ v116).End)≥0))=true ->
 VC80_J2 l_ I1 μ1 v111 v113 v116 (dj (dj v111 ((gi l_ v116).aF) (IntKind.i64.wrap (((aC v111 ((gi l_ v116).aF)).getD 0)+1))) ((gi l_ v116).End) (IntKind.i64.wrap (((aC (dj v111 ((gi l_ v116).aF) (IntKind.i64.wrap (((aC v111 ((gi l_ v116).aF)).getD 0)+1))) ((gi l_ v116).End)).getD 0)+1)))) /\
 ((decide (((gi l_ v116).End)≥0))=false ->
 VC80_J2 l_ I1 μ1 v111 v113 v116 (dj v111 ((gi l_ v116).aF) (IntKind.i64.wrap (((aC v111 ((gi l_ v116).aF)).getD 0)+1)))))
def VC80_J3 (l_:List ab) (Q:(Int × Int)->Prop) (I1:(List (Int × Int))->(List (Int × ab))->Int->Prop) (μ1:(List (Int × Int))->(List (Int × ab))->Int->Nat) (v111:List (Int × Int)) (v113:List (Int × ab)) (v116:Int) (v133:Bool):Prop :=
 (v133=true ->
 Q (v116,32)) /\
 (v133=false ->
 (((aC v113 ((gi l_ v116).aj)).isSome)=true ->
 ∀ nY,bh ((aC v113 ((gi l_ v116).aj)).getD (⟨0,0,0,0,0⟩:ab)) (gi l_ v116)=nY ->
 VC80_J4 l_ Q I1 μ1 v111 v113 v116 (!nY)) /\
 (((aC v113 ((gi l_ v116).aj)).isSome)=false ->
 VC80_J4 l_ Q I1 μ1 v111 v113 v116 false))
def VC80 (l_:List ab) (Q:Int × Int->Prop):Prop :=
 sm l_ ->
 ((decide ((l_.length:Int) > 5000))=true ->
 Q (0,3)) /\
 ((decide ((l_.length:Int) > 5000))=false ->
 ∃ (I1:(List (Int × Int))->(List (Int × ab))->Int->Prop) (μ1:(List (Int × Int))->(List (Int × ab))->Int->Nat),I1 ([]:List (Int × Int)) ([]:List (Int × ab)) 0/\∀ (v111:List (Int × Int)) (v113:List (Int × ab)) (v116:Int),I1 v111 v113 v116 ->
 ((decide (v116 < (l_.length:Int)))=true ->
 ((0:Int)≤v116/\v116 < (l_.length:Int)) /\
 ∀ bI,df (gi l_ v116)=bI ->
 ((bI != 0)=true ->
 Q (v116,bI)) /\
 ((bI != 0)=false ->
 ((decide (v116 > 0))=true ->
 ((0:Int)≤(IntKind.i64.wrap (v116 - 1))/\(IntKind.i64.wrap (v116 - 1)) < (l_.length:Int)) /\
 ((decide (((gi l_ v116).aF)≤((gi l_ (IntKind.i64.wrap (v116 - 1))).aF)))=true ->
 VC80_J3 l_ Q I1 μ1 v111 v113 v116 true) /\
 ((decide (((gi l_ v116).aF)≤((gi l_ (IntKind.i64.wrap (v116 - 1))).aF)))=false ->
 ((decide (((aC v111 ((gi l_ v116).aF)).getD 0) > 0))=true ->
 VC80_J3 l_ Q I1 μ1 v111 v113 v116 true) /\
 ((decide (((aC v111 ((gi l_ v116).aF)).getD 0) > 0))=false ->
 ((decide (((gi l_ v116).End)≥0))=true ->
 VC80_J3 l_ Q I1 μ1 v111 v113 v116 (decide (((aC v111 ((gi l_ v116).End)).getD 0) > 0))) /\
 ((decide (((gi l_ v116).End)≥0))=false ->
 VC80_J3 l_ Q I1 μ1 v111 v113 v116 false)))) /\
 ((decide (v116 > 0))=false ->
 ((decide (((aC v111 ((gi l_ v116).aF)).getD 0) > 0))=true ->
 VC80_J3 l_ Q I1 μ1 v111 v113 v116 true) /\
 ((decide (((aC v111 ((gi l_ v116).aF)).getD 0) > 0))=false ->
 ((decide (((gi l_ v116).End)≥0))=true ->
 VC80_J3 l_ Q I1 μ1 v111 v113 v116 (decide (((aC v111 ((gi l_ v116).End)).getD 0) > 0))) /\
 ((decide (((gi l_ v116).End)≥0))=false ->
 VC80_J3 l_ Q I1 μ1 v111 v113 v116 false))))) /\
 ((decide (v116 < (l_.length:Int)))=false ->
 VC80_J1 l_ Q))
def VC51 (o_:ah) (l_:List ab) (ac:List aa) (Q:Int × Int->Prop):Prop :=
 sm o_.Rows ->
 ∀ (_:sm l_),
 sm ac ->
 (jW o_) /\
 ∀ am,br o_=am ->
 ∀ aZ,cQ l_=aZ ->
 (((am.2 != 0) || (aZ.2 != 0))=true ->
 Q ((-1),2)) /\
 (((am.2 != 0) || (aZ.2 != 0))=false ->
 (kE o_ l_ ac) /\
 ∀ bH,cC o_ l_ ac=bH ->
 ((bH.2.2 != 0)=true ->
 Q (bH.2.1,bH.2.2)) /\
 ((bH.2.2 != 0)=false ->
 ∀ oZ,cH l_ ac=oZ ->
 ((decide (oZ≥0))=true ->
 Q (oZ,42)) /\
 ((decide (oZ≥0))=false ->
 (pU l_ ac) /\
 ∀ jy,bZ l_ ac=jy ->
 sm jy ->
 ((decide ((jy.length:Int) > 0))=true ->
 ((0:Int)≤0/\0 < (jy.length:Int)) /\
 Q (gi jy 0,41)) /\
 ((decide ((jy.length:Int) > 0))=false ->
 Q ((ac.length:Int),0)))))
def VC20 (o_:ah) (l_:List ab) (ac:List aa) (Q:Bool->Prop):Prop :=
 sm o_.Rows ->
 ∀ (_:sm l_),
 sm ac ->
 (kE o_ l_ ac) /\
 ∀ am,eE o_ l_ ac=am ->
 Q (am.2 == 0)
def VC66_J1 (Q:Int->Prop):Prop :=
 Q (-1)
def VC66 (ac:List aa) (i_:Int) (Q:Int->Prop):Prop :=
 sm ac ->
 ∃ (I1:Int->Prop) (μ1:Int->Nat),I1 0/\∀ (v102:Int),I1 v102 ->
 ((decide (v102 < (ac.length:Int)))=true ->
 ((0:Int)≤v102/\v102 < (ac.length:Int)) /\
 ((((gi ac v102).Oper) == i_)=true ->
 Q v102) /\
 ((((gi ac v102).Oper) == i_)=false ->
 I1 (IntKind.i64.wrap (v102+1))/\μ1 (IntKind.i64.wrap (v102+1)) < μ1 v102)) /\
 ((decide (v102 < (ac.length:Int)))=false ->
 VC66_J1 Q)
def VC68_J1 (Q:(Int × Int × Bool)->Prop):Prop :=
 Q (0,0,false)
def VC68_J2 (o_:ah) (Q:(Int × Int × Bool)->Prop) (I1:Int->Prop) (μ1:Int->Nat) (v101:Int) (v103:Bool):Prop :=
 (v103=true ->
 ((0:Int)≤v101/\v101 < (o_.Rows.length:Int)) /\
 ((0:Int)≤v101/\v101 < (o_.Rows.length:Int)) /\
 Q ((gi o_.Rows v101).Next,(gi o_.Rows v101).Result,true)) /\
 (v103=false ->
 I1 (IntKind.i64.wrap (v101+1))/\μ1 (IntKind.i64.wrap (v101+1)) < μ1 v101)
def VC68 (o_:ah) (state:Int) (kind:Int) (Q:Int × Int × Bool->Prop):Prop :=
 sm o_.Rows ->
 ∃ (I1:Int->Prop) (μ1:Int->Nat),I1 0/\∀ (v101:Int),I1 v101 ->
 ((decide (v101 < (o_.Rows.length:Int)))=true ->
 ((0:Int)≤v101/\v101 < (o_.Rows.length:Int)) /\
 ((((gi o_.Rows v101).State) == state)=true ->
 ((0:Int)≤v101/\v101 < (o_.Rows.length:Int)) /\
 VC68_J2 o_ Q I1 μ1 v101 (((gi o_.Rows v101).Kind) == kind)) /\
 ((((gi o_.Rows v101).State) == state)=false ->
 VC68_J2 o_ Q I1 μ1 v101 false)) /\
 ((decide (v101 < (o_.Rows.length:Int)))=false ->
 VC68_J1 Q)
def VC65 (o_:ah) (state:Int) (kind:Int) (result:Int) (Q:Int × Int->Prop):Prop :=
 sm o_.Rows ->
 (((decide (state < 0)) || (decide (state≥o_.ar)))=true ->
 Q (0,30)) /\
 (((decide (state < 0)) || (decide (state≥o_.ar)))=false ->
 ∀ am,bq o_ state kind=am ->
 (((!am.2.2) || (am.2.1 != result))=true ->
 Q (0,40)) /\
 (((!am.2.2) || (am.2.1 != result))=false ->
 Q (am.1,0)))
def VC58_J1 (o_:ah) (Q:(Int × Int)->Prop):Prop :=
 Q ((o_.Rows.length:Int),0)
def VC58_J2 (Q:(Int × Int)->Prop) (I1:Int->Prop) (μ1:Int->Nat) (v102:Int) (v107:Bool):Prop :=
 (v107=true ->
 Q (v102,32)) /\
 (v107=false ->
 I1 (IntKind.i64.wrap (v102+1))/\μ1 (IntKind.i64.wrap (v102+1)) < μ1 v102)
def VC58 (o_:ah) (Q:Int × Int->Prop):Prop :=
 sm o_.Rows ->
 (((((((decide (o_.ar < 1)) || (decide (o_.ar > 32))) || (decide (o_.aw < 1))) || (decide (o_.aw > 64))) || (decide (o_.aE < 0))) || (decide (o_.aE≥o_.ar)))=true ->
 Q ((-1),2)) /\
 (((((((decide (o_.ar < 1)) || (decide (o_.ar > 32))) || (decide (o_.aw < 1))) || (decide (o_.aw > 64))) || (decide (o_.aE < 0))) || (decide (o_.aE≥o_.ar)))=false ->
 ∃ (I1:Int->Prop) (μ1:Int->Nat),I1 0/\∀ (v102:Int),I1 v102 ->
 ((decide (v102 < (o_.Rows.length:Int)))=true ->
 ((0:Int)≤v102/\v102 < (o_.Rows.length:Int)) /\
 (((((decide (((gi o_.Rows v102).State) < 0)) || (decide (((gi o_.Rows v102).State)≥o_.ar))) || (decide (((gi o_.Rows v102).Next) < 0))) || (decide (((gi o_.Rows v102).Next)≥o_.ar)))=true ->
 Q (v102,30)) /\
 (((((decide (((gi o_.Rows v102).State) < 0)) || (decide (((gi o_.Rows v102).State)≥o_.ar))) || (decide (((gi o_.Rows v102).Next) < 0))) || (decide (((gi o_.Rows v102).Next)≥o_.ar)))=false ->
 (((decide (((gi o_.Rows v102).Kind) < 0)) || (decide (((gi o_.Rows v102).Kind)≥o_.aw)))=true ->
 Q (v102,31)) /\
 (((decide (((gi o_.Rows v102).Kind) < 0)) || (decide (((gi o_.Rows v102).Kind)≥o_.aw)))=false ->
 (((decide (((gi o_.Rows v102).Result) < 0)) || (decide (((gi o_.Rows v102).Result) > 1000000)))=true ->
 Q (v102,7)) /\
 (((decide (((gi o_.Rows v102).Result) < 0)) || (decide (((gi o_.Rows v102).Result) > 1000000)))=false ->
 ((decide (v102 > 0))=true ->
 ((0:Int)≤(IntKind.i64.wrap (v102 - 1))/\(IntKind.i64.wrap (v102 - 1)) < (o_.Rows.length:Int)) /\
 ((decide (((gi o_.Rows (IntKind.i64.wrap (v102 - 1))).State) > ((gi o_.Rows v102).State)))=true ->
 VC58_J2 Q I1 μ1 v102 true) /\
 ((decide (((gi o_.Rows (IntKind.i64.wrap (v102 - 1))).State) > ((gi o_.Rows v102).State)))=false ->
 ((0:Int)≤(IntKind.i64.wrap (v102 - 1))/\(IntKind.i64.wrap (v102 - 1)) < (o_.Rows.length:Int)) /\
 ((((gi o_.Rows (IntKind.i64.wrap (v102 - 1))).State) == ((gi o_.Rows v102).State))=true ->
 ((0:Int)≤(IntKind.i64.wrap (v102 - 1))/\(IntKind.i64.wrap (v102 - 1)) < (o_.Rows.length:Int)) /\
 VC58_J2 Q I1 μ1 v102 (decide (((gi o_.Rows (IntKind.i64.wrap (v102 - 1))).Kind)≥((gi o_.Rows v102).Kind)))) /\
 ((((gi o_.Rows (IntKind.i64.wrap (v102 - 1))).State) == ((gi o_.Rows v102).State))=false ->
 VC58_J2 Q I1 μ1 v102 false))) /\
 ((decide (v102 > 0))=false ->
 VC58_J2 Q I1 μ1 v102 false))))) /\
 ((decide (v102 < (o_.Rows.length:Int)))=false ->
 VC58_J1 o_ Q))
def VC36_J1 (ac:List aa) (Q:(Int × Int × Int)->Prop) (v105:Int):Prop :=
 Q (v105,(ac.length:Int),0)
def VC36_J3 (Q:(Int × Int × Int)->Prop) (I1:Int->Int->Prop) (μ1:Int->Int->Nat) (v108:Int) (v110:Int) (bI:Int × Int) (v131:Bool):Prop :=
 (v131=true ->
 Q (0,v110,40)) /\
 (v131=false ->
 I1 bI.1 (IntKind.i64.wrap (v110+1))/\μ1 bI.1 (IntKind.i64.wrap (v110+1)) < μ1 v108 v110)
def VC36_J2 (o_:ah) (l_:List ab) (ac:List aa) (Q:(Int × Int × Int)->Prop) (I1:Int->Int->Prop) (μ1:Int->Int->Nat) (v108:Int) (v110:Int):Prop :=
 ((0:Int)≤((gi ac v110).Oper)/\((gi ac v110).Oper) < (l_.length:Int)) /\
 ∀ bI,cX o_ v108 ((gi l_ ((gi ac v110).Oper)).Kind) ((gi ac v110).Result)=bI ->
 ((bI.2 != 0)=true ->
 Q (0,v110,bI.2)) /\
 ((bI.2 != 0)=false ->
 ((0:Int)≤((gi ac v110).Oper)/\((gi ac v110).Oper) < (l_.length:Int)) /\
 ((((gi l_ ((gi ac v110).Oper)).End) != (-1))=true ->
 ((0:Int)≤((gi ac v110).Oper)/\((gi ac v110).Oper) < (l_.length:Int)) /\
 VC36_J3 Q I1 μ1 v108 v110 bI (((gi l_ ((gi ac v110).Oper)).Result) != ((gi ac v110).Result))) /\
 ((((gi l_ ((gi ac v110).Oper)).End) != (-1))=false ->
 VC36_J3 Q I1 μ1 v108 v110 bI false))
def VC36 (o_:ah) (l_:List ab) (state:Int) (ac:List aa) (Q:Int × Int × Int->Prop):Prop :=
 sm o_.Rows ->
 ∀ (_:sm l_),
 sm ac ->
 ∀ am,cI o_=am ->
 ((am.2 != 0)=true ->
 Q (0,(-1),2)) /\
 ((am.2 != 0)=false ->
 (((decide (state < 0)) || (decide (state≥o_.ar)))=true ->
 Q (0,(-1),30)) /\
 (((decide (state < 0)) || (decide (state≥o_.ar)))=false ->
 ∃ (I1:Int->Int->Prop) (μ1:Int->Int->Nat),I1 state 0/\∀ (v108:Int) (v110:Int),I1 v108 v110 ->
 ((decide (v110 < (ac.length:Int)))=true ->
 ((0:Int)≤v110/\v110 < (ac.length:Int)) /\
 (((decide (((gi ac v110).Oper) < 0)) || (decide (((gi ac v110).Oper)≥(l_.length:Int))))=true ->
 Q (0,v110,2)) /\
 (((decide (((gi ac v110).Oper) < 0)) || (decide (((gi ac v110).Oper)≥(l_.length:Int))))=false ->
 ∃ (I2:Int->Prop) (μ2:Int->Nat),I2 0/\∀ (v149:Int),I2 v149 ->
 ((decide (v149 < v110))=true ->
 ((0:Int)≤v149/\v149 < (ac.length:Int)) /\
 ((((gi ac v149).Oper) == ((gi ac v110).Oper))=true ->
 Q (0,v110,21)) /\
 ((((gi ac v149).Oper) == ((gi ac v110).Oper))=false ->
 I2 (IntKind.i64.wrap (v149+1))/\μ2 (IntKind.i64.wrap (v149+1)) < μ2 v149)) /\
 ((decide (v149 < v110))=false ->
 VC36_J2 o_ l_ ac Q I1 μ1 v108 v110))) /\
 ((decide (v110 < (ac.length:Int)))=false ->
 VC36_J1 ac Q v108)))
def VC67 (a_:ab) (b_:ab) (Q:Bool->Prop):Prop :=
 Q ((decide (a_.End≥0)) && (decide (b_.aF > a_.End)))
def VC37_J1 (Q:Int->Prop):Prop :=
 Q (-1)
def VC37_J2 (I1:Int->Prop) (μ1:Int->Nat) (v103:Int):Prop :=
 I1 (IntKind.i64.wrap (v103+1))/\μ1 (IntKind.i64.wrap (v103+1)) < μ1 v103
def VC37_J3 (Q:Int->Prop) (v103:Int) (I2:Int->Prop) (μ2:Int->Nat) (v113:Int) (v120:Bool):Prop :=
 (v120=true ->
 Q v103) /\
 (v120=false ->
 I2 (IntKind.i64.wrap (v113+1))/\μ2 (IntKind.i64.wrap (v113+1)) < μ2 v113)
def VC37 (l_:List ab) (ac:List aa) (Q:Int->Prop):Prop :=
 sm l_ ->
 ∀ (_:sm ac),
 ∃ (I1:Int->Prop) (μ1:Int->Nat),I1 0/\∀ (v103:Int),I1 v103 ->
 ((decide (v103 < (ac.length:Int)))=true ->
 ((0:Int)≤v103/\v103 < (ac.length:Int)) /\
 ∃ (I2:Int->Prop) (μ2:Int->Nat),I2 0/\∀ (v113:Int),I2 v113 ->
 ((((decide (v113 < (l_.length:Int))) && (decide (((gi ac v103).Oper)≥0))) && (decide (((gi ac v103).Oper) < (l_.length:Int))))=true ->
 ∀ d6,cc ac v113=d6 ->
 ((0:Int)≤v113/\v113 < (l_.length:Int)) /\
 ((0:Int)≤((gi ac v103).Oper)/\((gi ac v103).Oper) < (l_.length:Int)) /\
 ∀ gc,iP (gi l_ v113) (gi l_ ((gi ac v103).Oper))=gc ->
 (gc=true ->
 VC37_J3 Q v103 I2 μ2 v113 ((decide (d6 < 0)) || (decide (d6≥v103)))) /\
 (gc=false ->
 VC37_J3 Q v103 I2 μ2 v113 false)) /\
 ((((decide (v113 < (l_.length:Int))) && (decide (((gi ac v103).Oper)≥0))) && (decide (((gi ac v103).Oper) < (l_.length:Int))))=false ->
 VC37_J2 I1 μ1 v103)) /\
 ((decide (v103 < (ac.length:Int)))=false ->
 VC37_J1 Q)
def VC38_J1 (Q:((List Int))->Prop) (v101:List Int):Prop :=
 Q v101
def VC38_J2 (I1:(List Int)->Int->Prop) (μ1:(List Int)->Int->Nat) (v109:List Int) (v113:Int) (v116:List Int):Prop :=
 I1 v116 (IntKind.i64.wrap (v113+1))/\μ1 v116 (IntKind.i64.wrap (v113+1)) < μ1 v109 v113
def VC38_J3 (I1:(List Int)->Int->Prop) (μ1:(List Int)->Int->Nat) (v109:List Int) (v113:Int) (v122:List Int) (v126:Bool):Prop :=
 (v126=true ->
 (v122.length+[v113].length≤1099511627776) /\
 VC38_J2 I1 μ1 v109 v113 (v122++[v113])) /\
 (v126=false ->
 VC38_J2 I1 μ1 v109 v113 v122)
def VC38 (l_:List ab) (ac:List aa) (pending:Bool) (Q:(List Int)->Prop):Prop :=
 sm l_ ->
 ∀ (_:sm ac),
 ∃ (I1:(List Int)->Int->Prop) (μ1:(List Int)->Int->Nat),I1 [] 0/\∀ (v109:List Int) (v113:Int),I1 v109 v113 ->
 ((decide (v113 < (l_.length:Int)))=true ->
 ∀ vS,cc ac v113=vS ->
 ((decide (vS < 0))=true ->
 ((0:Int)≤v113/\v113 < (l_.length:Int)) /\
 VC38_J3 I1 μ1 v109 v113 v109 ((((gi l_ v113).End) == (-1)) == pending)) /\
 ((decide (vS < 0))=false ->
 VC38_J3 I1 μ1 v109 v113 v109 false)) /\
 ((decide (v113 < (l_.length:Int)))=false ->
 VC38_J1 Q v109)
def VC39_J1 (Q:((List (List Int)))->Prop) (v109:List (List Int)):Prop :=
 Q v109
def VC39_J2 (I1:(List (List Int))->(List (List Int))->Prop) (μ1:(List (List Int))->(List (List Int))->Nat) (v115:List (List Int)) (v119:List (List Int)) (v123:List (List Int)) (v127:List (List Int)):Prop :=
 (v123.length+v127.length≤1099511627776) /\
 I1 (v123++v127) v127/\μ1 (v123++v127) v127 < μ1 v115 v119
def VC39_J3 (I2:(List (List Int))->(List (List Int))->Int->Prop) (μ2:(List (List Int))->(List (List Int))->Int->Nat) (v138:List (List Int)) (v143:List (List Int)) (v147:Int) (v148:List (List Int)) (v153:List (List Int)):Prop :=
 I2 v148 v153 (IntKind.i64.wrap (v147+1))/\μ2 v148 v153 (IntKind.i64.wrap (v147+1)) < μ2 v138 v143 v147
def VC39_J4 (I3:(List (List Int))->(List (List Int))->Int->Prop) (μ3:(List (List Int))->(List (List Int))->Int->Nat) (v157:List (List Int)) (v162:List (List Int)) (v166:Int) (v167:List (List Int)) (v172:List (List Int)):Prop :=
 I3 v167 v172 (IntKind.i64.wrap (v166+1))/\μ3 v167 v172 (IntKind.i64.wrap (v166+1)) < μ3 v157 v162 v166
def VC39_J5 (v119:List (List Int)) (v147:Int) (I3:(List (List Int))->(List (List Int))->Int->Prop) (μ3:(List (List Int))->(List (List Int))->Int->Nat) (v157:List (List Int)) (v162:List (List Int)) (v166:Int) (v176:List (List Int)) (v181:List (List Int)) (v185:Bool):Prop :=
 ((!v185)=true ->
 ((0:Int)≤v147/\v147 < (v119.length:Int)) /\
 ∀ (_:sm (gi v119 v147)),
 (([]:List Int).length+(gi v119 v147).length≤1099511627776) /\
 ((([]:List Int)++(gi v119 v147)).length+[v166].length≤1099511627776) /\
 (v181.length+[(([]:List Int)++(gi v119 v147))++[v166]].length≤1099511627776) /\
 VC39_J4 I3 μ3 v157 v162 v166 v176 (v181++[(([]:List Int)++(gi v119 v147))++[v166]])) /\
 ((!v185)=false ->
 VC39_J4 I3 μ3 v157 v162 v166 v176 v181)
def VC39_J6 (I4:(List (List Int))->(List (List Int))->Bool->Int->Prop) (μ4:(List (List Int))->(List (List Int))->Bool->Int->Nat) (v221:List (List Int)) (v226:List (List Int)) (v230:Bool) (v231:Int) (v238:List (List Int)) (v243:List (List Int)) (v247:Bool):Prop :=
 I4 v238 v243 v247 (IntKind.i64.wrap (v231+1))/\μ4 v238 v243 v247 (IntKind.i64.wrap (v231+1)) < μ4 v221 v226 v230 v231
def VC39 (n_:Int) (Q:(List (List Int))->Prop):Prop :=
 ∃ (I1:(List (List Int))->(List (List Int))->Prop) (μ1:(List (List Int))->(List (List Int))->Nat),I1 ([[]]:List (List Int)) ([[]]:List (List Int))/\∀ (v115:List (List Int)) (v119:List (List Int)),I1 v115 v119 ->
 ((decide ((v119.length:Int) > 0))=true ->
 ∃ (I2:(List (List Int))->(List (List Int))->Int->Prop) (μ2:(List (List Int))->(List (List Int))->Int->Nat),I2 v115 [] 0/\∀ (v138:List (List Int)) (v143:List (List Int)) (v147:Int),I2 v138 v143 v147 ->
 ((decide (v147 < (v119.length:Int)))=true ->
 ∃ (I3:(List (List Int))->(List (List Int))->Int->Prop) (μ3:(List (List Int))->(List (List Int))->Int->Nat),I3 v138 v143 0/\∀ (v157:List (List Int)) (v162:List (List Int)) (v166:Int),I3 v157 v162 v166 ->
 ((decide (v166 < n_))=true ->
 ∃ (I4:(List (List Int))->(List (List Int))->Bool->Int->Prop) (μ4:(List (List Int))->(List (List Int))->Bool->Int->Nat),I4 v157 v162 false 0/\∀ (v221:List (List Int)) (v226:List (List Int)) (v230:Bool) (v231:Int),I4 v221 v226 v230 v231 ->
 ((0:Int)≤v147/\v147 < (v119.length:Int)) /\
 ∀ (_:sm (gi v119 v147)),
 ((decide (v231 < ((gi v119 v147).length:Int)))=true ->
 (v230=true ->
 VC39_J6 I4 μ4 v221 v226 v230 v231 v221 v226 true) /\
 (v230=false ->
 ((0:Int)≤v147/\v147 < (v119.length:Int)) /\
 ∀ (_:sm (gi v119 v147)),
 ((0:Int)≤v231/\v231 < ((gi v119 v147).length:Int)) /\
 VC39_J6 I4 μ4 v221 v226 v230 v231 v221 v226 ((gi (gi v119 v147) v231) == v166))) /\
 ((decide (v231 < ((gi v119 v147).length:Int)))=false ->
 VC39_J5 v119 v147 I3 μ3 v157 v162 v166 v221 v226 v230)) /\
 ((decide (v166 < n_))=false ->
 VC39_J3 I2 μ2 v138 v143 v147 v157 v162)) /\
 ((decide (v147 < (v119.length:Int)))=false ->
 VC39_J2 I1 μ1 v115 v119 v138 v143)) /\
 ((decide ((v119.length:Int) > 0))=false ->
 VC39_J1 Q v115)
def VC114 (i_:Int) (al:List Bool) (Q:Bool->Prop):Prop :=
 sm al ->
 ((decide (i_ < (al.length:Int)))=true ->
 ((0:Int)≤i_/\i_ < (al.length:Int)) /\
 Q (gi al i_)) /\
 ((decide (i_ < (al.length:Int)))=false ->
 Q false)
def VC112_J1 (Q:((List Int))->Prop) (v101:List Int):Prop :=
 Q v101
def VC112_J2 (I1:(List Int)->Int->Prop) (μ1:(List Int)->Int->Nat) (v108:List Int) (v113:Int) (v116:List Int):Prop :=
 I1 v116 (IntKind.i64.wrap (v113+1))/\μ1 v116 (IntKind.i64.wrap (v113+1)) < μ1 v108 v113
def VC112_J3 (I1:(List Int)->Int->Prop) (μ1:(List Int)->Int->Nat) (v108:List Int) (v113:Int) (v131:List Int) (v135:Bool):Prop :=
 (v135=true ->
 (v131.length+[v113].length≤1099511627776) /\
 VC112_J2 I1 μ1 v108 v113 (v131++[v113])) /\
 (v135=false ->
 VC112_J2 I1 μ1 v108 v113 v131)
def VC112_J4 (I2:(List Int)->Bool->Int->Prop) (μ2:(List Int)->Bool->Int->Nat) (v148:List Int) (v152:Bool) (v155:Int) (v158:List Int) (v162:Bool):Prop :=
 I2 v158 v162 (IntKind.i64.wrap (v155+1))/\μ2 v158 v162 (IntKind.i64.wrap (v155+1)) < μ2 v148 v152 v155
def VC112 (l_:List ab) (done:List Bool) (Q:(List Int)->Prop):Prop :=
 sm l_ ->
 ∀ (_:sm done),
 ∃ (I1:(List Int)->Int->Prop) (μ1:(List Int)->Int->Nat),I1 [] 0/\∀ (v108:List Int) (v113:Int),I1 v108 v113 ->
 ((decide (v113 < (l_.length:Int)))=true ->
 ((0:Int)≤v113/\v113 < (l_.length:Int)) /\
 (ud v113 done) /\
 ∀ bI,eS v113 done=bI ->
 ∃ (I2:(List Int)->Bool->Int->Prop) (μ2:(List Int)->Bool->Int->Nat),I2 v108 (!bI) 0/\∀ (v148:List Int) (v152:Bool) (v155:Int),I2 v148 v152 v155 ->
 ((decide (v155 < (l_.length:Int)))=true ->
 ((0:Int)≤v155/\v155 < (l_.length:Int)) /\
 (v152=true ->
 (ud v155 done) /\
 ∀ vQ,eS v155 done=vQ ->
 (vQ=true ->
 VC112_J4 I2 μ2 v148 v152 v155 v148 true) /\
 (vQ=false ->
 ∀ yz,bh (gi l_ v155) (gi l_ v113)=yz ->
 VC112_J4 I2 μ2 v148 v152 v155 v148 (!yz))) /\
 (v152=false ->
 VC112_J4 I2 μ2 v148 v152 v155 v148 false)) /\
 ((decide (v155 < (l_.length:Int)))=false ->
 VC112_J3 I1 μ1 v108 v113 v148 v152)) /\
 ((decide (v113 < (l_.length:Int)))=false ->
 VC112_J1 Q v108)
def VC105_J1 (Q:((List aa))->Prop) (v105:List aa):Prop :=
 Q v105
def VC105_J2 (I1:(List aa)->Int->Prop) (μ1:(List aa)->Int->Nat) (v117:List aa) (v122:Int) (v125:List aa):Prop :=
 I1 v125 (IntKind.i64.wrap (v122+1))/\μ1 v125 (IntKind.i64.wrap (v122+1)) < μ1 v117 v122
def VC105_J3 (bH:(List Int)) (I1:(List aa)->Int->Prop) (μ1:(List aa)->Int->Nat) (v117:List aa) (v122:Int) (f9:Int × Int × Bool) (v146:List aa) (v151:Bool):Prop :=
 (v151=true ->
 (v146.length+[(⟨gi bH v122,f9.2.1⟩:aa)].length≤1099511627776) /\
 VC105_J2 I1 μ1 v117 v122 (v146++[(⟨gi bH v122,f9.2.1⟩:aa)])) /\
 (v151=false ->
 VC105_J2 I1 μ1 v117 v122 v146)
def VC105 (o_:ah) (l_:List ab) (state:Int) (done:List Bool) (Q:(List aa)->Prop):Prop :=
 sm o_.Rows ->
 ∀ (_:sm l_),
 sm done ->
 (jW o_) /\
 ∀ am,br o_=am ->
 ((am.2 != 0)=true ->
 Q []) /\
 ((am.2 != 0)=false ->
 (xj l_ done) /\
 ∀ bH,eO l_ done=bH ->
 sm bH ->
 ∃ (I1:(List aa)->Int->Prop) (μ1:(List aa)->Int->Nat),I1 [] 0/\∀ (v117:List aa) (v122:Int),I1 v117 v122 ->
 ((decide (v122 < (bH.length:Int)))=true ->
 ((0:Int)≤v122/\v122 < (bH.length:Int)) /\
 ((0:Int)≤(gi bH v122)/\(gi bH v122) < (l_.length:Int)) /\
 ∀ f9,cm o_ state ((gi l_ (gi bH v122)).Kind)=f9 ->
 (f9.2.2=true ->
 ((0:Int)≤(gi bH v122)/\(gi bH v122) < (l_.length:Int)) /\
 ((((gi l_ (gi bH v122)).End) == (-1))=true ->
 VC105_J3 bH I1 μ1 v117 v122 f9 v117 true) /\
 ((((gi l_ (gi bH v122)).End) == (-1))=false ->
 ((0:Int)≤(gi bH v122)/\(gi bH v122) < (l_.length:Int)) /\
 VC105_J3 bH I1 μ1 v117 v122 f9 v117 (((gi l_ (gi bH v122)).Result) == f9.2.1))) /\
 (f9.2.2=false ->
 VC105_J3 bH I1 μ1 v117 v122 f9 v117 false)) /\
 ((decide (v122 < (bH.length:Int)))=false ->
 VC105_J1 Q v117))
def VC88 (o_:ah) (l_:List ab) (jn:Int) (Q:Int->Prop):Prop :=
 sm o_.Rows ->
 ∀ (_:sm l_),
 (jW o_) /\
 ∀ am,br o_=am ->
 ∀ aZ,cQ l_=aZ ->
 (((am.2 != 0) || (aZ.2 != 0))=true ->
 Q 2) /\
 (((am.2 != 0) || (aZ.2 != 0))=false ->
 ((decide ((l_.length:Int) > jn))=true ->
 Q 3) /\
 ((decide ((l_.length:Int) > jn))=false ->
 Q 0))
def VC104 (s_:List aa) (Q:(List aa)->Prop):Prop :=
 sm s_ ->
 ∀ (b101:Bool),(b101=true->s_=[]) ->
 (b101=true ->
 Q []) /\
 (b101=false ->
 (([]:List aa).length+s_.length≤1099511627776) /\
 Q (([]:List aa)++s_))
def VC101_J1 (Q:bX->Prop) (v101:Int) (v102:Int):Prop :=
 Q (⟨v101,v102⟩:bX)
def VC101_J2 (I1:Int->Int->Int->Prop) (μ1:Int->Int->Int->Nat) (v110:Int) (v111:Int) (v112:Int) (v118:Int):Prop :=
 I1 (IntKind.i64.wrap (v110+1)) v118 v112/\μ1 (IntKind.i64.wrap (v110+1)) v118 v112 < μ1 v110 v111 v112
def VC101 (state:Int) (al:aX) (Q:bX->Prop):Prop :=
 sm al.o.Rows ->
 ∀ (_:sm al.l),
 sm al.done ->
 ∃ (I1:Int->Int->Int->Prop) (μ1:Int->Int->Int->Nat),I1 0 0 state/\∀ (v110:Int) (v111:Int) (v112:Int),I1 v110 v111 v112 ->
 ((decide (v110 < (al.done.length:Int)))=true ->
 ((0:Int)≤v110/\v110 < (al.done.length:Int)) /\
 ((gi al.done v110)=true ->
 ((0:Int)≤v110) /\
 VC101_J2 I1 μ1 v110 v111 v112 (IntKind.u32.wrap ((BitVec.ofInt IntKind.u32.bits v111 ||| BitVec.ofInt IntKind.u32.bits (IntKind.u32.wrap (1 * 2 ^ (min v110.toNat IntKind.u32.bits)))).toNat:Int))) /\
 ((gi al.done v110)=false ->
 VC101_J2 I1 μ1 v110 v111 v112 v111)) /\
 ((decide (v110 < (al.done.length:Int)))=false ->
 VC101_J1 Q v111 v112)
def VC100_J1 (Q:Bool->Prop):Prop :=
 Q true
def VC100_J2 (Q:Bool->Prop) (I1:Int->Prop) (μ1:Int->Nat) (v106:Int) (v115:Bool):Prop :=
 (v115=true ->
 Q false) /\
 (v115=false ->
 I1 (IntKind.i64.wrap (v106+1))/\μ1 (IntKind.i64.wrap (v106+1)) < μ1 v106)
def VC100 (al:aX) (Q:Bool->Prop):Prop :=
 sm al.o.Rows ->
 ∀ (_:sm al.l),
 sm al.done ->
 ∃ (I1:Int->Prop) (μ1:Int->Nat),I1 0/\∀ (v106:Int),I1 v106 ->
 ((decide (v106 < (al.l.length:Int)))=true ->
 ((0:Int)≤v106/\v106 < (al.l.length:Int)) /\
 ((((gi al.l v106).End) != (-1))=true ->
 ((0:Int)≤v106/\v106 < (al.done.length:Int)) /\
 VC100_J2 Q I1 μ1 v106 (!(gi al.done v106))) /\
 ((((gi al.l v106).End) != (-1))=false ->
 VC100_J2 Q I1 μ1 v106 false)) /\
 ((decide (v106 < (al.l.length:Int)))=false ->
 VC100_J1 Q)
def VC102 (N:Nat) (p_:aa) (ap:aX) (aL:Int) (bz:List aa) (Q:(List aa) × Bool × aX->Prop):Prop :=
 sm ap.o.Rows ->
 ∀ (_:sm ap.l),
 sm ap.done ->
 ∀ (_:sm bz),
 ((0:Int)≤p_.Oper/\p_.Oper < (ap.l.length:Int)) /\
 ∀ cZ,cm ap.o aL ((gi ap.l p_.Oper).Kind)=cZ ->
 ((0:Int)≤p_.Oper/\p_.Oper < (ap.done.length:Int)) /\
 (xk bz) /\
 ∀ mb,bW bz=mb ->
 sm mb ->
 (mb.length+[p_].length≤1099511627776) /\
 (rr cZ.1 (mb++[p_]) (⟨ap.o,ap.l,(ap.done.set p_.Oper.toNat true),ap.failed⟩:aX)/\n7 cZ.1 (mb++[p_]) (⟨ap.o,ap.l,(ap.done.set p_.Oper.toNat true),ap.failed⟩:aX) < N) /\
 ∀ cy,aH cZ.1 (mb++[p_]) (⟨ap.o,ap.l,(ap.done.set p_.Oper.toNat true),ap.failed⟩:aX)=cy ->
 sm cy.1 ->
 ∀ (_:sm cy.2.2.o.Rows),
 sm cy.2.2.l ->
 ∀ (_:sm cy.2.2.done),
 ((0:Int)≤p_.Oper/\p_.Oper < (cy.2.2.done.length:Int)) /\
 Q (cy.1,cy.2.1,(⟨cy.2.2.o,cy.2.2.l,(cy.2.2.done.set p_.Oper.toNat false),cy.2.2.failed⟩:aX))
def VC90_J2 (N:Nat) (Q:((List aa) × Bool × aX)->Prop) (v120:Int) (v121:Int) (v122:Int) (v123:List a8) (v127:List ab) (v139:List Bool) (v143:List (bX × Int)):Prop :=
 Q ([],false,(⟨(⟨v120,v121,v122,v123⟩:ah),v127,v139,v143⟩:aX))
def VC90_J1 (N:Nat) (state:Int) (Q:((List aa) × Bool × aX)->Prop) (bH:bX) (v120:Int) (v121:Int) (v122:Int) (v123:List a8) (v127:List ab) (v131:List Bool) (v135:List (bX × Int)):Prop :=
 ((!(bH.done == 0 && (bH.state == 0 && true)))=true ->
 VC90_J2 N Q v120 v121 v122 v123 v127 v131 (dj v135 bH (IntKind.i64.wrap (((aC v135 bH).getD 0)+1)))) /\
 ((!(bH.done == 0 && (bH.state == 0 && true)))=false ->
 VC90_J2 N Q v120 v121 v122 v123 v127 v131 v135)
def VC90 (N:Nat) (state:Int) (so:List aa) (al:aX) (Q:(List aa) × Bool × aX->Prop):Prop :=
 sm so ->
 ∀ (_:sm al.o.Rows),
 sm al.l ->
 ∀ (_:sm al.done),
 (wW al) /\
 ∀ am,dJ al=am ->
 (am=true ->
 Q (so,true,al)) /\
 (am=false ->
 ∀ bH,dy state al=bH ->
 ((decide (((aC al.failed bH).getD 0) > 0))=true ->
 Q ([],false,al)) /\
 ((decide (((aC al.failed bH).getD 0) > 0))=false ->
 (xe al.o al.l state al.done) /\
 ∀ mG,bG al.o al.l state al.done=mG ->
 sm mG ->
 ∃ (I1:(List aa)->Int->Int->Int->Int->(List a8)->(List ab)->(List Bool)->(List (bX × Int))->Prop) (μ1:(List aa)->Int->Int->Int->Int->(List a8)->(List ab)->(List Bool)->(List (bX × Int))->Nat),I1 mG 0 al.o.ar al.o.aw al.o.aE al.o.Rows al.l al.done al.failed/\∀ (v196:List aa) (v200:Int) (v202:Int) (v203:Int) (v204:Int) (v205:List a8) (v209:List ab) (v213:List Bool) (v217:List (bX × Int)),I1 v196 v200 v202 v203 v204 v205 v209 v213 v217 ->
 ((decide (v200 < (mG.length:Int)))=true ->
 ((0:Int)≤v200/\v200 < (v196.length:Int)) /\
 (wX (gi v196 v200) (⟨(⟨v202,v203,v204,v205⟩:ah),v209,v213,v217⟩:aX) state so/\AS (gi v196 v200) (⟨(⟨v202,v203,v204,v205⟩:ah),v209,v213,v217⟩:aX) state so < N) /\
 ∀ d4,bf (gi v196 v200) (⟨(⟨v202,v203,v204,v205⟩:ah),v209,v213,v217⟩:aX) state so=d4 ->
 sm d4.1 ->
 ∀ (_:sm d4.2.2.o.Rows),
 sm d4.2.2.l ->
 ∀ (_:sm d4.2.2.done),
 (d4.2.1=true ->
 Q (d4.1,true,d4.2.2)) /\
 (d4.2.1=false ->
 I1 v196 (IntKind.i64.wrap (v200+1)) d4.2.2.o.ar d4.2.2.o.aw d4.2.2.o.aE d4.2.2.o.Rows d4.2.2.l d4.2.2.done d4.2.2.failed/\μ1 v196 (IntKind.i64.wrap (v200+1)) d4.2.2.o.ar d4.2.2.o.aw d4.2.2.o.aE d4.2.2.o.Rows d4.2.2.l d4.2.2.done d4.2.2.failed < μ1 v196 v200 v202 v203 v204 v205 v209 v213 v217)) /\
 ((decide (v200 < (mG.length:Int)))=false ->
 VC90_J1 N state Q bH v202 v203 v204 v205 v209 v213 v217)))
def VC89 (o_:ah) (l_:List ab) (Q:aX->Prop):Prop :=
 sm o_.Rows ->
 ∀ (_:sm l_),
 ((0:Int)≤(l_.length:Int)/\(l_.length:Int)≤(l_.length:Int)/\(l_.length:Int)≤1099511627776) /\
 Q (⟨o_,l_,List.replicate (l_.length:Int).toNat (false:Bool),([]:List (bX × Int))⟩:aX)
def VC70_J1 (Q:((List aa) × Int)->Prop) (v143:List aa) (v147:Bool):Prop :=
 (v147=true ->
 Q ([],41)) /\
 (v147=false ->
 Q (v143,0))
def VC70 (o_:ah) (l_:List ab) (Q:(List aa) × Int->Prop):Prop :=
 sm o_.Rows ->
 ∀ (_:sm l_),
 (xl o_ l_ 20) /\
 ∀ am,cu o_ l_ 20=am ->
 ((am != 0)=true ->
 Q ([],am)) /\
 ((am != 0)=false ->
 (xn o_ l_) /\
 ∀ eZ,bB o_ l_=eZ ->
 sm eZ.o.Rows ->
 ∀ (_:sm eZ.l),
 sm eZ.done ->
 (rr o_.aE [] eZ) /\
 ∀ bI,aH o_.aE [] eZ=bI ->
 sm bI.1 ->
 ∀ (_:sm bI.2.2.o.Rows),
 sm bI.2.2.l ->
 ∀ (_:sm bI.2.2.done),
 ((!bI.2.1)=true ->
 VC70_J1 Q bI.1 true) /\
 ((!bI.2.1)=false ->
 (kE o_ l_ bI.1) /\
 ∀ nY,dh o_ l_ bI.1=nY ->
 VC70_J1 Q bI.1 (!nY)))
def VC84 (x_:av) (Q:Int->Prop):Prop :=
 (((x_.bk != 1) && (x_.bk != 2))=true ->
 Q 8) /\
 (((x_.bk != 1) && (x_.bk != 2))=false ->
 (((decide (x_.aj < 1)) || (decide (x_.aj > 1000)))=true ->
 Q 2) /\
 (((decide (x_.aj < 1)) || (decide (x_.aj > 1000)))=false ->
 (((x_.bk == 1) && ((decide (x_.N < 0)) || (decide (x_.N≥64))))=true ->
 Q 31) /\
 (((x_.bk == 1) && ((decide (x_.N < 0)) || (decide (x_.N≥64))))=false ->
 (((x_.bk == 2) && ((decide (x_.N < 0)) || (decide (x_.N > 1000000))))=true ->
 Q 7) /\
 (((x_.bk == 2) && ((decide (x_.N < 0)) || (decide (x_.N > 1000000))))=false ->
 Q 0))))
def VC55_J1 (l_:List av) (Q:(Int × Int)->Prop):Prop :=
 Q ((l_.length:Int),0)
def VC55 (l_:List av) (Q:Int × Int->Prop):Prop :=
 sm l_ ->
 ((decide ((l_.length:Int) > 10000))=true ->
 Q (0,3)) /\
 ((decide ((l_.length:Int) > 10000))=false ->
 ∃ (I1:(List (Int × Int))->Int->Prop) (μ1:(List (Int × Int))->Int->Nat),I1 ([]:List (Int × Int)) 0/\∀ (v107:List (Int × Int)) (v110:Int),I1 v107 v110 ->
 ((decide (v110 < (l_.length:Int)))=true ->
 ((0:Int)≤v110/\v110 < (l_.length:Int)) /\
 ∀ d6,fT (gi l_ v110)=d6 ->
 ((d6 != 0)=true ->
 Q (v110,d6)) /\
 ((d6 != 0)=false ->
 (((((aC v107 ((gi l_ v110).aj)).getD 0) == 1) == (((gi l_ v110).bk) == 1))=true ->
 Q (v110,33)) /\
 (((((aC v107 ((gi l_ v110).aj)).getD 0) == 1) == (((gi l_ v110).bk) == 1))=false ->
 I1 (dj v107 ((gi l_ v110).aj) ((gi l_ v110).bk)) (IntKind.i64.wrap (v110+1))/\μ1 (dj v107 ((gi l_ v110).aj) ((gi l_ v110).bk)) (IntKind.i64.wrap (v110+1)) < μ1 v107 v110))) /\
 ((decide (v110 < (l_.length:Int)))=false ->
 VC55_J1 l_ Q))
def VC94_J1 (Q:Int->Prop) (v101:Int):Prop :=
 Q v101
def VC94_J2 (I1:Int->Int->Prop) (μ1:Int->Int->Nat) (v103:Int) (v104:Int) (v106:Int):Prop :=
 I1 v106 (IntKind.i64.wrap (v104+1))/\μ1 v106 (IntKind.i64.wrap (v104+1)) < μ1 v103 v104
def VC94 (l_:List av) (process:Int) (Q:Int->Prop):Prop :=
 sm l_ ->
 ∃ (I1:Int->Int->Prop) (μ1:Int->Int->Nat),I1 (-1) 0/\∀ (v103:Int) (v104:Int),I1 v103 v104 ->
 ((decide (v104 < (l_.length:Int)))=true ->
 ((0:Int)≤v104/\v104 < (l_.length:Int)) /\
 ((((gi l_ v104).aj) == process)=true ->
 VC94_J2 I1 μ1 v103 v104 v104) /\
 ((((gi l_ v104).aj) == process)=false ->
 VC94_J2 I1 μ1 v103 v104 v103)) /\
 ((decide (v104 < (l_.length:Int)))=false ->
 VC94_J1 Q v103)
def VC79 (l_:List av) (process:Int) (Q:Bool->Prop):Prop :=
 sm l_ ->
 ∀ am,gY l_ process=am ->
 ((decide (am≥0))=true ->
 ((0:Int)≤am/\am < (l_.length:Int)) /\
 Q (((gi l_ am).bk) == 1)) /\
 ((decide (am≥0))=false ->
 Q false)
def VC50_J1 (l_:List av) (Q:(Int × Int)->Prop):Prop :=
 Q ((l_.length:Int),0)
def VC50_J2 (Q:(Int × Int)->Prop) (I1:Int->Prop) (μ1:Int->Nat) (v103:Int) (v108:Bool):Prop :=
 (v108=true ->
 Q (v103,33)) /\
 (v108=false ->
 I1 (IntKind.i64.wrap (v103+1))/\μ1 (IntKind.i64.wrap (v103+1)) < μ1 v103)
def VC50 (l_:List av) (Q:Int × Int->Prop):Prop :=
 sm l_ ->
 ((decide ((l_.length:Int) > 10000))=true ->
 Q (0,3)) /\
 ((decide ((l_.length:Int) > 10000))=false ->
 ∃ (I1:Int->Prop) (μ1:Int->Nat),I1 0/\∀ (v103:Int),I1 v103 ->
 ((decide (v103 < (l_.length:Int)))=true ->
 ((0:Int)≤v103/\v103 < (l_.length:Int)) /\
 (((((gi l_ v103).bk) != 1) && (((gi l_ v103).bk) != 2))=true ->
 Q (v103,8)) /\
 (((((gi l_ v103).bk) != 1) && (((gi l_ v103).bk) != 2))=false ->
 (((decide (((gi l_ v103).aj) < 1)) || (decide (((gi l_ v103).aj) > 1000)))=true ->
 Q (v103,2)) /\
 (((decide (((gi l_ v103).aj) < 1)) || (decide (((gi l_ v103).aj) > 1000)))=false ->
 (((((gi l_ v103).bk) == 1) && ((decide (((gi l_ v103).N) < 0)) || (decide (((gi l_ v103).N) > 63))))=true ->
 Q (v103,31)) /\
 (((((gi l_ v103).bk) == 1) && ((decide (((gi l_ v103).N) < 0)) || (decide (((gi l_ v103).N) > 63))))=false ->
 (((((gi l_ v103).bk) == 2) && ((decide (((gi l_ v103).N) < 0)) || (decide (((gi l_ v103).N) > 1000000))))=true ->
 Q (v103,7)) /\
 (((((gi l_ v103).bk) == 2) && ((decide (((gi l_ v103).N) < 0)) || (decide (((gi l_ v103).N) > 1000000))))=false ->
 ((((gi l_ v103).bk) == 1)=true ->
 ((0:Int)≤v103/\v103≤(l_.length:Int)) /\
 ∀ d6,eY (l_.take v103.toNat) ((gi l_ v103).aj)=d6 ->
 (d6=true ->
 VC50_J2 Q I1 μ1 v103 true) /\
 (d6=false ->
 ((((gi l_ v103).bk) == 2)=true ->
 ((0:Int)≤v103/\v103≤(l_.length:Int)) /\
 ∀ dA,eY (l_.take v103.toNat) ((gi l_ v103).aj)=dA ->
 VC50_J2 Q I1 μ1 v103 (!dA)) /\
 ((((gi l_ v103).bk) == 2)=false ->
 VC50_J2 Q I1 μ1 v103 false))) /\
 ((((gi l_ v103).bk) == 1)=false ->
 ((((gi l_ v103).bk) == 2)=true ->
 ((0:Int)≤v103/\v103≤(l_.length:Int)) /\
 ∀ fM,eY (l_.take v103.toNat) ((gi l_ v103).aj)=fM ->
 VC50_J2 Q I1 μ1 v103 (!fM)) /\
 ((((gi l_ v103).bk) == 2)=false ->
 VC50_J2 Q I1 μ1 v103 false))))))) /\
 ((decide (v103 < (l_.length:Int)))=false ->
 VC50_J1 l_ Q))
def VC57_J1 (Q:Bool->Prop):Prop :=
 Q true
def VC57 (a_:List a8) (b_:List a8) (Q:Bool->Prop):Prop :=
 sm a_ ->
 ∀ (_:sm b_),
 (((a_.length:Int) != (b_.length:Int))=true ->
 Q false) /\
 (((a_.length:Int) != (b_.length:Int))=false ->
 ∃ (I1:Int->Prop) (μ1:Int->Nat),I1 0/\∀ (v103:Int),I1 v103 ->
 ((decide (v103 < (a_.length:Int)))=true ->
 ((0:Int)≤v103/\v103 < (a_.length:Int)) /\
 ((0:Int)≤v103/\v103 < (b_.length:Int)) /\
 ((!(((gi a_ v103).State) == ((gi b_ v103).State) && (((gi a_ v103).Kind) == ((gi b_ v103).Kind) && (((gi a_ v103).Next) == ((gi b_ v103).Next) && (((gi a_ v103).Result) == ((gi b_ v103).Result) && true)))))=true ->
 Q false) /\
 ((!(((gi a_ v103).State) == ((gi b_ v103).State) && (((gi a_ v103).Kind) == ((gi b_ v103).Kind) && (((gi a_ v103).Next) == ((gi b_ v103).Next) && (((gi a_ v103).Result) == ((gi b_ v103).Result) && true)))))=false ->
 I1 (IntKind.i64.wrap (v103+1))/\μ1 (IntKind.i64.wrap (v103+1)) < μ1 v103)) /\
 ((decide (v103 < (a_.length:Int)))=false ->
 VC57_J1 Q))
def VC26 (a_:ah) (b_:ah) (Q:Bool->Prop):Prop :=
 sm a_.Rows ->
 ∀ (_:sm b_.Rows),
 ((((a_.ar == b_.ar) && (a_.aw == b_.aw)) && (a_.aE == b_.aE))=true ->
 ∀ am,ea a_.Rows b_.Rows=am ->
 Q am) /\
 ((((a_.ar == b_.ar) && (a_.aw == b_.aw)) && (a_.aE == b_.aE))=false ->
 Q false)
def VC56_J1 (Q:((List ab) × Int)->Prop) (v109:List ab):Prop :=
 Q (v109,0)
def VC56_J2 (I1:(List ab)->(List (Int × Int))->Int->Prop) (μ1:(List ab)->(List (Int × Int))->Int->Nat) (v115:List ab) (v119:List (Int × Int)) (v122:Int) (v123:List ab) (v127:List (Int × Int)):Prop :=
 I1 v123 v127 (IntKind.i64.wrap (v122+1))/\μ1 v123 v127 (IntKind.i64.wrap (v122+1)) < μ1 v115 v119 v122
def VC56 (l_:List av) (Q:(List ab) × Int->Prop):Prop :=
 sm l_ ->
 ∀ am,bP l_=am ->
 ((am.2 != 0)=true ->
 Q ([],am.2)) /\
 ((am.2 != 0)=false ->
 ∃ (I1:(List ab)->(List (Int × Int))->Int->Prop) (μ1:(List ab)->(List (Int × Int))->Int->Nat),I1 [] ([]:List (Int × Int)) 0/\∀ (v115:List ab) (v119:List (Int × Int)) (v122:Int),I1 v115 v119 v122 ->
 ((decide (v122 < (l_.length:Int)))=true ->
 ((0:Int)≤v122/\v122 < (l_.length:Int)) /\
 ((((gi l_ v122).bk) == 1)=true ->
 (v115.length+[(⟨(gi l_ v122).aj,(gi l_ v122).N,v122,(-1),(-1)⟩:ab)].length≤1099511627776) /\
 VC56_J2 I1 μ1 v115 v119 v122 (v115++[(⟨(gi l_ v122).aj,(gi l_ v122).N,v122,(-1),(-1)⟩:ab)]) (dj v119 ((gi l_ v122).aj) (v115.length:Int))) /\
 ((((gi l_ v122).bk) == 1)=false ->
 ((0:Int)≤((aC v119 ((gi l_ v122).aj)).getD 0)/\((aC v119 ((gi l_ v122).aj)).getD 0) < (v115.length:Int)) /\
 VC56_J2 I1 μ1 v115 v119 v122 ((v115.set ((aC v119 ((gi l_ v122).aj)).getD 0).toNat (⟨(gi v115 ((aC v119 ((gi l_ v122).aj)).getD 0)).aj,(gi v115 ((aC v119 ((gi l_ v122).aj)).getD 0)).Kind,(gi v115 ((aC v119 ((gi l_ v122).aj)).getD 0)).aF,v122,(gi v115 ((aC v119 ((gi l_ v122).aj)).getD 0)).Result⟩:ab)).set ((aC v119 ((gi l_ v122).aj)).getD 0).toNat (⟨(gi (v115.set ((aC v119 ((gi l_ v122).aj)).getD 0).toNat (⟨(gi v115 ((aC v119 ((gi l_ v122).aj)).getD 0)).aj,(gi v115 ((aC v119 ((gi l_ v122).aj)).getD 0)).Kind,(gi v115 ((aC v119 ((gi l_ v122).aj)).getD 0)).aF,v122,(gi v115 ((aC v119 ((gi l_ v122).aj)).getD 0)).Result⟩:ab)) ((aC v119 ((gi l_ v122).aj)).getD 0)).aj,(gi (v115.set ((aC v119 ((gi l_ v122).aj)).getD 0).toNat (⟨(gi v115 ((aC v119 ((gi l_ v122).aj)).getD 0)).aj,(gi v115 ((aC v119 ((gi l_ v122).aj)).getD 0)).Kind,(gi v115 ((aC v119 ((gi l_ v122).aj)).getD 0)).aF,v122,(gi v115 ((aC v119 ((gi l_ v122).aj)).getD 0)).Result⟩:ab)) ((aC v119 ((gi l_ v122).aj)).getD 0)).Kind,(gi (v115.set ((aC v119 ((gi l_ v122).aj)).getD 0).toNat (⟨(gi v115 ((aC v119 ((gi l_ v122).aj)).getD 0)).aj,(gi v115 ((aC v119 ((gi l_ v122).aj)).getD 0)).Kind,(gi v115 ((aC v119 ((gi l_ v122).aj)).getD 0)).aF,v122,(gi v115 ((aC v119 ((gi l_ v122).aj)).getD 0)).Result⟩:ab)) ((aC v119 ((gi l_ v122).aj)).getD 0)).aF,(gi (v115.set ((aC v119 ((gi l_ v122).aj)).getD 0).toNat (⟨(gi v115 ((aC v119 ((gi l_ v122).aj)).getD 0)).aj,(gi v115 ((aC v119 ((gi l_ v122).aj)).getD 0)).Kind,(gi v115 ((aC v119 ((gi l_ v122).aj)).getD 0)).aF,v122,(gi v115 ((aC v119 ((gi l_ v122).aj)).getD 0)).Result⟩:ab)) ((aC v119 ((gi l_ v122).aj)).getD 0)).End,(gi l_ v122).N⟩:ab)) v119)) /\
 ((decide (v122 < (l_.length:Int)))=false ->
 VC56_J1 Q v115))
def VC18_J1 (Q:((List ab) × Int)->Prop) (v105:List ab):Prop :=
 Q (v105,0)
def VC18_J2 (I1:(List ab)->Int->Prop) (μ1:(List ab)->Int->Nat) (v112:List ab) (v116:Int) (v118:List ab):Prop :=
 I1 v118 (IntKind.i64.wrap (v116+1))/\μ1 v118 (IntKind.i64.wrap (v116+1)) < μ1 v112 v116
def VC18_J3 (I1:(List ab)->Int->Prop) (μ1:(List ab)->Int->Nat) (v112:List ab) (v116:Int) (v145:List ab) (v149:Int) (v150:Int) (v151:Int) (v152:Int) (v153:Int):Prop :=
 (v145.length+[(⟨v149,v150,v151,v152,v153⟩:ab)].length≤1099511627776) /\
 VC18_J2 I1 μ1 v112 v116 (v145++[(⟨v149,v150,v151,v152,v153⟩:ab)])
def VC18_J4 (I2:(List ab)->Int->Int->Int->Int->Int->Int->Prop) (μ2:(List ab)->Int->Int->Int->Int->Int->Int->Nat) (v164:List ab) (v168:Int) (v169:Int) (v170:Int) (v171:Int) (v172:Int) (v173:Int) (v175:List ab) (v179:Int) (v180:Int):Prop :=
 I2 v175 (IntKind.i64.wrap (v168+1)) v169 v170 v171 v179 v180/\μ2 v175 (IntKind.i64.wrap (v168+1)) v169 v170 v171 v179 v180 < μ2 v164 v168 v169 v170 v171 v172 v173
def VC18 (l_:List av) (Q:(List ab) × Int->Prop):Prop :=
 sm l_ ->
 ∀ am,eJ l_=am ->
 ((am.2 != 0)=true ->
 Q ([],am.2)) /\
 ((am.2 != 0)=false ->
 ∃ (I1:(List ab)->Int->Prop) (μ1:(List ab)->Int->Nat),I1 [] 0/\∀ (v112:List ab) (v116:Int),I1 v112 v116 ->
 ((decide (v116 < (l_.length:Int)))=true ->
 ((0:Int)≤v116/\v116 < (l_.length:Int)) /\
 ((((gi l_ v116).bk) != 1)=true ->
 VC18_J2 I1 μ1 v112 v116 v112) /\
 ((((gi l_ v116).bk) != 1)=false ->
 ((0:Int)≤v116/\v116 < (l_.length:Int)) /\
 ((0:Int)≤v116/\v116 < (l_.length:Int)) /\
 ∃ (I2:(List ab)->Int->Int->Int->Int->Int->Int->Prop) (μ2:(List ab)->Int->Int->Int->Int->Int->Int->Nat),I2 v112 (IntKind.i64.wrap (v116+1)) ((gi l_ v116).aj) ((gi l_ v116).N) v116 (-1) (-1)/\∀ (v164:List ab) (v168:Int) (v169:Int) (v170:Int) (v171:Int) (v172:Int) (v173:Int),I2 v164 v168 v169 v170 v171 v172 v173 ->
 (((decide (v168 < (l_.length:Int))) && (decide (v172 < 0)))=true ->
 ((0:Int)≤v168/\v168 < (l_.length:Int)) /\
 ((0:Int)≤v116/\v116 < (l_.length:Int)) /\
 ((((gi l_ v168).aj) == ((gi l_ v116).aj))=true ->
 ((0:Int)≤v168/\v168 < (l_.length:Int)) /\
 VC18_J4 I2 μ2 v164 v168 v169 v170 v171 v172 v173 v164 v168 ((gi l_ v168).N)) /\
 ((((gi l_ v168).aj) == ((gi l_ v116).aj))=false ->
 VC18_J4 I2 μ2 v164 v168 v169 v170 v171 v172 v173 v164 v172 v173)) /\
 (((decide (v168 < (l_.length:Int))) && (decide (v172 < 0)))=false ->
 VC18_J3 I1 μ1 v112 v116 v164 v169 v170 v171 v172 v173))) /\
 ((decide (v116 < (l_.length:Int)))=false ->
 VC18_J1 Q v112))
def VC25_J1 (Q:Bool->Prop):Prop :=
 Q true
def VC25 (a_:List Int) (b_:List Int) (Q:Bool->Prop):Prop :=
 sm a_ ->
 ∀ (_:sm b_),
 (((a_.length:Int) != (b_.length:Int))=true ->
 Q false) /\
 (((a_.length:Int) != (b_.length:Int))=false ->
 ∃ (I1:Int->Prop) (μ1:Int->Nat),I1 0/\∀ (v103:Int),I1 v103 ->
 ((decide (v103 < (a_.length:Int)))=true ->
 ((0:Int)≤v103/\v103 < (a_.length:Int)) /\
 ((0:Int)≤v103/\v103 < (b_.length:Int)) /\
 (((gi a_ v103) != (gi b_ v103))=true ->
 Q false) /\
 (((gi a_ v103) != (gi b_ v103))=false ->
 I1 (IntKind.i64.wrap (v103+1))/\μ1 (IntKind.i64.wrap (v103+1)) < μ1 v103)) /\
 ((decide (v103 < (a_.length:Int)))=false ->
 VC25_J1 Q))
def VC92_J1 (Q:Int->Prop):Prop :=
 Q (-1)
def VC92 (s_:List Int) (v_:Int) (Q:Int->Prop):Prop :=
 sm s_ ->
 ∃ (I1:Int->Prop) (μ1:Int->Nat),I1 0/\∀ (v102:Int),I1 v102 ->
 ((decide (v102 < (s_.length:Int)))=true ->
 ((0:Int)≤v102/\v102 < (s_.length:Int)) /\
 ((v_ == (gi s_ v102))=true ->
 Q v102) /\
 ((v_ == (gi s_ v102))=false ->
 I1 (IntKind.i64.wrap (v102+1))/\μ1 (IntKind.i64.wrap (v102+1)) < μ1 v102)) /\
 ((decide (v102 < (s_.length:Int)))=false ->
 VC92_J1 Q)
def VC77 (s_:List Int) (v_:Int) (Q:Bool->Prop):Prop :=
 sm s_ ->
 ∀ am,dV s_ v_=am ->
 Q (decide (am≥0))
def VC49 (s_:List a8) (Q:(List a8)->Prop):Prop :=
 sm s_ ->
 ∀ (b101:Bool),(b101=true->s_=[]) ->
 (b101=true ->
 Q []) /\
 (b101=false ->
 (([]:List a8).length+s_.length≤1099511627776) /\
 Q (([]:List a8)++s_))
def VC76 (p_:Int × Int) (n_:Int) (Q:Bool->Prop):Prop :=
 Q (((decide ((if p_.2 < p_.1 then p_.2 else p_.1)≥0)) && (decide ((if p_.2 > p_.1 then p_.2 else p_.1) < n_))) && (p_.1 != p_.2))
def VC75 (p_:Int × Int) (al:Int) (ap:Int) (aL:List Int) (Q:Bool->Prop):Prop :=
 sm aL ->
 ∀ am,dR (p_.1,p_.2) al=am ->
 ((am && (p_.2 == ap))=true ->
 ∀ aZ,ct aL p_.1=aZ ->
 Q (!aZ)) /\
 ((am && (p_.2 == ap))=false ->
 Q false)
def VC93_75_J1 (Q:Int->Prop):Prop :=
 Q (-1)
def VC93_75 (s_:List (Int × Int)) (al:Int) (ap:Int) (aL:List Int) (Q:Int->Prop):Prop :=
 sm s_ ->
 ∀ (_:sm aL),
 ∃ (I1:Int->Prop) (μ1:Int->Nat),I1 0/\∀ (v103:Int),I1 v103 ->
 ((decide (v103 < (s_.length:Int)))=true ->
 ((0:Int)≤v103/\v103 < (s_.length:Int)) /\
 ∀ cZ,ca (gi s_ v103) al ap aL=cZ ->
 (cZ=true ->
 Q v103) /\
 (cZ=false ->
 I1 (IntKind.i64.wrap (v103+1))/\μ1 (IntKind.i64.wrap (v103+1)) < μ1 v103)) /\
 ((decide (v103 < (s_.length:Int)))=false ->
 VC93_75_J1 Q)
def VC78_75 (s_:List (Int × Int)) (al:Int) (ap:Int) (aL:List Int) (Q:Bool->Prop):Prop :=
 sm s_ ->
 ∀ (_:sm aL),
 ∀ am,bm s_ al ap aL=am ->
 Q (decide (am≥0))
def VC74 (x_:Int) (al:Int) (ap:List Int) (aL:List (Int × Int)) (Q:Bool->Prop):Prop :=
 sm ap ->
 ∀ (_:sm aL),
 ∀ am,ct ap x_=am ->
 (am=true ->
 Q true) /\
 (am=false ->
 ∀ aZ,bD aL al x_ ap=aZ ->
 Q aZ)
def VC44_J1 (Q:((List Int) × Bool)->Prop) (v105:List Int):Prop :=
 Q (v105,true)
def VC44_J2 (n_:Int) (Q:((List Int) × Bool)->Prop) (I1:(List Int)->Prop) (μ1:(List Int)->Nat) (v112:List Int) (v116:Int) (v118:List Int):Prop :=
 ((v116 == n_)=true ->
 Q ([],false)) /\
 ((v116 == n_)=false ->
 (v118.length+[v116].length≤1099511627776) /\
 I1 (v118++[v116])/\μ1 (v118++[v116]) < μ1 v112)
def VC44_J3 (n_:Int) (Q:((List Int) × Bool)->Prop) (I1:(List Int)->Prop) (μ1:(List Int)->Nat) (v112:List Int) (I2:Int->(List Int)->Prop) (μ2:Int->(List Int)->Nat) (v133:Int) (v135:List Int) (v139:Bool) (v141:List Int):Prop :=
 (v139=true ->
 I2 (IntKind.i64.wrap (v133+1)) v141/\μ2 (IntKind.i64.wrap (v133+1)) v141 < μ2 v133 v135) /\
 (v139=false ->
 VC44_J2 n_ Q I1 μ1 v112 v133 v141)
def VC44 (n_:Int) (pairs:List (Int × Int)) (Q:(List Int) × Bool->Prop):Prop :=
 sm pairs ->
 (((decide (n_ < 0)) || (decide (n_ > 64)))=true ->
 Q ([],false)) /\
 (((decide (n_ < 0)) || (decide (n_ > 64)))=false ->
 ((0:Int)≤0/\0≤n_/\n_≤1099511627776) /\
 ∃ (I1:(List Int)->Prop) (μ1:(List Int)->Nat),I1 (List.replicate (0:Int).toNat (0:Int))/\∀ (v112:List Int),I1 v112 ->
 ((decide ((v112.length:Int) < n_))=true ->
 ∃ (I2:Int->(List Int)->Prop) (μ2:Int->(List Int)->Nat),I2 0 v112/\∀ (v133:Int) (v135:List Int),I2 v133 v135 ->
 ((decide (v133 < n_))=true ->
 ∀ yC,c6 v133 n_ v135 pairs=yC ->
 VC44_J3 n_ Q I1 μ1 v112 I2 μ2 v133 v135 yC v135) /\
 ((decide (v133 < n_))=false ->
 VC44_J3 n_ Q I1 μ1 v112 I2 μ2 v133 v135 false v135)) /\
 ((decide ((v112.length:Int) < n_))=false ->
 VC44_J1 Q v112))
def VC47_J1 (Q:((List av))->Prop) (v101:List av):Prop :=
 Q v101
def VC47 (h_:ak) (Q:(List av)->Prop):Prop :=
 sm h_.ae ->
 ∀ (_:sm h_.ao),
 ∃ (I1:(List av)->Int->Prop) (μ1:(List av)->Int->Nat),I1 [] 0/\∀ (v107:List av) (v112:Int),I1 v107 v112 ->
 ((decide (v112 < (h_.ao.length:Int)))=true ->
 ((0:Int)≤v112/\v112 < (h_.ao.length:Int)) /\
 (v107.length+[((gi h_.ao v112).aS)].length≤1099511627776) /\
 I1 (v107++[((gi h_.ao v112).aS)]) (IntKind.i64.wrap (v112+1))/\μ1 (v107++[((gi h_.ao v112).aS)]) (IntKind.i64.wrap (v112+1)) < μ1 v107 v112) /\
 ((decide (v112 < (h_.ao.length:Int)))=false ->
 VC47_J1 Q v107)
def VC52 (o_:ah) (Q:Bool->Prop):Prop :=
 sm o_.Rows ->
 (jW o_) /\
 ∀ am,br o_=am ->
 Q (am.2 != 0)
def VC83_52_J1 (Q:Int->Prop):Prop :=
 Q (-1)
def VC83_52 (s_:List ah) (Q:Int->Prop):Prop :=
 sm s_ ->
 ∃ (I1:Int->Prop) (μ1:Int->Nat),I1 0/\∀ (v102:Int),I1 v102 ->
 ((decide (v102 < (s_.length:Int)))=true ->
 ((0:Int)≤v102/\v102 < (s_.length:Int)) /\
 ∀ (_:sm ((gi s_ v102).Rows)),
 (jW (gi s_ v102)) /\
 ∀ bH,cM (gi s_ v102)=bH ->
 (bH=true ->
 Q v102) /\
 (bH=false ->
 I1 (IntKind.i64.wrap (v102+1))/\μ1 (IntKind.i64.wrap (v102+1)) < μ1 v102)) /\
 ((decide (v102 < (s_.length:Int)))=false ->
 VC83_52_J1 Q)
def VC54_52 (s_:List ah) (Q:Bool->Prop):Prop :=
 sm s_ ->
 (lr s_) /\
 ∀ am,a9 s_=am ->
 Q (decide (am≥0))
def VC23_J2 (h_:ak) (Q:(Int × Int)->Prop):Prop :=
 Q ((h_.ao.length:Int),0)
def VC23_J4 (h_:ak) (Q:(Int × Int)->Prop) (I1:(List (Int × Int))->Int->Prop) (μ1:(List (Int × Int))->Int->Nat) (v121:List (Int × Int)) (v124:Int) (v137:Bool):Prop :=
 (v137=true ->
 Q (v124,31)) /\
 (v137=false ->
 I1 (dj v121 (((gi h_.ao v124).aS).aj) ((gi h_.ao v124).ax)) (IntKind.i64.wrap (v124+1))/\μ1 (dj v121 (((gi h_.ao v124).aS).aj) ((gi h_.ao v124).ax)) (IntKind.i64.wrap (v124+1)) < μ1 v121 v124)
def VC23_J3 (h_:ak) (Q:(Int × Int)->Prop) (I1:(List (Int × Int))->Int->Prop) (μ1:(List (Int × Int))->Int->Nat) (v121:List (Int × Int)) (v124:Int) (v132:Bool):Prop :=
 (v132=true ->
 Q (v124,32)) /\
 (v132=false ->
 (((((gi h_.ao v124).aS).bk) == 1)=true ->
 ((0:Int)≤((gi h_.ao v124).ax)/\((gi h_.ao v124).ax) < (h_.ae.length:Int)) /\
 VC23_J4 h_ Q I1 μ1 v121 v124 (decide ((((gi h_.ao v124).aS).N)≥((gi h_.ae ((gi h_.ao v124).ax)).aw)))) /\
 (((((gi h_.ao v124).aS).bk) == 1)=false ->
 VC23_J4 h_ Q I1 μ1 v121 v124 false))
def VC23_J1 (h_:ak) (Q:(Int × Int)->Prop) (v101:Bool):Prop :=
 (v101=true ->
 Q ((-1),2)) /\
 (v101=false ->
 (lq (⟨h_.ae,h_.ao⟩:ak)) /\
 ∀ mH,bN (⟨h_.ae,h_.ao⟩:ak)=mH ->
 sm mH ->
 ∀ cV,bP mH=cV ->
 ((cV.2 != 0)=true ->
 Q (cV.1,cV.2)) /\
 ((cV.2 != 0)=false ->
 ∃ (I1:(List (Int × Int))->Int->Prop) (μ1:(List (Int × Int))->Int->Nat),I1 ([]:List (Int × Int)) 0/\∀ (v121:List (Int × Int)) (v124:Int),I1 v121 v124 ->
 ((decide (v124 < (h_.ao.length:Int)))=true ->
 ((0:Int)≤v124/\v124 < (h_.ao.length:Int)) /\
 (((decide (((gi h_.ao v124).ax) < 0)) || (decide (((gi h_.ao v124).ax)≥(h_.ae.length:Int))))=true ->
 Q (v124,2)) /\
 (((decide (((gi h_.ao v124).ax) < 0)) || (decide (((gi h_.ao v124).ax)≥(h_.ae.length:Int))))=false ->
 (((((gi h_.ao v124).aS).bk) == 2)=true ->
 VC23_J3 h_ Q I1 μ1 v121 v124 (((aC v121 (((gi h_.ao v124).aS).aj)).getD 0) != ((gi h_.ao v124).ax))) /\
 (((((gi h_.ao v124).aS).bk) == 2)=false ->
 VC23_J3 h_ Q I1 μ1 v121 v124 false))) /\
 ((decide (v124 < (h_.ao.length:Int)))=false ->
 VC23_J2 h_ Q)))
def VC23 (h_:ak) (Q:Int × Int->Prop):Prop :=
 sm h_.ae ->
 ∀ (_:sm h_.ao),
 (((decide ((h_.ae.length:Int) < 1)) || (decide ((h_.ae.length:Int) > 8)))=true ->
 VC23_J1 h_ Q true) /\
 (((decide ((h_.ae.length:Int) < 1)) || (decide ((h_.ae.length:Int) > 8)))=false ->
 (lr h_.ae) /\
 ∀ yA,aW h_.ae=yA ->
 VC23_J1 h_ Q yA)
def VC45_J1 (Q:((List av))->Prop) (v101:List av):Prop :=
 Q v101
def VC45 (l_:List aD) (Q:(List av)->Prop):Prop :=
 sm l_ ->
 ∃ (I1:(List av)->Int->Prop) (μ1:(List av)->Int->Nat),I1 [] 0/\∀ (v108:List av) (v112:Int),I1 v108 v112 ->
 ((decide (v112 < (l_.length:Int)))=true ->
 ((0:Int)≤v112/\v112 < (l_.length:Int)) /\
 (v108.length+[(gi l_ v112).aS].length≤1099511627776) /\
 I1 (v108++[(gi l_ v112).aS]) (IntKind.i64.wrap (v112+1))/\μ1 (v108++[(gi l_ v112).aS]) (IntKind.i64.wrap (v112+1)) < μ1 v108 v112) /\
 ((decide (v112 < (l_.length:Int)))=false ->
 VC45_J1 Q v108)
def VC59_J1 (Q:Int->Prop):Prop :=
 Q (-1)
def VC59 (l_:List aD) (at_:Int) (Q:Int->Prop):Prop :=
 sm l_ ->
 ∃ (I1:Int->Prop) (μ1:Int->Nat),I1 (IntKind.i64.wrap (at_ - 1))/\∀ (v102:Int),I1 v102 ->
 ((decide (v102≥0))=true ->
 ((0:Int)≤v102/\v102 < (l_.length:Int)) /\
 ((0:Int)≤at_/\at_ < (l_.length:Int)) /\
 (((((gi l_ v102).aS).aj) == (((gi l_ at_).aS).aj))=true ->
 ((0:Int)≤v102/\v102 < (l_.length:Int)) /\
 Q ((gi l_ v102).ax)) /\
 (((((gi l_ v102).aS).aj) == (((gi l_ at_).aS).aj))=false ->
 I1 (IntKind.i64.wrap (v102 - 1))/\μ1 (IntKind.i64.wrap (v102 - 1)) < μ1 v102)) /\
 ((decide (v102≥0))=false ->
 VC59_J1 Q)
def VC28_J2 (l_:List aD) (Q:(Int × Int)->Prop):Prop :=
 Q ((l_.length:Int),0)
def VC28_J4 (Q:(Int × Int)->Prop) (I1:Int->Prop) (μ1:Int->Nat) (v117:Int) (v126:Bool):Prop :=
 (v126=true ->
 Q (v117,31)) /\
 (v126=false ->
 I1 (IntKind.i64.wrap (v117+1))/\μ1 (IntKind.i64.wrap (v117+1)) < μ1 v117)
def VC28_J3 (objects:List ah) (l_:List aD) (Q:(Int × Int)->Prop) (I1:Int->Prop) (μ1:Int->Nat) (v117:Int) (v123:Bool):Prop :=
 (v123=true ->
 Q (v117,32)) /\
 (v123=false ->
 (((((gi l_ v117).aS).bk) == 1)=true ->
 ((0:Int)≤((gi l_ v117).ax)/\((gi l_ v117).ax) < (objects.length:Int)) /\
 VC28_J4 Q I1 μ1 v117 (decide ((((gi l_ v117).aS).N)≥((gi objects ((gi l_ v117).ax)).aw)))) /\
 (((((gi l_ v117).aS).bk) == 1)=false ->
 VC28_J4 Q I1 μ1 v117 false))
def VC28_J1 (objects:List ah) (l_:List aD) (Q:(Int × Int)->Prop):Prop :=
 (rn l_) /\
 ∀ f5,cl l_=f5 ->
 sm f5 ->
 ∀ fB,eJ f5=fB ->
 ((fB.2 != 0)=true ->
 Q (fB.1,fB.2)) /\
 ((fB.2 != 0)=false ->
 ∃ (I1:Int->Prop) (μ1:Int->Nat),I1 0/\∀ (v117:Int),I1 v117 ->
 ((decide (v117 < (l_.length:Int)))=true ->
 ((0:Int)≤v117/\v117 < (l_.length:Int)) /\
 (((decide (((gi l_ v117).ax) < 0)) || (decide (((gi l_ v117).ax)≥(objects.length:Int))))=true ->
 Q (v117,2)) /\
 (((decide (((gi l_ v117).ax) < 0)) || (decide (((gi l_ v117).ax)≥(objects.length:Int))))=false ->
 (((((gi l_ v117).aS).bk) == 2)=true ->
 (sC l_ v117) /\
 ∀ vR,fh l_ v117=vR ->
 VC28_J3 objects l_ Q I1 μ1 v117 (vR != ((gi l_ v117).ax))) /\
 (((((gi l_ v117).aS).bk) == 2)=false ->
 VC28_J3 objects l_ Q I1 μ1 v117 false))) /\
 ((decide (v117 < (l_.length:Int)))=false ->
 VC28_J2 l_ Q))
def VC28 (objects:List ah) (l_:List aD) (Q:Int × Int->Prop):Prop :=
 sm objects ->
 ∀ (_:sm l_),
 (((decide ((objects.length:Int) < 1)) || (decide ((objects.length:Int) > 8)))=true ->
 Q ((-1),2)) /\
 (((decide ((objects.length:Int) < 1)) || (decide ((objects.length:Int) > 8)))=false ->
 ∃ (I2:Int->Prop) (μ2:Int->Nat),I2 0/\∀ (v152:Int),I2 v152 ->
 ((decide (v152 < (objects.length:Int)))=true ->
 ((0:Int)≤v152/\v152 < (objects.length:Int)) /\
 ∀ (_:sm ((gi objects v152).Rows)),
 ∀ t0,cI (gi objects v152)=t0 ->
 ((t0.2 != 0)=true ->
 Q ((-1),2)) /\
 ((t0.2 != 0)=false ->
 I2 (IntKind.i64.wrap (v152+1))/\μ2 (IntKind.i64.wrap (v152+1)) < μ2 v152)) /\
 ((decide (v152 < (objects.length:Int)))=false ->
 VC28_J1 objects l_ Q))
def VC48 (i_:Int) (al:ak) (ap:Int) (Q:Bool->Prop):Prop :=
 sm al.ae ->
 ∀ (_:sm al.ao),
 ((0:Int)≤i_/\i_ < (al.ao.length:Int)) /\
 Q (((gi al.ao i_).ax) == ap)
def VC46_48_J1 (Q:((List av))->Prop) (v101:List av):Prop :=
 Q v101
def VC46_48_J2 (I1:(List av)->Int->Prop) (μ1:(List av)->Int->Nat) (v109:List av) (v114:Int) (v117:List av):Prop :=
 I1 v117 (IntKind.i64.wrap (v114+1))/\μ1 v117 (IntKind.i64.wrap (v114+1)) < μ1 v109 v114
def VC46_48 (l_:List av) (al:ak) (ap:Int) (Q:(List av)->Prop):Prop :=
 sm l_ ->
 ∀ (_:sm al.ae),
 sm al.ao ->
 ∃ (I1:(List av)->Int->Prop) (μ1:(List av)->Int->Nat),I1 [] 0/\∀ (v109:List av) (v114:Int),I1 v109 v114 ->
 ((decide (v114 < (l_.length:Int)))=true ->
 ((0:Int)≤v114/\v114 < (l_.length:Int)) /\
 (w7 v114 (⟨al.ae,al.ao⟩:ak) ap) /\
 ∀ sA,eG v114 (⟨al.ae,al.ao⟩:ak) ap=sA ->
 (sA=true ->
 (v109.length+[(gi l_ v114)].length≤1099511627776) /\
 VC46_48_J2 I1 μ1 v109 v114 (v109++[(gi l_ v114)])) /\
 (sA=false ->
 VC46_48_J2 I1 μ1 v109 v114 v109)) /\
 ((decide (v114 < (l_.length:Int)))=false ->
 VC46_48_J1 Q v109)
def VC17 (h_:ak) (k_:Int) (Q:fw->Prop):Prop :=
 sm h_.ae ->
 ∀ (_:sm h_.ao),
 (fQ h_) /\
 ∀ am,aB h_=am ->
 ((((am.2 != 0) || (decide (k_ < 0))) || (decide (k_≥(h_.ae.length:Int))))=true ->
 Q (⟨(⟨0,0,0,[]⟩:ah),[]⟩:fw)) /\
 ((((am.2 != 0) || (decide (k_ < 0))) || (decide (k_≥(h_.ae.length:Int))))=false ->
 (lq h_) /\
 ∀ eZ,bN h_=eZ ->
 sm eZ ->
 (xa eZ h_ k_) /\
 ∀ d6,bM eZ h_ k_=d6 ->
 sm d6 ->
 ((0:Int)≤k_/\k_ < (h_.ae.length:Int)) /\
 ∀ (_:sm ((gi h_.ae k_).Rows)),
 (xm ((gi h_.ae k_).Rows)) /\
 ∀ gc,cY ((gi h_.ae k_).Rows)=gc ->
 sm gc ->
 Q (⟨(⟨(gi h_.ae k_).ar,(gi h_.ae k_).aw,(gi h_.ae k_).aE,gc⟩:ah),d6⟩:fw))
def VC24_J1 (Q:((List ab) × (List Int))->Prop) (cJ:(List ab) × Int) (v120:List Int):Prop :=
 Q (cJ.1,v120)
def VC24 (h_:ak) (Q:(List ab) × (List Int)->Prop):Prop :=
 sm h_.ae ->
 ∀ (_:sm h_.ao),
 (fQ h_) /\
 ∀ am,aB h_=am ->
 ((am.2 != 0)=true ->
 Q ([],[])) /\
 ((am.2 != 0)=false ->
 (lq h_) /\
 ∀ aZ,bN h_=aZ ->
 sm aZ ->
 ∀ cJ,gl aZ=cJ ->
 sm cJ.1 ->
 ∃ (I1:(List Int)->Int->Prop) (μ1:(List Int)->Int->Nat),I1 [] 0/\∀ (v127:List Int) (v132:Int),I1 v127 v132 ->
 ((decide (v132 < (cJ.1.length:Int)))=true ->
 ((0:Int)≤v132/\v132 < (cJ.1.length:Int)) /\
 ((0:Int)≤((gi cJ.1 v132).aF)/\((gi cJ.1 v132).aF) < (h_.ao.length:Int)) /\
 (v127.length+[(gi h_.ao ((gi cJ.1 v132).aF)).ax].length≤1099511627776) /\
 I1 (v127++[(gi h_.ao ((gi cJ.1 v132).aF)).ax]) (IntKind.i64.wrap (v132+1))/\μ1 (v127++[(gi h_.ao ((gi cJ.1 v132).aF)).ax]) (IntKind.i64.wrap (v132+1)) < μ1 v127 v132) /\
 ((decide (v132 < (cJ.1.length:Int)))=false ->
 VC24_J1 Q cJ v127))
def VC16_J1 (Q:((List ab) × (List Int))->Prop) (cJ:(List ab) × Int) (v120:List Int):Prop :=
 Q (cJ.1,v120)
def VC16 (objects:List ah) (l_:List aD) (Q:(List ab) × (List Int)->Prop):Prop :=
 sm objects ->
 ∀ (_:sm l_),
 (km objects l_) /\
 ∀ am,dz objects l_=am ->
 ((am.2 != 0)=true ->
 Q ([],[])) /\
 ((am.2 != 0)=false ->
 (rn l_) /\
 ∀ aZ,cl l_=aZ ->
 sm aZ ->
 ∀ cJ,iq aZ=cJ ->
 sm cJ.1 ->
 ∃ (I1:(List Int)->Int->Prop) (μ1:(List Int)->Int->Nat),I1 [] 0/\∀ (v128:List Int) (v132:Int),I1 v128 v132 ->
 ((decide (v132 < (cJ.1.length:Int)))=true ->
 ((0:Int)≤v132/\v132 < (cJ.1.length:Int)) /\
 ((0:Int)≤((gi cJ.1 v132).aF)/\((gi cJ.1 v132).aF) < (l_.length:Int)) /\
 (v128.length+[(gi l_ ((gi cJ.1 v132).aF)).ax].length≤1099511627776) /\
 I1 (v128++[(gi l_ ((gi cJ.1 v132).aF)).ax]) (IntKind.i64.wrap (v132+1))/\μ1 (v128++[(gi l_ ((gi cJ.1 v132).aF)).ax]) (IntKind.i64.wrap (v132+1)) < μ1 v128 v132) /\
 ((decide (v132 < (cJ.1.length:Int)))=false ->
 VC16_J1 Q cJ v128))
def VC41 (h_:ak) (Q:(List ab) × (List Int) × Int->Prop):Prop :=
 sm h_.ae ->
 ∀ (_:sm h_.ao),
 (fQ h_) /\
 ∀ am,aB h_=am ->
 ((am.2 != 0)=true ->
 Q ([],[],am.2)) /\
 ((am.2 != 0)=false ->
 (fQ h_) /\
 ∀ aZ,cA h_=aZ ->
 sm aZ.1 ->
 ∀ (_:sm aZ.2),
 ((decide ((aZ.1.length:Int) > 20))=true ->
 Q ([],[],3)) /\
 ((decide ((aZ.1.length:Int) > 20))=false ->
 Q (aZ.1,aZ.2,0)))
def VC69_J1 (Q:((List Int))->Prop) (v101:List Int):Prop :=
 Q v101
def VC69_J2 (I1:(List Int)->Int->Prop) (μ1:(List Int)->Int->Nat) (v107:List Int) (v112:Int) (v113:List Int):Prop :=
 I1 v113 (IntKind.i64.wrap (v112+1))/\μ1 v113 (IntKind.i64.wrap (v112+1)) < μ1 v107 v112
def VC69 (of:List Int) (k_:Int) (Q:(List Int)->Prop):Prop :=
 sm of ->
 ∃ (I1:(List Int)->Int->Prop) (μ1:(List Int)->Int->Nat),I1 [] 0/\∀ (v107:List Int) (v112:Int),I1 v107 v112 ->
 ((decide (v112 < (of.length:Int)))=true ->
 ((0:Int)≤v112/\v112 < (of.length:Int)) /\
 (((gi of v112) == k_)=true ->
 (v107.length+[v112].length≤1099511627776) /\
 VC69_J2 I1 μ1 v107 v112 (v107++[v112])) /\
 (((gi of v112) == k_)=false ->
 VC69_J2 I1 μ1 v107 v112 v107)) /\
 ((decide (v112 < (of.length:Int)))=false ->
 VC69_J1 Q v107)
def VC72 (i_:Int) (al:List Int) (ap:Int) (Q:Bool->Prop):Prop :=
 sm al ->
 ((0:Int)≤i_/\i_ < (al.length:Int)) /\
 Q ((gi al i_) == ap)
def VC71_72_J1 (Q:((List ab))->Prop) (v101:List ab):Prop :=
 Q v101
def VC71_72_J2 (I1:(List ab)->Int->Prop) (μ1:(List ab)->Int->Nat) (v108:List ab) (v113:Int) (v115:List ab):Prop :=
 I1 v115 (IntKind.i64.wrap (v113+1))/\μ1 v115 (IntKind.i64.wrap (v113+1)) < μ1 v108 v113
def VC71_72 (l_:List ab) (al:List Int) (ap:Int) (Q:(List ab)->Prop):Prop :=
 sm l_ ->
 ∀ (_:sm al),
 ∃ (I1:(List ab)->Int->Prop) (μ1:(List ab)->Int->Nat),I1 [] 0/\∀ (v108:List ab) (v113:Int),I1 v108 v113 ->
 ((decide (v113 < (l_.length:Int)))=true ->
 ((0:Int)≤v113/\v113 < (l_.length:Int)) /\
 (sB v113 al ap) /\
 ∀ yF,dC v113 al ap=yF ->
 (yF=true ->
 (v108.length+[(gi l_ v113)].length≤1099511627776) /\
 VC71_72_J2 I1 μ1 v108 v113 (v108++[(gi l_ v113)])) /\
 (yF=false ->
 VC71_72_J2 I1 μ1 v108 v113 v108)) /\
 ((decide (v113 < (l_.length:Int)))=false ->
 VC71_72_J1 Q v108)
def VC42_J1 (Q:((List (List aa)) × Int)->Prop) (v101:List (List aa)):Prop :=
 Q (v101,0)
def VC42_J2 (I1:(List (List aa))->Int->Prop) (μ1:(List (List aa))->Int->Nat) (v108:List (List aa)) (v113:Int) (v147:List (List aa)) (v151:List aa):Prop :=
 (v147.length+[v151].length≤1099511627776) /\
 I1 (v147++[v151]) (IntKind.i64.wrap (v113+1))/\μ1 (v147++[v151]) (IntKind.i64.wrap (v113+1)) < μ1 v108 v113
def VC42 (h_:ak) (l_:List ab) (of:List Int) (Q:(List (List aa)) × Int->Prop):Prop :=
 sm h_.ae ->
 ∀ (_:sm h_.ao),
 sm l_ ->
 ∀ (_:sm of),
 ∃ (I1:(List (List aa))->Int->Prop) (μ1:(List (List aa))->Int->Nat),I1 [] 0/\∀ (v108:List (List aa)) (v113:Int),I1 v108 v113 ->
 ((decide (v113 < (h_.ae.length:Int)))=true ->
 ((0:Int)≤v113/\v113 < (h_.ae.length:Int)) /\
 ∀ (_:sm ((gi h_.ae v113).Rows)),
 (rq of v113) /\
 ∀ dA,aP of v113=dA ->
 sm dA ->
 (w9 l_ of v113) /\
 ∀ fP,bC l_ of v113=fP ->
 sm fP ->
 (wY (gi h_.ae v113) fP) /\
 ∀ b6,bj (gi h_.ae v113) fP=b6 ->
 sm b6.1 ->
 ((b6.2 != 0)=true ->
 Q ([],b6.2)) /\
 ((b6.2 != 0)=false ->
 ∃ (I2:(List (List aa))->(List aa)->Int->Prop) (μ2:(List (List aa))->(List aa)->Int->Nat),I2 v108 b6.1 0/\∀ (v169:List (List aa)) (v174:List aa) (v179:Int),I2 v169 v174 v179 ->
 ((decide (v179 < (b6.1.length:Int)))=true ->
 ((0:Int)≤v179/\v179 < (v174.length:Int)) /\
 ((0:Int)≤((gi v174 v179).Oper)/\((gi v174 v179).Oper) < (dA.length:Int)) /\
 ((0:Int)≤v179/\v179 < (v174.length:Int)) /\
 I2 v169 (v174.set v179.toNat (⟨gi dA ((gi v174 v179).Oper),(gi v174 v179).Result⟩:aa)) (IntKind.i64.wrap (v179+1))/\μ2 v169 (v174.set v179.toNat (⟨gi dA ((gi v174 v179).Oper),(gi v174 v179).Result⟩:aa)) (IntKind.i64.wrap (v179+1)) < μ2 v169 v174 v179) /\
 ((decide (v179 < (b6.1.length:Int)))=false ->
 VC42_J2 I1 μ1 v108 v113 v169 v174))) /\
 ((decide (v113 < (h_.ae.length:Int)))=false ->
 VC42_J1 Q v108)
def VC91_J1 (Q:((List aa))->Prop) (v101:List aa):Prop :=
 Q v101
def VC91 (n_:Int) (Q:(List aa)->Prop):Prop :=
 ((decide (n_ < 0))=true ->
 False) /\
 ((decide (n_ < 0))=false ->
 ((decide ((IntKind.i64.wrap (n_ - (IntKind.i64.wrap (0 - 0)))) > 0))=true ->
 ((0:Int)≤0/\0≤(([]:List aa).length:Int)) /\
 ((0:Int) < (IntKind.i64.wrap (n_ - (IntKind.i64.wrap (0 - 0))))/\(IntKind.i64.wrap (n_ - (IntKind.i64.wrap (0 - 0))))≤1099511627776) /\
 ((0:Int)≤0/\0≤((List.replicate (IntKind.i64.wrap (n_ - (IntKind.i64.wrap (0 - 0)))).toNat (⟨0,0⟩:aa)).length:Int)) /\
 VC91_J1 Q ((List.replicate (IntKind.i64.wrap (n_ - (IntKind.i64.wrap (0 - 0)))).toNat (⟨0,0⟩:aa)).take (0:Int).toNat)) /\
 ((decide ((IntKind.i64.wrap (n_ - (IntKind.i64.wrap (0 - 0)))) > 0))=false ->
 VC91_J1 Q []))
def VC73_J2 (Q:((List aa))->Prop) (v110:List aa):Prop :=
 Q v110
def VC73_J1 (bR:List (List aa)) (Q:((List aa))->Prop) (v102:Int):Prop :=
 (xi v102) /\
 ∀ f5,cj v102=f5 ->
 sm f5 ->
 ∃ (I1:(List aa)->Int->Prop) (μ1:(List aa)->Int->Nat),I1 f5 0/\∀ (v116:List aa) (v121:Int),I1 v116 v121 ->
 ((decide (v121 < (bR.length:Int)))=true ->
 ((0:Int)≤v121/\v121 < (bR.length:Int)) /\
 ∀ (_:sm (gi bR v121)),
 (v116.length+(gi bR v121).length≤1099511627776) /\
 I1 (v116++(gi bR v121)) (IntKind.i64.wrap (v121+1))/\μ1 (v116++(gi bR v121)) (IntKind.i64.wrap (v121+1)) < μ1 v116 v121) /\
 ((decide (v121 < (bR.length:Int)))=false ->
 VC73_J2 Q v116)
def VC73 (bR:List (List aa)) (Q:(List aa)->Prop):Prop :=
 sm bR ->
 ∃ (I2:Int->Int->Prop) (μ2:Int->Int->Nat),I2 0 0/\∀ (v138:Int) (v140:Int),I2 v138 v140 ->
 ((decide (v140 < (bR.length:Int)))=true ->
 ((0:Int)≤v140/\v140 < (bR.length:Int)) /\
 ∀ (_:sm (gi bR v140)),
 ((decide ((IntKind.i64.wrap (v138+((gi bR v140).length:Int))) < 0))=true ->
 False) /\
 ((decide ((IntKind.i64.wrap (v138+((gi bR v140).length:Int))) < 0))=false ->
 I2 (IntKind.i64.wrap (v138+((gi bR v140).length:Int))) (IntKind.i64.wrap (v140+1))/\μ2 (IntKind.i64.wrap (v138+((gi bR v140).length:Int))) (IntKind.i64.wrap (v140+1)) < μ2 v138 v140)) /\
 ((decide (v140 < (bR.length:Int)))=false ->
 VC73_J1 bR Q v138)
def VC43_J2 (Q:((List aa) × (List (Int × Int)))->Prop) (am:(List aa)) (v115:List (Int × Int)):Prop :=
 Q (am,v115)
def VC43_J3 (I1:(List (Int × Int))->Int->Prop) (μ1:(List (Int × Int))->Int->Nat) (v123:List (Int × Int)) (v128:Int) (v131:List (Int × Int)):Prop :=
 I1 v131 (IntKind.i64.wrap (v128+1))/\μ1 v131 (IntKind.i64.wrap (v128+1)) < μ1 v123 v128
def VC43_J4 (I2:(List (Int × Int))->Int->Prop) (μ2:(List (Int × Int))->Int->Nat) (v141:List (Int × Int)) (v147:Int) (v150:List (Int × Int)):Prop :=
 I2 v150 (IntKind.i64.wrap (v147+1))/\μ2 v150 (IntKind.i64.wrap (v147+1)) < μ2 v141 v147
def VC43_J1 (l_:List ab) (Q:((List aa) × (List (Int × Int)))->Prop) (am:(List aa)) (v110:List (Int × Int)):Prop :=
 ∃ (I1:(List (Int × Int))->Int->Prop) (μ1:(List (Int × Int))->Int->Nat),I1 v110 0/\∀ (v123:List (Int × Int)) (v128:Int),I1 v123 v128 ->
 ((decide (v128 < (am.length:Int)))=true ->
 ((0:Int)≤v128/\v128 < (am.length:Int)) /\
 ∃ (I2:(List (Int × Int))->Int->Prop) (μ2:(List (Int × Int))->Int->Nat),I2 v123 0/\∀ (v141:List (Int × Int)) (v147:Int),I2 v141 v147 ->
 ((decide (v147 < (am.length:Int)))=true ->
 ((0:Int)≤v147/\v147 < (am.length:Int)) /\
 ((0:Int)≤((gi am v128).Oper)/\((gi am v128).Oper) < (l_.length:Int)) /\
 ((0:Int)≤((gi am v147).Oper)/\((gi am v147).Oper) < (l_.length:Int)) /\
 ∀ tZ,bh (gi l_ ((gi am v128).Oper)) (gi l_ ((gi am v147).Oper))=tZ ->
 (tZ=true ->
 (v141.length+[(v128,v147)].length≤1099511627776) /\
 VC43_J4 I2 μ2 v141 v147 (v141++[(v128,v147)])) /\
 (tZ=false ->
 VC43_J4 I2 μ2 v141 v147 v141)) /\
 ((decide (v147 < (am.length:Int)))=false ->
 VC43_J3 I1 μ1 v123 v128 v141)) /\
 ((decide (v128 < (am.length:Int)))=false ->
 VC43_J2 Q am v123)
def VC43_J5 (rows:List (List aa)) (I3:(List (Int × Int))->Int->Int->Prop) (μ3:(List (Int × Int))->Int->Int->Nat) (v196:List (Int × Int)) (v200:Int) (v202:Int) (v211:List (Int × Int)):Prop :=
 I3 v211 (IntKind.i64.wrap (v200+((gi rows v202).length:Int))) (IntKind.i64.wrap (v202+1))/\μ3 v211 (IntKind.i64.wrap (v200+((gi rows v202).length:Int))) (IntKind.i64.wrap (v202+1)) < μ3 v196 v200 v202
def VC43 (l_:List ab) (rows:List (List aa)) (Q:(List aa) × (List (Int × Int))->Prop):Prop :=
 sm l_ ->
 ∀ (_:sm rows),
 (ru rows) /\
 ∀ am,b8 rows=am ->
 sm am ->
 ∃ (I3:(List (Int × Int))->Int->Int->Prop) (μ3:(List (Int × Int))->Int->Int->Nat),I3 [] 0 0/\∀ (v196:List (Int × Int)) (v200:Int) (v202:Int),I3 v196 v200 v202 ->
 ((decide (v202 < (rows.length:Int)))=true ->
 ((0:Int)≤v202/\v202 < (rows.length:Int)) /\
 ∀ (_:sm (gi rows v202)),
 ∃ (I4:(List (Int × Int))->Int->Prop) (μ4:(List (Int × Int))->Int->Nat),I4 v196 1/\∀ (v219:List (Int × Int)) (v224:Int),I4 v219 v224 ->
 ((decide (v224 < ((gi rows v202).length:Int)))=true ->
 (v219.length+[(IntKind.i64.wrap ((IntKind.i64.wrap (v200+v224)) - 1),IntKind.i64.wrap (v200+v224))].length≤1099511627776) /\
 I4 (v219++[(IntKind.i64.wrap ((IntKind.i64.wrap (v200+v224)) - 1),IntKind.i64.wrap (v200+v224))]) (IntKind.i64.wrap (v224+1))/\μ4 (v219++[(IntKind.i64.wrap ((IntKind.i64.wrap (v200+v224)) - 1),IntKind.i64.wrap (v200+v224))]) (IntKind.i64.wrap (v224+1)) < μ4 v219 v224) /\
 ((decide (v224 < ((gi rows v202).length:Int)))=false ->
 VC43_J5 rows I3 μ3 v196 v200 v202 v219)) /\
 ((decide (v202 < (rows.length:Int)))=false ->
 VC43_J1 l_ Q am v196)
def VC15_J1 (Q:((List aa) × Int)->Prop) (v139:List aa):Prop :=
 Q (v139,0)
def VC15 (h_:ak) (Q:(List aa) × Int->Prop):Prop :=
 sm h_.ae ->
 ∀ (_:sm h_.ao),
 (fQ h_) /\
 ∀ am,cd h_=am ->
 sm am.1 ->
 ∀ (_:sm am.2.1),
 ((am.2.2 != 0)=true ->
 Q ([],am.2.2)) /\
 ((am.2.2 != 0)=false ->
 (w6 h_ am.1 am.2.1) /\
 ∀ cV,cz h_ am.1 am.2.1=cV ->
 sm cV.1 ->
 ((cV.2 != 0)=true ->
 Q ([],cV.2)) /\
 ((cV.2 != 0)=false ->
 (ue am.1 cV.1) /\
 ∀ d7,b9 am.1 cV.1=d7 ->
 sm d7.1 ->
 ∀ (_:sm d7.2),
 ∀ fM,de (d7.1.length:Int) d7.2=fM ->
 sm fM.1 ->
 ((!fM.2)=true ->
 Q ([],41)) /\
 ((!fM.2)=false ->
 ∃ (I1:(List aa)->Int->Prop) (μ1:(List aa)->Int->Nat),I1 ([]:List aa) 0/\∀ (v146:List aa) (v151:Int),I1 v146 v151 ->
 ((decide (v151 < (fM.1.length:Int)))=true ->
 ((0:Int)≤v151/\v151 < (fM.1.length:Int)) /\
 ((0:Int)≤(gi fM.1 v151)/\(gi fM.1 v151) < (d7.1.length:Int)) /\
 (v146.length+[gi d7.1 (gi fM.1 v151)].length≤1099511627776) /\
 I1 (v146++[gi d7.1 (gi fM.1 v151)]) (IntKind.i64.wrap (v151+1))/\μ1 (v146++[gi d7.1 (gi fM.1 v151)]) (IntKind.i64.wrap (v151+1)) < μ1 v146 v151) /\
 ((decide (v151 < (fM.1.length:Int)))=false ->
 VC15_J1 Q v146))))
def VC9 (h_:ak) (Q:Bool × Int->Prop):Prop :=
 sm h_.ae ->
 ∀ (_:sm h_.ao),
 (fQ h_) /\
 ∀ am,cG h_=am ->
 sm am.1 ->
 ((am.2 == 41)=true ->
 Q (false,0)) /\
 ((am.2 == 41)=false ->
 Q ((am.2 == 0),am.2))
def VC32 (i_:Int) (al:List aa) (ap:List ab) (aL:List Int) (bz:Int) (Q:Bool->Prop):Prop :=
 sm al ->
 ∀ (_:sm ap),
 sm aL ->
 ((0:Int)≤i_/\i_ < (al.length:Int)) /\
 (((decide (((gi al i_).Oper) < 0)) || (decide (((gi al i_).Oper)≥(ap.length:Int))))=true ->
 Q true) /\
 (((decide (((gi al i_).Oper) < 0)) || (decide (((gi al i_).Oper)≥(ap.length:Int))))=false ->
 ((0:Int)≤((gi al i_).Oper)/\((gi al i_).Oper) < (aL.length:Int)) /\
 Q ((gi aL ((gi al i_).Oper)) == bz))
def VC31_32_J1 (Q:((List aa))->Prop) (v101:List aa):Prop :=
 Q v101
def VC31_32_J2 (I1:(List aa)->Int->Prop) (μ1:(List aa)->Int->Nat) (v110:List aa) (v115:Int) (v119:List aa):Prop :=
 I1 v119 (IntKind.i64.wrap (v115+1))/\μ1 v119 (IntKind.i64.wrap (v115+1)) < μ1 v110 v115
def VC31_32 (l_:List aa) (al:List aa) (ap:List ab) (aL:List Int) (bz:Int) (Q:(List aa)->Prop):Prop :=
 sm l_ ->
 ∀ (_:sm al),
 sm ap ->
 ∀ (_:sm aL),
 ∃ (I1:(List aa)->Int->Prop) (μ1:(List aa)->Int->Nat),I1 [] 0/\∀ (v110:List aa) (v115:Int),I1 v110 v115 ->
 ((decide (v115 < (l_.length:Int)))=true ->
 ((0:Int)≤v115/\v115 < (l_.length:Int)) /\
 (xg v115 al ap aL bz) /\
 ∀ fP,dD v115 al ap aL bz=fP ->
 (fP=true ->
 (v110.length+[(gi l_ v115)].length≤1099511627776) /\
 VC31_32_J2 I1 μ1 v110 v115 (v110++[(gi l_ v115)])) /\
 (fP=false ->
 VC31_32_J2 I1 μ1 v110 v115 v110)) /\
 ((decide (v115 < (l_.length:Int)))=false ->
 VC31_32_J1 Q v110)
def VC12_J1 (ac:List aa) (Q:Bool->Prop) (aZ:(List ab) × (List Int)):Prop :=
 ∀ jy,cH aZ.1 ac=jy ->
 ((decide (jy < 0))=true ->
 (pU aZ.1 ac) /\
 ∀ dA,bZ aZ.1 ac=dA ->
 sm dA ->
 Q ((dA.length:Int) == 0)) /\
 ((decide (jy < 0))=false ->
 Q false)
def VC12 (h_:ak) (ac:List aa) (Q:Bool->Prop):Prop :=
 sm h_.ae ->
 ∀ (_:sm h_.ao),
 sm ac ->
 (fQ h_) /\
 ∀ am,aB h_=am ->
 ((am.2 != 0)=true ->
 Q false) /\
 ((am.2 != 0)=false ->
 (fQ h_) /\
 ∀ aZ,cA h_=aZ ->
 sm aZ.1 ->
 ∀ (_:sm aZ.2),
 ∃ (I1:Int->Prop) (μ1:Int->Nat),I1 0/\∀ (v129:Int),I1 v129 ->
 ((decide (v129 < (h_.ae.length:Int)))=true ->
 ((0:Int)≤v129/\v129 < (h_.ae.length:Int)) /\
 ∀ (_:sm ((gi h_.ae v129).Rows)),
 (xf ac ac aZ.1 aZ.2 v129) /\
 ∀ b6,bL ac ac aZ.1 aZ.2 v129=b6 ->
 sm b6 ->
 (kE (gi h_.ae v129) aZ.1 b6) /\
 ∀ t7,cC (gi h_.ae v129) aZ.1 b6=t7 ->
 ((t7.2.2 != 0)=true ->
 Q false) /\
 ((t7.2.2 != 0)=false ->
 I1 (IntKind.i64.wrap (v129+1))/\μ1 (IntKind.i64.wrap (v129+1)) < μ1 v129)) /\
 ((decide (v129 < (h_.ae.length:Int)))=false ->
 VC12_J1 ac Q aZ))
def VC40_J2 (Q:((List aa) × Bool)->Prop) (v109:List aa):Prop :=
 Q (v109,true)
def VC40_J1 (objects:List ah) (ops:List ab) (of:List Int) (order:List Int) (Q:((List aa) × Bool)->Prop) (v105:List Int):Prop :=
 ∃ (I1:(List Int)->(List aa)->Int->Prop) (μ1:(List Int)->(List aa)->Int->Nat),I1 v105 [] 0/\∀ (v119:List Int) (v123:List aa) (v127:Int),I1 v119 v123 v127 ->
 ((decide (v127 < (order.length:Int)))=true ->
 ((0:Int)≤v127/\v127 < (order.length:Int)) /\
 ((0:Int)≤(gi order v127)/\(gi order v127) < (of.length:Int)) /\
 ((0:Int)≤(gi of (gi order v127))/\(gi of (gi order v127)) < (objects.length:Int)) /\
 ∀ (_:sm ((gi objects (gi of (gi order v127))).Rows)),
 ((0:Int)≤v127/\v127 < (order.length:Int)) /\
 ((0:Int)≤(gi order v127)/\(gi order v127) < (ops.length:Int)) /\
 ((0:Int)≤(gi of (gi order v127))/\(gi of (gi order v127)) < (v119.length:Int)) /\
 ∀ iR,bq (gi objects (gi of (gi order v127))) (gi v119 (gi of (gi order v127))) ((gi ops (gi order v127)).Kind)=iR ->
 ((!iR.2.2)=true ->
 Q ([],false)) /\
 ((!iR.2.2)=false ->
 ((0:Int)≤(gi of (gi order v127))/\(gi of (gi order v127)) < (v119.length:Int)) /\
 ((0:Int)≤v127/\v127 < (order.length:Int)) /\
 (v123.length+[(⟨gi order v127,iR.2.1⟩:aa)].length≤1099511627776) /\
 I1 (v119.set (gi of (gi order v127)).toNat iR.1) (v123++[(⟨gi order v127,iR.2.1⟩:aa)]) (IntKind.i64.wrap (v127+1))/\μ1 (v119.set (gi of (gi order v127)).toNat iR.1) (v123++[(⟨gi order v127,iR.2.1⟩:aa)]) (IntKind.i64.wrap (v127+1)) < μ1 v119 v123 v127)) /\
 ((decide (v127 < (order.length:Int)))=false ->
 VC40_J2 Q v123)
def VC40 (objects:List ah) (ops:List ab) (of:List Int) (order:List Int) (Q:(List aa) × Bool->Prop):Prop :=
 sm objects ->
 ∀ (_:sm ops),
 sm of ->
 ∀ (_:sm order),
 ∃ (I2:(List Int)->Int->Prop) (μ2:(List Int)->Int->Nat),I2 [] 0/\∀ (v185:List Int) (v189:Int),I2 v185 v189 ->
 ((decide (v189 < (objects.length:Int)))=true ->
 ((0:Int)≤v189/\v189 < (objects.length:Int)) /\
 (v185.length+[(gi objects v189).aE].length≤1099511627776) /\
 I2 (v185++[(gi objects v189).aE]) (IntKind.i64.wrap (v189+1))/\μ2 (v185++[(gi objects v189).aE]) (IntKind.i64.wrap (v189+1)) < μ2 v185 v189) /\
 ((decide (v189 < (objects.length:Int)))=false ->
 VC40_J1 objects ops of order Q v185)
def VC13_J2 (ac:List aa) (Q:Bool->Prop) (aZ:(List ab) × (List Int)):Prop :=
 ∀ dA,ep aZ.1 ac=dA ->
 ((decide (dA < 0))=true ->
 (rp aZ.1 ac false) /\
 ∀ bI,eF aZ.1 ac false=bI ->
 sm bI ->
 Q ((bI.length:Int) == 0)) /\
 ((decide (dA < 0))=false ->
 Q false)
def VC13_J3 (objects:List ah) (Q:Bool->Prop) (aZ:(List ab) × (List Int)) (I1:Int->Prop) (μ1:Int->Nat) (v136:Int) (v141:List aa):Prop :=
 ((0:Int)≤v136/\v136 < (objects.length:Int)) /\
 ∀ (_:sm ((gi objects v136).Rows)),
 ((0:Int)≤v136/\v136 < (objects.length:Int)) /\
 ∀ t6,cN (gi objects v136) aZ.1 ((gi objects v136).aE) v141=t6 ->
 ((t6.2.2 != 0)=true ->
 Q false) /\
 ((t6.2.2 != 0)=false ->
 I1 (IntKind.i64.wrap (v136+1))/\μ1 (IntKind.i64.wrap (v136+1)) < μ1 v136)
def VC13_J4 (I2:(List aa)->Int->Prop) (μ2:(List aa)->Int->Nat) (v166:List aa) (v170:Int) (v175:List aa):Prop :=
 I2 v175 (IntKind.i64.wrap (v170+1))/\μ2 v175 (IntKind.i64.wrap (v170+1)) < μ2 v166 v170
def VC13_J1 (objects:List ah) (ac:List aa) (Q:Bool->Prop) (aZ:(List ab) × (List Int)):Prop :=
 ∃ (I1:Int->Prop) (μ1:Int->Nat),I1 0/\∀ (v136:Int),I1 v136 ->
 ((decide (v136 < (objects.length:Int)))=true ->
 ∃ (I2:(List aa)->Int->Prop) (μ2:(List aa)->Int->Nat),I2 [] 0/\∀ (v166:List aa) (v170:Int),I2 v166 v170 ->
 ((decide (v170 < (ac.length:Int)))=true ->
 ((0:Int)≤v170/\v170 < (ac.length:Int)) /\
 ((0:Int)≤((gi ac v170).Oper)/\((gi ac v170).Oper) < (aZ.2.length:Int)) /\
 (((gi aZ.2 ((gi ac v170).Oper)) == v136)=true ->
 ((0:Int)≤v170/\v170 < (ac.length:Int)) /\
 (v166.length+[gi ac v170].length≤1099511627776) /\
 VC13_J4 I2 μ2 v166 v170 (v166++[gi ac v170])) /\
 (((gi aZ.2 ((gi ac v170).Oper)) == v136)=false ->
 VC13_J4 I2 μ2 v166 v170 v166)) /\
 ((decide (v170 < (ac.length:Int)))=false ->
 VC13_J3 objects Q aZ I1 μ1 v136 v166)) /\
 ((decide (v136 < (objects.length:Int)))=false ->
 VC13_J2 ac Q aZ)
def VC13_J5 (Q:Bool->Prop) (I3:Int->Prop) (μ3:Int->Nat) (v213:Int) (v218:Bool):Prop :=
 (v218=true ->
 Q false) /\
 (v218=false ->
 I3 (IntKind.i64.wrap (v213+1))/\μ3 (IntKind.i64.wrap (v213+1)) < μ3 v213)
def VC13 (objects:List ah) (l_:List aD) (ac:List aa) (Q:Bool->Prop):Prop :=
 sm objects ->
 ∀ (_:sm l_),
 sm ac ->
 (km objects l_) /\
 ∀ am,dz objects l_=am ->
 ((am.2 != 0)=true ->
 Q false) /\
 ((am.2 != 0)=false ->
 (km objects l_) /\
 ∀ aZ,bb objects l_=aZ ->
 sm aZ.1 ->
 ∀ (_:sm aZ.2),
 ∃ (I3:Int->Prop) (μ3:Int->Nat),I3 0/\∀ (v213:Int),I3 v213 ->
 ((decide (v213 < (ac.length:Int)))=true ->
 ((0:Int)≤v213/\v213 < (ac.length:Int)) /\
 ((decide (((gi ac v213).Oper) < 0))=true ->
 VC13_J5 Q I3 μ3 v213 true) /\
 ((decide (((gi ac v213).Oper) < 0))=false ->
 ((0:Int)≤v213/\v213 < (ac.length:Int)) /\
 VC13_J5 Q I3 μ3 v213 (decide (((gi ac v213).Oper)≥(aZ.1.length:Int))))) /\
 ((decide (v213 < (ac.length:Int)))=false ->
 VC13_J1 objects ac Q aZ))
def VC14_J1 (Q:Bool->Prop):Prop :=
 Q false
def VC14_J2 (Q:Bool->Prop) (I1:Int->Prop) (μ1:Int->Nat) (v123:Int) (v142:Bool):Prop :=
 (v142=true ->
 Q true) /\
 (v142=false ->
 I1 (IntKind.i64.wrap (v123+1))/\μ1 (IntKind.i64.wrap (v123+1)) < μ1 v123)
def VC14 (objects:List ah) (l_:List aD) (Q:Bool->Prop):Prop :=
 sm objects ->
 ∀ (_:sm l_),
 (km objects l_) /\
 ∀ am,bb objects l_=am ->
 sm am.1 ->
 ∀ (_:sm am.2),
 (w8 (am.1.length:Int)) /\
 ∀ cV,c7 (am.1.length:Int)=cV ->
 sm cV ->
 ∃ (I1:Int->Prop) (μ1:Int->Nat),I1 0/\∀ (v123:Int),I1 v123 ->
 ((decide (v123 < (cV.length:Int)))=true ->
 ((0:Int)≤v123/\v123 < (cV.length:Int)) /\
 ∀ (_:sm (gi cV v123)),
 (uc objects am.1 am.2 (gi cV v123)) /\
 ∀ fP,c9 objects am.1 am.2 (gi cV v123)=fP ->
 sm fP.1 ->
 (fP.2=true ->
 (wZ objects l_ fP.1) /\
 ∀ yD,dW objects l_ fP.1=yD ->
 VC14_J2 Q I1 μ1 v123 yD) /\
 (fP.2=false ->
 VC14_J2 Q I1 μ1 v123 false)) /\
 ((decide (v123 < (cV.length:Int)))=false ->
 VC14_J1 Q)
def VC27 (Q:ah->Prop):Prop :=
 Q (⟨2,2,0,[(⟨0,0,1,0⟩:a8),(⟨0,1,0,0⟩:a8),(⟨1,0,1,0⟩:a8),(⟨1,1,1,1⟩:a8)]⟩:ah)
def VC22 (object:Int) (Q:ak->Prop):Prop :=
 ∀ am,dr=am ->
 sm am.Rows ->
 ∀ cZ,dr=cZ ->
 sm cZ.Rows ->
 Q (⟨[am,cZ],[(⟨0,(⟨1,1,0⟩:av)⟩:ba),(⟨object,(⟨1,2,1⟩:av)⟩:ba),(⟨0,(⟨2,1,0⟩:av)⟩:ba),(⟨object,(⟨2,2,1⟩:av)⟩:ba)]⟩:ak)
def VC11_J1 (Q:((List aD))->Prop) (v101:List aD):Prop :=
 Q v101
def VC11 (h_:ak) (Q:(List aD)->Prop):Prop :=
 sm h_.ae ->
 ∀ (_:sm h_.ao),
 ∃ (I1:(List aD)->Int->Prop) (μ1:(List aD)->Int->Nat),I1 [] 0/\∀ (v107:List aD) (v111:Int),I1 v107 v111 ->
 ((decide (v111 < (h_.ao.length:Int)))=true ->
 ((0:Int)≤v111/\v111 < (h_.ao.length:Int)) /\
 ((0:Int)≤v111/\v111 < (h_.ao.length:Int)) /\
 (v107.length+[(⟨(gi h_.ao v111).ax,((gi h_.ao v111).aS)⟩:aD)].length≤1099511627776) /\
 I1 (v107++[(⟨(gi h_.ao v111).ax,((gi h_.ao v111).aS)⟩:aD)]) (IntKind.i64.wrap (v111+1))/\μ1 (v107++[(⟨(gi h_.ao v111).ax,((gi h_.ao v111).aS)⟩:aD)]) (IntKind.i64.wrap (v111+1)) < μ1 v107 v111) /\
 ((decide (v111 < (h_.ao.length:Int)))=false ->
 VC11_J1 Q v107)
def VC7_J1 (Q:Int->Prop) (v101:Int):Prop :=
 Q v101
def VC7_J2 (I1:Int->Int->Prop) (μ1:Int->Int->Nat) (v102:Int) (v103:Int) (v106:Int):Prop :=
 I1 v106 (IntKind.i64.wrap (v103+1))/\μ1 v106 (IntKind.i64.wrap (v103+1)) < μ1 v102 v103
def VC7 (h_:ak) (Q:Int->Prop):Prop :=
 sm h_.ae ->
 ∀ (_:sm h_.ao),
 ∃ (I1:Int->Int->Prop) (μ1:Int->Int->Nat),I1 0 0/\∀ (v102:Int) (v103:Int),I1 v102 v103 ->
 ((decide (v103 < (h_.ao.length:Int)))=true ->
 ((0:Int)≤v103/\v103 < (h_.ao.length:Int)) /\
 (((((gi h_.ao v103).aS).bk) == 1)=true ->
 VC7_J2 I1 μ1 v102 v103 (IntKind.i64.wrap (v102+1))) /\
 (((((gi h_.ao v103).aS).bk) == 1)=false ->
 VC7_J2 I1 μ1 v102 v103 v102)) /\
 ((decide (v103 < (h_.ao.length:Int)))=false ->
 VC7_J1 Q v102)
def VC6_J1 (Q:Bool->Prop):Prop :=
 Q true
def VC6 (h_:ak) (Q:Bool->Prop):Prop :=
 sm h_.ae ->
 ∀ (_:sm h_.ao),
 (((decide ((h_.ae.length:Int) > 10)) || (decide ((h_.ao.length:Int) > 20)))=true ->
 Q false) /\
 (((decide ((h_.ae.length:Int) > 10)) || (decide ((h_.ao.length:Int) > 20)))=false ->
 ∃ (I1:Int->Prop) (μ1:Int->Nat),I1 0/\∀ (v101:Int),I1 v101 ->
 ((decide (v101 < (h_.ae.length:Int)))=true ->
 ((0:Int)≤v101/\v101 < (h_.ae.length:Int)) /\
 ∀ (_:sm ((gi h_.ae v101).Rows)),
 ∀ fB,gI (gi h_.ae v101)=fB ->
 ((!fB)=true ->
 Q false) /\
 ((!fB)=false ->
 I1 (IntKind.i64.wrap (v101+1))/\μ1 (IntKind.i64.wrap (v101+1)) < μ1 v101)) /\
 ((decide (v101 < (h_.ae.length:Int)))=false ->
 VC6_J1 Q))
def VC8 (Q:Bool->Prop):Prop :=
 ∀ am,cv 0=am ->
 sm am.ae ->
 ∀ (_:sm am.ao),
 (fQ am) /\
 ∀ cV,dv am=cV ->
 ∀ kV,cv 1=kV ->
 sm kV.ae ->
 ∀ (_:sm kV.ao),
 (fQ kV) /\
 ∀ bI,dv kV=bI ->
 ∀ gc,cv 0=gc ->
 sm gc.ae ->
 ∀ (_:sm gc.ao),
 (fQ gc) /\
 ∀ b6,cG gc=b6 ->
 sm b6.1 ->
 ∀ sx,cv 1=sx ->
 sm sx.ae ->
 ∀ (_:sm sx.ao),
 (fQ sx) /\
 ∀ hX,cG sx=hX ->
 sm hX.1 ->
 ∀ sw,cv 0=sw ->
 sm sw.ae ->
 ∀ (_:sm sw.ao),
 (fQ sw) /\
 ∀ d8,aB sw=d8 ->
 (fQ (⟨[],[]⟩:ak)) /\
 ∀ iQ,aB (⟨[],[]⟩:ak)=iQ ->
 ∀ gn,cv 0=gn ->
 sm gn.ae ->
 ∀ (_:sm gn.ao),
 ((0:Int)≤3/\3 < (gn.ao.length:Int)) /\
 (fQ (⟨gn.ae,(gn.ao.set (3:Int).toNat (⟨1,(gi gn.ao 3).aS⟩:ba))⟩:ak)) /\
 ∀ fA,aB (⟨gn.ae,(gn.ao.set (3:Int).toNat (⟨1,(gi gn.ao 3).aS⟩:ba))⟩:ak)=fA ->
 ∀ su,cv 1=su ->
 sm su.ae ->
 ∀ (_:sm su.ao),
 (fQ su) /\
 ∀ fL,cA su=fL ->
 sm fL.1 ->
 ∀ (_:sm fL.2),
 ∀ ss,cv 1=ss ->
 sm ss.ae ->
 ∀ (_:sm ss.ao),
 (xh ss 1) /\
 ∀ da,eB ss 1=da ->
 sm da.ax.Rows ->
 ∀ (_:sm da.ao),
 (((((cV.1 && (cV.2 == 0)) && (!bI.1)) && (bI.2 == 0)) && (b6.2 == 0))=true ->
 ∀ pT,cv 0=pT ->
 sm pT.ae ->
 ∀ (_:sm pT.ao),
 (ub pT b6.1) /\
 ∀ jm,fS pT b6.1=jm ->
 (((((((((jm && ((b6.1.length:Int) == 2)) && (hX.2 == 41)) && (d8.1 == 4)) && (d8.2 == 0)) && (iQ.2 == 2)) && (fA.1 == 3)) && (fA.2 == 32)) && ((fL.1.length:Int) == 2))=true ->
 ∀ qU,eK fL.2 [0,1]=qU ->
 ((qU && ((da.ao.length:Int) == 2))=true ->
 ∀ pS,dr=pS ->
 sm pS.Rows ->
 ∀ tY,iC da.ax pS=tY ->
 (tY=true ->
 ∀ pQ,cv 0=pQ ->
 sm pQ.ae ->
 ∀ (_:sm pQ.ao),
 (ub pQ []) /\
 ∀ sr,fS pQ []=sr ->
 Q (!sr)) /\
 (tY=false ->
 Q false)) /\
 ((qU && ((da.ao.length:Int) == 2))=false ->
 Q false)) /\
 (((((((((jm && ((b6.1.length:Int) == 2)) && (hX.2 == 41)) && (d8.1 == 4)) && (d8.2 == 0)) && (iQ.2 == 2)) && (fA.1 == 3)) && (fA.2 == 32)) && ((fL.1.length:Int) == 2))=false ->
 Q false)) /\
 (((((cV.1 && (cV.2 == 0)) && (!bI.1)) && (bI.2 == 0)) && (b6.2 == 0))=false ->
 Q false)
def VC4_J1 (h_:ak) (Q:Bool->Prop) (v101:Bool):Prop :=
 (v101=true ->
 ∀ mH,fk=mH ->
 Q mH) /\
 (v101=false ->
 (fQ (⟨h_.ae,h_.ao⟩:ak)) /\
 ∀ cZ,dv (⟨h_.ae,h_.ao⟩:ak)=cZ ->
 ((cZ.2 != 0)=true ->
 ((!cZ.1)=true ->
 ∀ cJ,fk=cJ ->
 Q cJ) /\
 ((!cZ.1)=false ->
 Q false)) /\
 ((cZ.2 != 0)=false ->
 (lq (⟨h_.ae,h_.ao⟩:ak)) /\
 ∀ d7,eu (⟨h_.ae,h_.ao⟩:ak)=d7 ->
 sm d7 ->
 (pV h_.ae d7) /\
 ∀ bI,fq h_.ae d7=bI ->
 ((cZ.1 == bI)=true ->
 ∀ gc,fk=gc ->
 Q gc) /\
 ((cZ.1 == bI)=false ->
 Q false)))
def VC4 (h_:ak) (Q:Bool->Prop):Prop :=
 sm h_.ae ->
 ∀ (_:sm h_.ao),
 ∀ vT,gH h_=vT ->
 ((!vT)=true ->
 VC4_J1 h_ Q true) /\
 ((!vT)=false ->
 ∀ yE,eT h_=yE ->
 VC4_J1 h_ Q (decide (yE > 5)))
end Go.Proofs.YteahldlmkheleaaGreat
