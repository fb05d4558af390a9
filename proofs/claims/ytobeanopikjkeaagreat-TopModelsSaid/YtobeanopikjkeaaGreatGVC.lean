/- The conditions of the functions, in terms of their callees. Definitions. -/
import Derived.Test.YtobeanopikjkeaaGreatGSpec
set_option linter.all false
namespace Go.Proofs.YtobeanopikjkeaaGreat
open Go Go.Sv
def VC4 (o_:ah) (Q:Bool->Prop):Prop :=
 sm o_.Rows ->
 Q (decide ((o_.Rows.length:Int)≤300))
def VC113 (n_:Int) (top:Int) (Q:Bool->Prop):Prop :=
 Q ((decide (n_≥0)) && (decide (n_ < top)))
def VC208_J1 (Q:Int->Prop):Prop :=
 Q 0
def VC208 (vals:List Int) (Q:Int->Prop):Prop :=
 sm vals ->
 ∃ (I1:Int->Prop) (μ1:Int->Nat),I1 0/\∀ (v102:Int),I1 v102 ->
 ((decide (v102 < (vals.length:Int)))=true ->
 ((0:Int)≤v102/\v102 < (vals.length:Int)) /\
 (((gi vals v102) != 0)=true ->
 Q (gi vals v102)) /\
 (((gi vals v102) != 0)=false ->
 I1 (IntKind.i64.wrap (v102+1))/\μ1 (IntKind.i64.wrap (v102+1)) < μ1 v102)) /\
 ((decide (v102 < (vals.length:Int)))=false ->
 VC208_J1 Q)
def VC268 (x_:Int) (Q:Bool->Prop):Prop :=
 Q (x_ != x_)
def VC209 (x_:Int) (y_:Int) (Q:Int->Prop):Prop :=
 ∀ al,cmp_isNaN_int x_=al ->
 ∀ bu,cmp_isNaN_int y_=bu ->
 (al=true ->
 (bu=true ->
 Q 0) /\
 (bu=false ->
 Q (-1))) /\
 (al=false ->
 (bu=true ->
 Q 1) /\
 (bu=false ->
 ((decide (x_ < y_))=true ->
 Q (-1)) /\
 ((decide (x_ < y_))=false ->
 ((decide (x_ > y_))=true ->
 Q 1) /\
 ((decide (x_ > y_))=false ->
 Q 0))))
def VC155 (a_:cG) (b_:cG) (Q:Int->Prop):Prop :=
 ∀ iz,dh a_.State b_.State=iz ->
 ∀ fS,dh a_.Kind b_.Kind=fS ->
 ∀ jF,gy [iz,fS]=jF ->
 Q jF
def VC114_J2 (Q:Int->Prop) (v114:Bool):Prop :=
 (v114=true ->
 Q 32) /\
 (v114=false ->
 Q 0)
def VC114_J1 (o_:ah) (i_:Int) (Q:Int->Prop) (v104:Bool):Prop :=
 (v104=true ->
 Q 30) /\
 (v104=false ->
 ∀ ga,bH ((gi o_.Rows i_).Kind) o_.aP=ga ->
 ((!ga)=true ->
 Q 31) /\
 ((!ga)=false ->
 ∀ zx,bH ((gi o_.Rows i_).Result) 1000001=zx ->
 ((!zx)=true ->
 Q 7) /\
 ((!zx)=false ->
 ((decide (i_ > 0))=true ->
 ((0:Int)≤(IntKind.i64.wrap (i_ - 1))/\(IntKind.i64.wrap (i_ - 1)) < (o_.Rows.length:Int)) /\
 ∀ bJ,gp (gi o_.Rows (IntKind.i64.wrap (i_ - 1))) (gi o_.Rows i_)=bJ ->
 VC114_J2 Q (decide (bJ≥0))) /\
 ((decide (i_ > 0))=false ->
 VC114_J2 Q false))))
def VC114 (o_:ah) (i_:Int) (Q:Int->Prop):Prop :=
 sm o_.Rows ->
 ((0:Int)≤i_/\i_ < (o_.Rows.length:Int)) /\
 ∀ zu,bH ((gi o_.Rows i_).State) o_.ab=zu ->
 ((!zu)=true ->
 VC114_J1 o_ i_ Q true) /\
 ((!zu)=false ->
 ∀ mJ,bH ((gi o_.Rows i_).Next) o_.ab=mJ ->
 VC114_J1 o_ i_ Q (!mJ))
def VC55_J2 (o_:ah) (Q:(Int × Int)->Prop):Prop :=
 Q ((o_.Rows.length:Int),0)
def VC55_J1 (o_:ah) (Q:(Int × Int)->Prop) (v101:Bool):Prop :=
 (v101=true ->
 Q ((-1),2)) /\
 (v101=false ->
 ∃ (I1:Int->Prop) (μ1:Int->Nat),I1 0/\∀ (v104:Int),I1 v104 ->
 ((decide (v104 < (o_.Rows.length:Int)))=true ->
 (vV o_ v104) /\
 ∀ ga,iA o_ v104=ga ->
 ((ga != 0)=true ->
 Q (v104,ga)) /\
 ((ga != 0)=false ->
 I1 (IntKind.i64.wrap (v104+1))/\μ1 (IntKind.i64.wrap (v104+1)) < μ1 v104)) /\
 ((decide (v104 < (o_.Rows.length:Int)))=false ->
 VC55_J2 o_ Q))
def VC55 (o_:ah) (Q:Int × Int->Prop):Prop :=
 sm o_.Rows ->
 ∀ l9,bH (IntKind.i64.wrap (o_.ab - 1)) 32=l9 ->
 ((!l9)=true ->
 VC55_J1 o_ Q true) /\
 ((!l9)=false ->
 ∀ ib,bH (IntKind.i64.wrap (o_.aP - 1)) 64=ib ->
 ((!ib)=true ->
 VC55_J1 o_ Q true) /\
 ((!ib)=false ->
 ∀ CU,bH o_.aU o_.ab=CU ->
 VC55_J1 o_ Q (!CU)))
def VC87 (r_:cG) (aj:Int) (aX:Int) (Q:Bool->Prop):Prop :=
 Q (r_.State == aj && (r_.Kind == aX && (r_.Next == r_.Next && (r_.Result == r_.Result && true))))
def VC88_87_J1 (Q:Int->Prop):Prop :=
 Q (-1)
def VC88_87 (s_:List cG) (aj:Int) (aX:Int) (Q:Int->Prop):Prop :=
 sm s_ ->
 ∃ (I1:Int->Prop) (μ1:Int->Nat),I1 0/\∀ (v102:Int),I1 v102 ->
 ((decide (v102 < (s_.length:Int)))=true ->
 ((0:Int)≤v102/\v102 < (s_.length:Int)) /\
 ∀ ga,gF (gi s_ v102) aj aX=ga ->
 (ga=true ->
 Q v102) /\
 (ga=false ->
 I1 (IntKind.i64.wrap (v102+1))/\μ1 (IntKind.i64.wrap (v102+1)) < μ1 v102)) /\
 ((decide (v102 < (s_.length:Int)))=false ->
 VC88_87_J1 Q)
def VC38 (o_:ah) (state:Int) (kind:Int) (Q:Int × Int × Bool->Prop):Prop :=
 sm o_.Rows ->
 ∀ al,aV o_.Rows state kind=al ->
 ((decide (al < 0))=true ->
 Q (0,0,false)) /\
 ((decide (al < 0))=false ->
 ((0:Int)≤al/\al < (o_.Rows.length:Int)) /\
 ((0:Int)≤al/\al < (o_.Rows.length:Int)) /\
 Q ((gi o_.Rows al).Next,(gi o_.Rows al).Result,true))
def VC67 (a_:ae) (b_:ae) (Q:Bool->Prop):Prop :=
 Q ((decide (a_.End≥0)) && (decide (a_.End < b_.aN)))
def VC156 (o_:ae) (Q:Bool->Prop):Prop :=
 ((o_.End == (-1))=true ->
 Q (o_.Result == (-1))) /\
 ((o_.End == (-1))=false ->
 Q ((((decide (o_.End > o_.aN)) && (decide (o_.End≤9999))) && (decide (o_.Result≥0))) && (decide (o_.Result≤1000000))))
def VC115 (o_:ae) (Q:Int->Prop):Prop :=
 (((((decide (o_.Prc < 1)) || (decide (o_.Prc > 1000))) || (decide (o_.aN < 0))) || (decide (o_.aN > 9999)))=true ->
 Q 2) /\
 (((((decide (o_.Prc < 1)) || (decide (o_.Prc > 1000))) || (decide (o_.aN < 0))) || (decide (o_.aN > 9999)))=false ->
 (((decide (o_.Kind < 0)) || (decide (o_.Kind≥64)))=true ->
 Q 31) /\
 (((decide (o_.Kind < 0)) || (decide (o_.Kind≥64)))=false ->
 ∀ al,eG o_=al ->
 ((!al)=true ->
 Q 7) /\
 ((!al)=false ->
 Q 0)))
def VC56_J1 (l_:List ae) (Q:(Int × Int)->Prop):Prop :=
 Q ((l_.length:Int),0)
def VC56_J2 (l_:List ae) (I1:(List (Int × Int))->(List (Int × ae))->Int->Prop) (μ1:(List (Int × Int))->(List (Int × ae))->Int->Nat) (v111:List (Int × Int)) (v113:List (Int × ae)) (v116:Int) (v118:List (Int × Int)):Prop :=
 I1 v118 (gb v113 ((gi l_ v116).Prc) (gi l_ v116)) (IntKind.i64.wrap (v116+1))/\μ1 v118 (gb v113 ((gi l_ v116).Prc) (gi l_ v116)) (IntKind.i64.wrap (v116+1)) < μ1 v111 v113 v116
def VC56_J4 (l_:List ae) (Q:(Int × Int)->Prop) (I1:(List (Int × Int))->(List (Int × ae))->Int->Prop) (μ1:(List (Int × Int))->(List (Int × ae))->Int->Nat) (v111:List (Int × Int)) (v113:List (Int × ae)) (v116:Int) (v139:Bool):Prop :=
 (v139=true ->
 Q (v116,33)) /\
 (v139=false ->
 ((decide (((gi l_ v116).End)≥0))=true ->
 VC56_J2 l_ I1 μ1 v111 v113 v116 (gb (gb v111 ((gi l_ v116).aN) (IntKind.i64.wrap (((cd v111 ((gi l_ v116).aN)).getD 0)+1))) ((gi l_ v116).End) (IntKind.i64.wrap (((cd (gb v111 ((gi l_ v116).aN) (IntKind.i64.wrap (((cd v111 ((gi l_ v116).aN)).getD 0)+1))) ((gi l_ v116).End)).getD 0)+1)))) /\
 ((decide (((gi l_ v116).End)≥0))=false ->
 VC56_J2 l_ I1 μ1 v111 v113 v116 (gb v111 ((gi l_ v116).aN) (IntKind.i64.wrap (((cd v111 ((gi l_ v116).aN)).getD 0)+1)))))
def VC56_J3 (l_:List ae) (Q:(Int × Int)->Prop) (I1:(List (Int × Int))->(List (Int × ae))->Int->Prop) (μ1:(List (Int × Int))->(List (Int × ae))->Int->Nat) (v111:List (Int × Int)) (v113:List (Int × ae)) (v116:Int) (v133:Bool):Prop :=
 (v133=true ->
 Q (v116,32)) /\
 (v133=false ->
 (((cd v113 ((gi l_ v116).Prc)).isSome)=true ->
 ∀ fQ,bG ((cd v113 ((gi l_ v116).Prc)).getD (⟨0,0,0,0,0⟩:ae)) (gi l_ v116)=fQ ->
 VC56_J4 l_ Q I1 μ1 v111 v113 v116 (!fQ)) /\
 (((cd v113 ((gi l_ v116).Prc)).isSome)=false ->
 VC56_J4 l_ Q I1 μ1 v111 v113 v116 false))
def VC56 (l_:List ae) (Q:Int × Int->Prop):Prop :=
 sm l_ ->
 ((decide ((l_.length:Int) > 5000))=true ->
 Q (0,3)) /\
 ((decide ((l_.length:Int) > 5000))=false ->
 ∃ (I1:(List (Int × Int))->(List (Int × ae))->Int->Prop) (μ1:(List (Int × Int))->(List (Int × ae))->Int->Nat),I1 ([]:List (Int × Int)) ([]:List (Int × ae)) 0/\∀ (v111:List (Int × Int)) (v113:List (Int × ae)) (v116:Int),I1 v111 v113 v116 ->
 ((decide (v116 < (l_.length:Int)))=true ->
 ((0:Int)≤v116/\v116 < (l_.length:Int)) /\
 ∀ fB,dY (gi l_ v116)=fB ->
 ((fB != 0)=true ->
 Q (v116,fB)) /\
 ((fB != 0)=false ->
 ((decide (v116 > 0))=true ->
 ((0:Int)≤(IntKind.i64.wrap (v116 - 1))/\(IntKind.i64.wrap (v116 - 1)) < (l_.length:Int)) /\
 ((decide (((gi l_ v116).aN)≤((gi l_ (IntKind.i64.wrap (v116 - 1))).aN)))=true ->
 VC56_J3 l_ Q I1 μ1 v111 v113 v116 true) /\
 ((decide (((gi l_ v116).aN)≤((gi l_ (IntKind.i64.wrap (v116 - 1))).aN)))=false ->
 ((decide (((cd v111 ((gi l_ v116).aN)).getD 0) > 0))=true ->
 VC56_J3 l_ Q I1 μ1 v111 v113 v116 true) /\
 ((decide (((cd v111 ((gi l_ v116).aN)).getD 0) > 0))=false ->
 ((decide (((gi l_ v116).End)≥0))=true ->
 VC56_J3 l_ Q I1 μ1 v111 v113 v116 (decide (((cd v111 ((gi l_ v116).End)).getD 0) > 0))) /\
 ((decide (((gi l_ v116).End)≥0))=false ->
 VC56_J3 l_ Q I1 μ1 v111 v113 v116 false)))) /\
 ((decide (v116 > 0))=false ->
 ((decide (((cd v111 ((gi l_ v116).aN)).getD 0) > 0))=true ->
 VC56_J3 l_ Q I1 μ1 v111 v113 v116 true) /\
 ((decide (((cd v111 ((gi l_ v116).aN)).getD 0) > 0))=false ->
 ((decide (((gi l_ v116).End)≥0))=true ->
 VC56_J3 l_ Q I1 μ1 v111 v113 v116 (decide (((cd v111 ((gi l_ v116).End)).getD 0) > 0))) /\
 ((decide (((gi l_ v116).End)≥0))=false ->
 VC56_J3 l_ Q I1 μ1 v111 v113 v116 false))))) /\
 ((decide (v116 < (l_.length:Int)))=false ->
 VC56_J1 l_ Q))
def VC22_J1 (Q:((List (Int × Int)))->Prop) (v101:List (Int × Int)):Prop :=
 Q v101
def VC22_J2 (I1:(List (Int × Int))->Int->Prop) (μ1:(List (Int × Int))->Int->Nat) (v108:List (Int × Int)) (v113:Int) (v115:List (Int × Int)):Prop :=
 I1 v115 (IntKind.i64.wrap (v113+1))/\μ1 v115 (IntKind.i64.wrap (v113+1)) < μ1 v108 v113
def VC22_J3 (I2:(List (Int × Int))->Int->Prop) (μ2:(List (Int × Int))->Int->Nat) (v124:List (Int × Int)) (v130:Int) (v132:List (Int × Int)):Prop :=
 I2 v132 (IntKind.i64.wrap (v130+1))/\μ2 v132 (IntKind.i64.wrap (v130+1)) < μ2 v124 v130
def VC22 (l_:List ae) (Q:(List (Int × Int))->Prop):Prop :=
 sm l_ ->
 ∃ (I1:(List (Int × Int))->Int->Prop) (μ1:(List (Int × Int))->Int->Nat),I1 [] 0/\∀ (v108:List (Int × Int)) (v113:Int),I1 v108 v113 ->
 ((decide (v113 < (l_.length:Int)))=true ->
 ((0:Int)≤v113/\v113 < (l_.length:Int)) /\
 ∃ (I2:(List (Int × Int))->Int->Prop) (μ2:(List (Int × Int))->Int->Nat),I2 v108 0/\∀ (v124:List (Int × Int)) (v130:Int),I2 v124 v130 ->
 ((decide (v130 < (l_.length:Int)))=true ->
 ((0:Int)≤v130/\v130 < (l_.length:Int)) /\
 ∀ qt,bG (gi l_ v113) (gi l_ v130)=qt ->
 (qt=true ->
 (v124.length+[(v113,v130)].length≤1099511627776) /\
 VC22_J3 I2 μ2 v124 v130 (v124++[(v113,v130)])) /\
 (qt=false ->
 VC22_J3 I2 μ2 v124 v130 v124)) /\
 ((decide (v130 < (l_.length:Int)))=false ->
 VC22_J2 I1 μ1 v108 v113 v124)) /\
 ((decide (v113 < (l_.length:Int)))=false ->
 VC22_J1 Q v108)
def VC162_J1 (Q:((List Int))->Prop) (v101:List Int):Prop :=
 Q v101
def VC162_J2 (I1:(List Int)->Int->Prop) (μ1:(List Int)->Int->Nat) (v107:List Int) (v112:Int) (v113:List Int):Prop :=
 I1 v113 (IntKind.i64.wrap (v112+1))/\μ1 v113 (IntKind.i64.wrap (v112+1)) < μ1 v107 v112
def VC162 (l_:List ae) (Q:(List Int)->Prop):Prop :=
 sm l_ ->
 ∃ (I1:(List Int)->Int->Prop) (μ1:(List Int)->Int->Nat),I1 [] 0/\∀ (v107:List Int) (v112:Int),I1 v107 v112 ->
 ((decide (v112 < (l_.length:Int)))=true ->
 ((0:Int)≤v112/\v112 < (l_.length:Int)) /\
 ((((gi l_ v112).End) == (-1))=true ->
 (v107.length+[v112].length≤1099511627776) /\
 VC162_J2 I1 μ1 v107 v112 (v107++[v112])) /\
 ((((gi l_ v112).End) == (-1))=false ->
 VC162_J2 I1 μ1 v107 v112 v107)) /\
 ((decide (v112 < (l_.length:Int)))=false ->
 VC162_J1 Q v107)
def VC59 (s_:aa) (Q:Int->Prop):Prop :=
 (((((decide (s_.Ops < 0)) || (decide (s_.Ops > 64))) || (decide (s_.ab < 1))) || (decide (s_.ab > 32)))=true ->
 Q 2) /\
 (((((decide (s_.Ops < 0)) || (decide (s_.Ops > 64))) || (decide (s_.ab < 1))) || (decide (s_.ab > 32)))=false ->
 Q 0)
def VC73 (s_:aa) (kind:Int) (Q:Int × Int × Int->Prop):Prop :=
 ((kind == 1)=true ->
 Q (0,s_.Ops,s_.Ops)) /\
 ((kind == 1)=false ->
 ((kind == 2)=true ->
 Q (IntKind.i64.wrap (s_.Ops * s_.Ops),1,s_.Ops)) /\
 ((kind == 2)=false ->
 Q (IntKind.i64.wrap ((IntKind.i64.wrap (s_.Ops * s_.Ops))+s_.Ops),s_.ab,IntKind.i64.wrap (s_.Ops+1))))
def VC25 (s_:aa) (Q:Int->Prop):Prop :=
 ∀ al,ao s_=al ->
 ((al != 0)=true ->
 Q 0) /\
 ((al != 0)=false ->
 ∀ bu,bN s_ 3=bu ->
 Q (IntKind.i64.wrap (bu.1+(IntKind.i64.wrap (bu.2.1 * bu.2.2)))))
def VC65 (s_:aa) (n_:aW) (Q:Int->Prop):Prop :=
 ∀ al,ao s_=al ->
 ((((al != 0) || (decide (n_.Kind≤0))) || (decide (n_.Kind > 3)))=true ->
 Q 0) /\
 ((((al != 0) || (decide (n_.Kind≤0))) || (decide (n_.Kind > 3)))=false ->
 ∀ bu,bN s_ n_.Kind=bu ->
 (((((decide (n_.A < 0)) || (decide (n_.A≥bu.2.2))) || (decide (n_.B < 0))) || (decide (n_.B≥bu.2.1)))=true ->
 Q 0) /\
 (((((decide (n_.A < 0)) || (decide (n_.A≥bu.2.2))) || (decide (n_.B < 0))) || (decide (n_.B≥bu.2.1)))=false ->
 Q (IntKind.i64.wrap ((IntKind.i64.wrap ((IntKind.i64.wrap (bu.1+(IntKind.i64.wrap (n_.A * bu.2.1))))+n_.B))+1))))
def VC34 (o_:ah) (l_:List ae) (Q:aa->Prop):Prop :=
 sm o_.Rows ->
 ∀ (_:sm l_),
 (sS o_) /\
 ∀ al,bq o_=al ->
 ∀ bu,bp l_=bu ->
 (((al.2 != 0) || (bu.2 != 0))=true ->
 Q (⟨0,0⟩:aa)) /\
 (((al.2 != 0) || (bu.2 != 0))=false ->
 Q (⟨(l_.length:Int),o_.ab⟩:aa))
def VC210 (n_:Int) (Q:Int->Prop):Prop :=
 Q (IntKind.i64.wrap (((IntKind.i64.wrap (n_ * (IntKind.i64.wrap (n_ - 1))))).tdiv 2))
def VC157 (s_:aa) (Q:Bool->Prop):Prop :=
 ∀ al,ao s_=al ->
 Q (al == 0)
def VC158 (s_:aa) (Q:Int->Prop):Prop :=
 ∀ al,cW s_=al ->
 ((!al)=true ->
 Q 0) /\
 ((!al)=false ->
 ∀ fS,dJ s_.Ops=fS ->
 Q (IntKind.i64.wrap (s_.Ops+(IntKind.i64.wrap ((IntKind.i64.wrap (2 * s_.Ops)) * fS)))))
def VC159 (s_:aa) (n_:Int) (Q:Int->Prop):Prop :=
 ∀ al,cW s_=al ->
 ((((!al) || (decide (n_ < 0))) || (decide (n_ > 2016)))=true ->
 Q 0) /\
 ((((!al) || (decide (n_ < 0))) || (decide (n_ > 2016)))=false ->
 ∀ bu,dJ s_.Ops=bu ->
 Q (IntKind.i64.wrap (n_ * bu)))
def VC160 (s_:aa) (Q:Int->Prop):Prop :=
 ∀ al,cW s_=al ->
 ((!al)=true ->
 Q 0) /\
 ((!al)=false ->
 ∀ fS,dJ s_.ab=fS ->
 Q (IntKind.i64.wrap (1+(IntKind.i64.wrap ((IntKind.i64.wrap (s_.Ops+1)) * (IntKind.i64.wrap (1+fS)))))))
def VC161 (s_:aa) (ended:Int) (Q:Int->Prop):Prop :=
 ∀ al,cW s_=al ->
 ((((!al) || (decide (ended < 0))) || (decide (ended > s_.Ops)))=true ->
 Q 0) /\
 ((((!al) || (decide (ended < 0))) || (decide (ended > s_.Ops)))=false ->
 Q (IntKind.i64.wrap ((IntKind.i64.wrap (ended * (IntKind.i64.wrap (1+(IntKind.i64.wrap (s_.Ops * s_.ab))))))+(IntKind.i64.wrap ((IntKind.i64.wrap ((IntKind.i64.wrap (s_.Ops - ended)) * 2)) * (IntKind.i64.wrap (s_.Ops * s_.ab)))))))
def VC163 (n_:Int) (aj:Int) (Q:Int->Prop):Prop :=
 Q (IntKind.i64.wrap (aj+n_))
def VC116_J2 (Q:Int->Prop) (v482:Int):Prop :=
 Q v482
def VC116_J1 (s_:aa) (l_:List ae) (Q:Int->Prop) (v106:Bool):Prop :=
 (v106=true ->
 Q 0) /\
 (v106=false ->
 ∀ aS,gw s_=aS ->
 (gA l_) /\
 ∀ b9,bS l_=b9 ->
 ∀ bJ,gU s_ (b9.length:Int)=bJ ->
 ∀ cf,gv s_=cf ->
 (gA l_) /\
 ∀ eu,gn l_=eu ->
 ∀ fm,gW s_ (IntKind.i64.wrap (s_.Ops - (eu.length:Int)))=fm ->
 ∃ (I1:Int->Int->Prop) (μ1:Int->Int->Nat),I1 0 0/\∀ (v483:Int) (v484:Int),I1 v483 v484 ->
 ((decide (v483 < 4))=true ->
 ((0:Int)≤v483/\v483 < 4) /\
 ∀ zo,gX (gi ([aS,bJ,cf,fm]:List Int) v483) v484=zo ->
 I1 (IntKind.i64.wrap (v483+1)) zo/\μ1 (IntKind.i64.wrap (v483+1)) zo < μ1 v483 v484) /\
 ((decide (v483 < 4))=false ->
 VC116_J2 Q v484))
def VC116 (s_:aa) (l_:List ae) (Q:Int->Prop):Prop :=
 sm l_ ->
 ∀ al,bp l_=al ->
 ((al.2 != 0)=true ->
 VC116_J1 s_ l_ Q true) /\
 ((al.2 != 0)=false ->
 ∀ CQ,cW s_=CQ ->
 VC116_J1 s_ l_ Q ((!CQ) || ((l_.length:Int) != s_.Ops)))
def VC57_J1 (Q:Int->Prop) (v105:Bool):Prop :=
 (v105=true ->
 Q 3) /\
 (v105=false ->
 Q 0)
def VC57 (s_:aa) (l_:List ae) (Q:Int->Prop):Prop :=
 sm l_ ->
 ∀ al,fX s_ l_=al ->
 ((al == 0)=true ->
 Q 2) /\
 ((al == 0)=false ->
 ((decide (al > 500000))=true ->
 VC57_J1 Q true) /\
 ((decide (al > 500000))=false ->
 ∀ ga,aw s_=ga ->
 VC57_J1 Q (decide (ga > 900))))
def VC18 (o_:ah) (l_:List ae) (Q:aa × Int->Prop):Prop :=
 sm o_.Rows ->
 ∀ (_:sm l_),
 (sS o_) /\
 ∀ al,bq o_=al ->
 ∀ bu,bp l_=bu ->
 (((al.2 != 0) || (bu.2 != 0))=true ->
 Q ((⟨0,0⟩:aa),2)) /\
 (((al.2 != 0) || (bu.2 != 0))=false ->
 ((decide ((l_.length:Int) > 64))=true ->
 Q ((⟨0,0⟩:aa),3)) /\
 ((decide ((l_.length:Int) > 64))=false ->
 (jG o_ l_) /\
 ∀ b9,au o_ l_=b9 ->
 ∀ sQ,fu b9 l_=sQ ->
 Q (b9,sQ)))
def VC32 (o_:ah) (l_:List ae) (Q:Int->Prop):Prop :=
 sm o_.Rows ->
 ∀ (_:sm l_),
 (sS o_) /\
 ∀ al,bq o_=al ->
 ∀ bu,bp l_=bu ->
 (((al.2 != 0) || (bu.2 != 0))=true ->
 Q 2) /\
 (((al.2 != 0) || (bu.2 != 0))=false ->
 ((decide ((l_.length:Int) > 64))=true ->
 Q 3) /\
 ((decide ((l_.length:Int) > 64))=false ->
 (jG o_ l_) /\
 ∀ aS,au o_ l_=aS ->
 ∀ b9,fu aS l_=b9 ->
 Q b9))
def VC39 (s_:aa) (i_:Int) (Q:Int->Prop):Prop :=
 ∀ al,bd s_ (⟨2,i_,0⟩:aW)=al ->
 Q al
def VC61 (k_:Int) (aj:Int) (Q:aW->Prop):Prop :=
 Q (⟨1,aj,k_⟩:aW)
def VC60_61_J1 (Q:((List Int))->Prop) (v105:List Int):Prop :=
 Q v105
def VC60_61 (s_:aa) (aj:Int) (Q:(List Int)->Prop):Prop :=
 ((0:Int)≤s_.Ops/\s_.Ops≤s_.Ops/\s_.Ops≤1099511627776) /\
 ∃ (I1:(List Int)->Int->Prop) (μ1:(List Int)->Int->Nat),I1 (List.replicate s_.Ops.toNat (0:Int)) 0/\∀ (v111:List Int) (v115:Int),I1 v111 v115 ->
 ((decide (v115 < ((List.replicate s_.Ops.toNat (0:Int)).length:Int)))=true ->
 ∀ ib,dQ v115 aj=ib ->
 ∀ gm,bd s_ ib=gm ->
 ((0:Int)≤v115/\v115 < (v111.length:Int)) /\
 I1 (v111.set v115.toNat gm) (IntKind.i64.wrap (v115+1))/\μ1 (v111.set v115.toNat gm) (IntKind.i64.wrap (v115+1)) < μ1 v111 v115) /\
 ((decide (v115 < ((List.replicate s_.Ops.toNat (0:Int)).length:Int)))=false ->
 VC60_61_J1 Q v111)
def VC63 (a_:Int) (aj:Int) (Q:aW->Prop):Prop :=
 Q (⟨1,a_,aj⟩:aW)
def VC60_63_J1 (Q:((List Int))->Prop) (v105:List Int):Prop :=
 Q v105
def VC60_63 (s_:aa) (aj:Int) (Q:(List Int)->Prop):Prop :=
 ((0:Int)≤s_.Ops/\s_.Ops≤s_.Ops/\s_.Ops≤1099511627776) /\
 ∃ (I1:(List Int)->Int->Prop) (μ1:(List Int)->Int->Nat),I1 (List.replicate s_.Ops.toNat (0:Int)) 0/\∀ (v111:List Int) (v115:Int),I1 v111 v115 ->
 ((decide (v115 < ((List.replicate s_.Ops.toNat (0:Int)).length:Int)))=true ->
 ∀ ib,dP v115 aj=ib ->
 ∀ gm,bd s_ ib=gm ->
 ((0:Int)≤v115/\v115 < (v111.length:Int)) /\
 I1 (v111.set v115.toNat gm) (IntKind.i64.wrap (v115+1))/\μ1 (v111.set v115.toNat gm) (IntKind.i64.wrap (v115+1)) < μ1 v111 v115) /\
 ((decide (v115 < ((List.replicate s_.Ops.toNat (0:Int)).length:Int)))=false ->
 VC60_63_J1 Q v111)
def VC62_J1 (Q:((List (List Int)))->Prop) (v101:List (List Int)):Prop :=
 Q v101
def VC62_J2 (I1:(List (List Int))->Int->Prop) (μ1:(List (List Int))->Int->Nat) (v108:List (List Int)) (v113:Int) (v115:List (List Int)):Prop :=
 I1 v115 (IntKind.i64.wrap (v113+1))/\μ1 v115 (IntKind.i64.wrap (v113+1)) < μ1 v108 v113
def VC62 (vars:List Int) (Q:(List (List Int))->Prop):Prop :=
 sm vars ->
 ∃ (I1:(List (List Int))->Int->Prop) (μ1:(List (List Int))->Int->Nat),I1 [] 0/\∀ (v108:List (List Int)) (v113:Int),I1 v108 v113 ->
 ((decide (v113 < (vars.length:Int)))=true ->
 ((0:Int)≤v113/\v113 < (vars.length:Int)) /\
 ((0:Int)≤(IntKind.i64.wrap (v113+1))/\(IntKind.i64.wrap (v113+1))≤(vars.length:Int)) /\
 ∃ (I2:(List (List Int))->Int->Prop) (μ2:(List (List Int))->Int->Nat),I2 v108 0/\∀ (v127:List (List Int)) (v133:Int),I2 v127 v133 ->
 ((decide (v133 < (((vars.drop (IntKind.i64.wrap (v113+1)).toNat).length:Nat):Int)))=true ->
 ((0:Int)≤v133/\v133 < ((vars.drop (IntKind.i64.wrap (v113+1)).toNat).length:Int)) /\
 (v127.length+[[IntKind.i64.wrap (0 - (gi vars v113)),IntKind.i64.wrap (0 - (gi (vars.drop (IntKind.i64.wrap (v113+1)).toNat) v133))]].length≤1099511627776) /\
 I2 (v127++[[IntKind.i64.wrap (0 - (gi vars v113)),IntKind.i64.wrap (0 - (gi (vars.drop (IntKind.i64.wrap (v113+1)).toNat) v133))]]) (IntKind.i64.wrap (v133+1))/\μ2 (v127++[[IntKind.i64.wrap (0 - (gi vars v113)),IntKind.i64.wrap (0 - (gi (vars.drop (IntKind.i64.wrap (v113+1)).toNat) v133))]]) (IntKind.i64.wrap (v133+1)) < μ2 v127 v133) /\
 ((decide (v133 < (((vars.drop (IntKind.i64.wrap (v113+1)).toNat).length:Nat):Int)))=false ->
 VC62_J2 I1 μ1 v108 v113 v127)) /\
 ((decide (v113 < (vars.length:Int)))=false ->
 VC62_J1 Q v108)
def VC20_J2 (Q:((List (List Int)))->Prop) (v109:List (List Int)):Prop :=
 Q v109
def VC20_J1 (s_:aa) (Q:((List (List Int)))->Prop) (v105:List (List Int)):Prop :=
 ∃ (I1:(List (List Int))->Int->Prop) (μ1:(List (List Int))->Int->Nat),I1 v105 0/\∀ (v115:List (List Int)) (v119:Int),I1 v115 v119 ->
 ((decide (v119 < s_.Ops))=true ->
 (kP s_ v119) /\
 ∀ bJ,bQ s_ v119=bJ ->
 sm bJ ->
 (iY bJ) /\
 ∀ eu,dD bJ=eu ->
 sm eu ->
 (v115.length+eu.length≤1099511627776) /\
 I1 (v115++eu) (IntKind.i64.wrap (v119+1))/\μ1 (v115++eu) (IntKind.i64.wrap (v119+1)) < μ1 v115 v119) /\
 ((decide (v119 < s_.Ops))=false ->
 VC20_J2 Q v115)
def VC20 (s_:aa) (Q:(List (List Int))->Prop):Prop :=
 ∀ al,ao s_=al ->
 ((al != 0)=true ->
 Q []) /\
 ((al != 0)=false ->
 ∃ (I2:(List (List Int))->Int->Prop) (μ2:(List (List Int))->Int->Nat),I2 [] 0/\∀ (v146:List (List Int)) (v150:Int),I2 v146 v150 ->
 ((decide (v150 < s_.Ops))=true ->
 (kP s_ v150) /\
 ∀ lG,bR s_ v150=lG ->
 sm lG ->
 (v146.length+[lG].length≤1099511627776) /\
 (iY lG) /\
 ∀ vT,dD lG=vT ->
 sm vT ->
 ((v146++[lG]).length+vT.length≤1099511627776) /\
 I2 ((v146++[lG])++vT) (IntKind.i64.wrap (v150+1))/\μ2 ((v146++[lG])++vT) (IntKind.i64.wrap (v150+1)) < μ2 v146 v150) /\
 ((decide (v150 < s_.Ops))=false ->
 VC20_J1 s_ Q v146))
def VC66 (p_:Int × Int) (n_:Int) (Q:Bool->Prop):Prop :=
 Q (((decide ((if p_.2 < p_.1 then p_.2 else p_.1)≥0)) && (decide ((if p_.2 > p_.1 then p_.2 else p_.1) < n_))) && (p_.1 != p_.2))
def VC64 (a_:Int) (b_:Int) (aj:aa) (Q:Int->Prop):Prop :=
 ∀ al,bd aj (⟨1,a_,b_⟩:aW)=al ->
 Q al
def VC21_J1 (Q:((List (List Int)))->Prop) (v105:List (List Int)):Prop :=
 Q v105
def VC21_J2 (I1:(List (List Int))->Int->Prop) (μ1:(List (List Int))->Int->Nat) (v111:List (List Int)) (v116:Int) (v117:List (List Int)):Prop :=
 I1 v117 (IntKind.i64.wrap (v116+1))/\μ1 v117 (IntKind.i64.wrap (v116+1)) < μ1 v111 v116
def VC21_J3 (I2:(List (List Int))->Int->Prop) (μ2:(List (List Int))->Int->Nat) (v129:List (List Int)) (v134:Int) (v135:List (List Int)):Prop :=
 I2 v135 (IntKind.i64.wrap (v134+1))/\μ2 v135 (IntKind.i64.wrap (v134+1)) < μ2 v129 v134
def VC21 (s_:aa) (aJ:List (Int × Int)) (Q:(List (List Int))->Prop):Prop :=
 sm aJ ->
 ∀ al,ao s_=al ->
 ((al != 0)=true ->
 Q []) /\
 ((al != 0)=false ->
 ∃ (I1:(List (List Int))->Int->Prop) (μ1:(List (List Int))->Int->Nat),I1 [] 0/\∀ (v111:List (List Int)) (v116:Int),I1 v111 v116 ->
 ((decide (v116 < (aJ.length:Int)))=true ->
 ((0:Int)≤v116/\v116 < (aJ.length:Int)) /\
 ∀ fB,dH ((gi aJ v116).1,(gi aJ v116).2) s_.Ops=fB ->
 ((!fB)=true ->
 VC21_J2 I1 μ1 v111 v116 v111) /\
 ((!fB)=false ->
 ∃ (I2:(List (List Int))->Int->Prop) (μ2:(List (List Int))->Int->Nat),I2 v111 0/\∀ (v129:List (List Int)) (v134:Int),I2 v129 v134 ->
 ((decide (v134 < s_.Ops))=true ->
 ∃ (I3:(List (List Int))->Int->Prop) (μ3:(List (List Int))->Int->Nat),I3 v129 0/\∀ (v140:List (List Int)) (v145:Int),I3 v140 v145 ->
 ((decide (v145 < v134))=true ->
 ∀ fQ,eA ((gi aJ v116).1) v134 s_=fQ ->
 ∀ ox,eA ((gi aJ v116).2) v145 s_=ox ->
 (v140.length+[[IntKind.i64.wrap (0 - fQ),IntKind.i64.wrap (0 - ox)]].length≤1099511627776) /\
 I3 (v140++[[IntKind.i64.wrap (0 - fQ),IntKind.i64.wrap (0 - ox)]]) (IntKind.i64.wrap (v145+1))/\μ3 (v140++[[IntKind.i64.wrap (0 - fQ),IntKind.i64.wrap (0 - ox)]]) (IntKind.i64.wrap (v145+1)) < μ3 v140 v145) /\
 ((decide (v145 < v134))=false ->
 VC21_J3 I2 μ2 v129 v134 v140)) /\
 ((decide (v134 < s_.Ops))=false ->
 VC21_J2 I1 μ1 v111 v116 v129))) /\
 ((decide (v116 < (aJ.length:Int)))=false ->
 VC21_J1 Q v111))
def VC68 (s_:aa) (a_:Int) (b_:Int) (Q:Int->Prop):Prop :=
 ∀ al,bd s_ (⟨3,a_,b_⟩:aW)=al ->
 Q al
def VC70 (b_:Int) (aj:aa) (aX:Int) (Q:Int->Prop):Prop :=
 ∀ al,bL aj aX b_=al ->
 Q al
def VC69_70_J1 (Q:((List Int))->Prop) (v105:List Int):Prop :=
 Q v105
def VC69_70 (n_:Int) (aj:aa) (aX:Int) (Q:(List Int)->Prop):Prop :=
 ((0:Int)≤n_/\n_≤n_/\n_≤1099511627776) /\
 ∃ (I1:(List Int)->Int->Prop) (μ1:(List Int)->Int->Nat),I1 (List.replicate n_.toNat (0:Int)) 0/\∀ (v111:List Int) (v115:Int),I1 v111 v115 ->
 ((decide (v115 < ((List.replicate n_.toNat (0:Int)).length:Int)))=true ->
 ∀ cY,fg v115 aj aX=cY ->
 ((0:Int)≤v115/\v115 < (v111.length:Int)) /\
 I1 (v111.set v115.toNat cY) (IntKind.i64.wrap (v115+1))/\μ1 (v111.set v115.toNat cY) (IntKind.i64.wrap (v115+1)) < μ1 v111 v115) /\
 ((decide (v115 < ((List.replicate n_.toNat (0:Int)).length:Int)))=false ->
 VC69_70_J1 Q v111)
def VC23_J1 (Q:((List (List Int)))->Prop) (v117:List (List Int)):Prop :=
 Q v117
def VC23 (s_:aa) (init:Int) (Q:(List (List Int))->Prop):Prop :=
 ∀ al,ao s_=al ->
 ((((al != 0) || (decide (init < 0))) || (decide (init≥s_.ab)))=true ->
 Q []) /\
 ((((al != 0) || (decide (init < 0))) || (decide (init≥s_.ab)))=false ->
 ∀ bu,bL s_ 0 init=bu ->
 ∃ (I1:(List (List Int))->Int->Prop) (μ1:(List (List Int))->Int->Nat),I1 [[bu]] 0/\∀ (v123:List (List Int)) (v127:Int),I1 v123 v127 ->
 ((decide (v127 < (IntKind.i64.wrap (s_.Ops+1))))=true ->
 (px s_.ab s_ v127) /\
 ∀ eu,bD s_.ab s_ v127=eu ->
 sm eu ->
 (v123.length+[eu].length≤1099511627776) /\
 (iY eu) /\
 ∀ vU,dD eu=vU ->
 sm vU ->
 ((v123++[eu]).length+vU.length≤1099511627776) /\
 I1 ((v123++[eu])++vU) (IntKind.i64.wrap (v127+1))/\μ1 ((v123++[eu])++vU) (IntKind.i64.wrap (v127+1)) < μ1 v123 v127) /\
 ((decide (v127 < (IntKind.i64.wrap (s_.Ops+1))))=false ->
 VC23_J1 Q v123))
def VC72 (t_:eF) (x_:ae) (state:Int) (Q:Int × Bool->Prop):Prop :=
 sm t_.o.Rows ->
 ∀ al,eQ t_.o state x_.Kind=al ->
 (((!al.2.2) || ((x_.End != (-1)) && (x_.Result != al.2.1)))=true ->
 Q (0,false)) /\
 (((!al.2.2) || ((x_.End != (-1)) && (x_.Result != al.2.1)))=false ->
 Q (al.1,true))
def VC71 (s_:aa) (Q:aa->Prop):Prop :=
 Q s_
def VC117 (kind:Int) (a_:Int) (b_:Int) (aj:aa) (Q:Int->Prop):Prop :=
 ∀ al,bd aj (⟨kind,a_,b_⟩:aW)=al ->
 Q al
def VC24_J1 (Q:((List (List Int)))->Prop) (v115:List (List Int)):Prop :=
 Q v115
def VC24_J2 (I1:(List (List Int))->Int->Prop) (μ1:(List (List Int))->Int->Nat) (v122:List (List Int)) (v127:Int) (v129:List (List Int)):Prop :=
 I1 v129 (IntKind.i64.wrap (v127+1))/\μ1 v129 (IntKind.i64.wrap (v127+1)) < μ1 v122 v127
def VC24_J4 (I2:(List (List Int))->Int->Prop) (μ2:(List (List Int))->Int->Nat) (v149:List (List Int)) (v154:Int) (v156:List (List Int)):Prop :=
 I2 v156 (IntKind.i64.wrap (v154+1))/\μ2 v156 (IntKind.i64.wrap (v154+1)) < μ2 v149 v154
def VC24_J5 (I3:(List (List Int))->Int->Prop) (μ3:(List (List Int))->Int->Nat) (v162:List (List Int)) (v167:Int) (v169:List (List Int)):Prop :=
 I3 v169 (IntKind.i64.wrap (v167+1))/\μ3 v169 (IntKind.i64.wrap (v167+1)) < μ3 v162 v167
def VC24_J6 (l_:List ae) (aS:aa) (v127:Int) (b8:Int) (v154:Int) (I3:(List (List Int))->Int->Prop) (μ3:(List (List Int))->Int->Nat) (v162:List (List Int)) (v167:Int) (iy:Int) (iO:Int) (v189:List (List Int)) (v193:List Int):Prop :=
 (v189.length+[v193].length≤1099511627776) /\
 ((((gi l_ v127).End) == (-1))=true ->
 ∀ sP,cI 3 (IntKind.i64.wrap (v154+1)) v167 aS=sP ->
 ((v189++[v193]).length+[[IntKind.i64.wrap (0 - iy),b8,IntKind.i64.wrap (0 - iO),sP]].length≤1099511627776) /\
 VC24_J5 I3 μ3 v162 v167 ((v189++[v193])++[[IntKind.i64.wrap (0 - iy),b8,IntKind.i64.wrap (0 - iO),sP]])) /\
 ((((gi l_ v127).End) == (-1))=false ->
 VC24_J5 I3 μ3 v162 v167 (v189++[v193]))
def VC24_J3 (o_:ah) (l_:List ae) (al:aa) (aS:aa) (I1:(List (List Int))->Int->Prop) (μ1:(List (List Int))->Int->Nat) (v122:List (List Int)) (v127:Int) (b8:Int) (v143:List (List Int)):Prop :=
 ∃ (I2:(List (List Int))->Int->Prop) (μ2:(List (List Int))->Int->Nat),I2 v143 0/\∀ (v149:List (List Int)) (v154:Int),I2 v149 v154 ->
 ((decide (v154 < al.Ops))=true ->
 ∃ (I3:(List (List Int))->Int->Prop) (μ3:(List (List Int))->Int->Nat),I3 v149 0/\∀ (v162:List (List Int)) (v167:Int),I3 v162 v167 ->
 ((decide (v167 < al.ab))=true ->
 ∀ iy,cI 1 v127 v154 aS=iy ->
 ∀ iO,cI 3 v154 v167 aS=iO ->
 ∀ qq,dI (⟨o_⟩:eF) (gi l_ v127) v167=qq ->
 (qq.2=true ->
 ∀ vS,cI 3 (IntKind.i64.wrap (v154+1)) qq.1 aS=vS ->
 ([IntKind.i64.wrap (0 - iy),IntKind.i64.wrap (0 - b8),IntKind.i64.wrap (0 - iO)].length+[vS].length≤1099511627776) /\
 VC24_J6 l_ aS v127 b8 v154 I3 μ3 v162 v167 iy iO v162 ([IntKind.i64.wrap (0 - iy),IntKind.i64.wrap (0 - b8),IntKind.i64.wrap (0 - iO)]++[vS])) /\
 (qq.2=false ->
 VC24_J6 l_ aS v127 b8 v154 I3 μ3 v162 v167 iy iO v162 [IntKind.i64.wrap (0 - iy),IntKind.i64.wrap (0 - b8),IntKind.i64.wrap (0 - iO)])) /\
 ((decide (v167 < al.ab))=false ->
 VC24_J4 I2 μ2 v149 v154 v162)) /\
 ((decide (v154 < al.Ops))=false ->
 VC24_J2 I1 μ1 v122 v127 v149)
def VC24 (o_:ah) (l_:List ae) (Q:(List (List Int))->Prop):Prop :=
 sm o_.Rows ->
 ∀ (_:sm l_),
 (jG o_ l_) /\
 ∀ al,au o_ l_=al ->
 ∀ bu,ao al=bu ->
 ((bu != 0)=true ->
 Q []) /\
 ((bu != 0)=false ->
 ∀ aS,iJ al=aS ->
 ∃ (I1:(List (List Int))->Int->Prop) (μ1:(List (List Int))->Int->Nat),I1 [] 0/\∀ (v122:List (List Int)) (v127:Int),I1 v122 v127 ->
 ((decide (v127 < (l_.length:Int)))=true ->
 ((0:Int)≤v127/\v127 < (l_.length:Int)) /\
 ∀ b8,cI 2 v127 0 aS=b8 ->
 ((((gi l_ v127).End) != (-1))=true ->
 (v122.length+[[b8]].length≤1099511627776) /\
 VC24_J3 o_ l_ al aS I1 μ1 v122 v127 b8 (v122++[[b8]])) /\
 ((((gi l_ v127).End) != (-1))=false ->
 VC24_J3 o_ l_ al aS I1 μ1 v122 v127 b8 v122)) /\
 ((decide (v127 < (l_.length:Int)))=false ->
 VC24_J1 Q v122))
def VC58 (s_:List Int) (Q:(List Int)->Prop):Prop :=
 sm s_ ->
 ∀ (b101:Bool),(b101=true->s_=[]) ->
 (b101=true ->
 Q []) /\
 (b101=false ->
 (([]:List Int).length+s_.length≤1099511627776) /\
 Q (([]:List Int)++s_))
def VC19_J1 (Q:((List (List Int)))->Prop) (v101:List (List Int)):Prop :=
 Q v101
def VC19_J2 (I1:(List (List Int))->Int->Prop) (μ1:(List (List Int))->Int->Nat) (v107:List (List Int)) (v112:Int) (v113:List (List Int)):Prop :=
 I1 v113 (IntKind.i64.wrap (v112+1))/\μ1 v113 (IntKind.i64.wrap (v112+1)) < μ1 v107 v112
def VC19 (parts:List (List (List Int))) (Q:(List (List Int))->Prop):Prop :=
 sm parts ->
 ∃ (I1:(List (List Int))->Int->Prop) (μ1:(List (List Int))->Int->Nat),I1 [] 0/\∀ (v107:List (List Int)) (v112:Int),I1 v107 v112 ->
 ((decide (v112 < (parts.length:Int)))=true ->
 ((0:Int)≤v112/\v112 < (parts.length:Int)) /\
 ∀ (_:sm (gi parts v112)),
 ∃ (I2:(List (List Int))->Int->Prop) (μ2:(List (List Int))->Int->Nat),I2 v107 0/\∀ (v124:List (List Int)) (v130:Int),I2 v124 v130 ->
 ((decide (v130 < ((gi parts v112).length:Int)))=true ->
 ((0:Int)≤v130/\v130 < ((gi parts v112).length:Int)) /\
 ∀ (_:sm (gi (gi parts v112) v130)),
 (Bs (gi (gi parts v112) v130)) /\
 ∀ b8,dw (gi (gi parts v112) v130)=b8 ->
 sm b8 ->
 (v124.length+[b8].length≤1099511627776) /\
 I2 (v124++[b8]) (IntKind.i64.wrap (v130+1))/\μ2 (v124++[b8]) (IntKind.i64.wrap (v130+1)) < μ2 v124 v130) /\
 ((decide (v130 < ((gi parts v112).length:Int)))=false ->
 VC19_J2 I1 μ1 v107 v112 v124)) /\
 ((decide (v112 < (parts.length:Int)))=false ->
 VC19_J1 Q v107)
def VC6 (o_:ah) (l_:List ae) (Q:aL × Int->Prop):Prop :=
 sm o_.Rows ->
 ∀ (_:sm l_),
 (jG o_ l_) /\
 ∀ al,bo o_ l_=al ->
 ((al.2 != 0)=true ->
 Q ((⟨0,[]⟩:aL),al.2)) /\
 ((al.2 != 0)=false ->
 ∀ aS,cc al.1=aS ->
 sm aS ->
 (gA l_) /\
 ∀ cY,bS l_=cY ->
 sm cY ->
 (r9 al.1 cY) /\
 ∀ gm,cH al.1 cY=gm ->
 sm gm ->
 ∀ mJ,cb al.1 o_.aU=mJ ->
 sm mJ ->
 (q9 o_ l_) /\
 ∀ b8,cJ o_ l_=b8 ->
 sm b8 ->
 (Br [aS,gm,mJ,b8]) /\
 ∀ fQ,fP [aS,gm,mJ,b8]=fQ ->
 sm fQ ->
 ∀ zt,aw al.1=zt ->
 Q ((⟨zt,fQ⟩:aL),0))
def VC211 (n_:Int) (vars:Int) (Q:Bool->Prop):Prop :=
 Q (((n_ != 0) && (decide (n_≥(IntKind.i64.wrap (0 - vars))))) && (decide (n_≤vars)))
def VC164 (lit:Int) (vars:Int) (Q:Int->Prop):Prop :=
 (((decide (vars < 0)) || (decide (vars > 100000)))=true ->
 Q 2) /\
 (((decide (vars < 0)) || (decide (vars > 100000)))=false ->
 (xC lit vars) /\
 ∀ al,dW lit vars=al ->
 ((!al)=true ->
 Q 10) /\
 ((!al)=false ->
 Q 0))
def VC269 (lit:Int) (Q:Bool->Prop):Prop :=
 (xC lit 100000) /\
 ∀ al,dW lit 100000=al ->
 Q al
def VC212 (lit:Int) (Q:Int->Prop):Prop :=
 ∀ al,oF lit=al ->
 ((!al)=true ->
 Q 0) /\
 ((!al)=false ->
 Q (if (IntKind.i64.wrap (0 - lit)) > lit then (IntKind.i64.wrap (0 - lit)) else lit))
def VC165_J1 (Q:((List (Int × Int)))->Prop) (v105:List (Int × Int)):Prop :=
 Q v105
def VC165_J2 (I1:(List (Int × Int))->Int->Prop) (μ1:(List (Int × Int))->Int->Nat) (v107:List (Int × Int)) (v110:Int) (v111:List (Int × Int)):Prop :=
 I1 v111 (IntKind.i64.wrap (v110+1))/\μ1 v111 (IntKind.i64.wrap (v110+1)) < μ1 v107 v110
def VC165 (c_:List Int) (Q:(List (Int × Int))->Prop):Prop :=
 sm c_ ->
 ∃ (I1:(List (Int × Int))->Int->Prop) (μ1:(List (Int × Int))->Int->Nat),I1 ([]:List (Int × Int)) 0/\∀ (v107:List (Int × Int)) (v110:Int),I1 v107 v110 ->
 ((decide (v110 < (c_.length:Int)))=true ->
 ((0:Int)≤v110/\v110 < (c_.length:Int)) /\
 ∀ nJ,nG (gi c_ v110)=nJ ->
 ((decide (nJ > 0))=true ->
 VC165_J2 I1 μ1 v107 v110 (gb v107 (gi c_ v110) (IntKind.i64.wrap (((cd v107 (gi c_ v110)).getD 0)+1)))) /\
 ((decide (nJ > 0))=false ->
 VC165_J2 I1 μ1 v107 v110 v107)) /\
 ((decide (v110 < (c_.length:Int)))=false ->
 VC165_J1 Q v107)
def VC119_J1 (c_:List Int) (Q:Int->Prop):Prop :=
 (pv c_) /\
 ∀ jU,fe c_=jU ->
 ((decide ((jU.length:Int) < (c_.length:Int)))=true ->
 Q 21) /\
 ((decide ((jU.length:Int) < (c_.length:Int)))=false ->
 Q 0)
def VC119 (c_:List Int) (vars:Int) (Q:Int->Prop):Prop :=
 sm c_ ->
 (((decide (vars < 0)) || (decide (vars > 100000)))=true ->
 Q 2) /\
 (((decide (vars < 0)) || (decide (vars > 100000)))=false ->
 ((decide ((c_.length:Int) > 1000))=true ->
 Q 3) /\
 ((decide ((c_.length:Int) > 1000))=false ->
 ∃ (I1:Int->Prop) (μ1:Int->Nat),I1 0/\∀ (v110:Int),I1 v110 ->
 ((decide (v110 < (c_.length:Int)))=true ->
 ((0:Int)≤v110/\v110 < (c_.length:Int)) /\
 ∀ l9,iK (gi c_ v110) vars=l9 ->
 ((l9 != 0)=true ->
 Q l9) /\
 ((l9 != 0)=false ->
 I1 (IntKind.i64.wrap (v110+1))/\μ1 (IntKind.i64.wrap (v110+1)) < μ1 v110)) /\
 ((decide (v110 < (c_.length:Int)))=false ->
 VC119_J1 c_ Q)))
def VC167 (l_:Int) (aj:List (Int × Int)) (Q:Bool->Prop):Prop :=
 ((decide (((cd aj l_).getD 0) > 0))=true ->
 Q (decide (((cd aj (IntKind.i64.wrap (0 - l_))).getD 0) > 0))) /\
 ((decide (((cd aj l_).getD 0) > 0))=false ->
 Q false)
def VC213_167_J1 (Q:Int->Prop):Prop :=
 Q (-1)
def VC213_167 (s_:List Int) (aj:List (Int × Int)) (Q:Int->Prop):Prop :=
 sm s_ ->
 ∃ (I1:Int->Prop) (μ1:Int->Nat),I1 0/\∀ (v103:Int),I1 v103 ->
 ((decide (v103 < (s_.length:Int)))=true ->
 ((0:Int)≤v103/\v103 < (s_.length:Int)) /\
 (Bl (gi s_ v103) aj) /\
 ∀ CV,dz (gi s_ v103) aj=CV ->
 (CV=true ->
 Q v103) /\
 (CV=false ->
 I1 (IntKind.i64.wrap (v103+1))/\μ1 (IntKind.i64.wrap (v103+1)) < μ1 v103)) /\
 ((decide (v103 < (s_.length:Int)))=false ->
 VC213_167_J1 Q)
def VC166_167 (s_:List Int) (aj:List (Int × Int)) (Q:Bool->Prop):Prop :=
 sm s_ ->
 (qZ s_ aj) /\
 ∀ al,bI s_ aj=al ->
 Q (decide (al≥0))
def VC120 (c_:List Int) (Q:Bool->Prop):Prop :=
 sm c_ ->
 (pv c_) /\
 ∀ al,fe c_=al ->
 (qZ c_ al) /\
 ∀ fS,bB c_ al=fS ->
 Q fS
def VC78_J1 (f_:aL) (Q:(Int × Int)->Prop):Prop :=
 Q ((f_.ai.length:Int),0)
def VC78 (f_:aL) (Q:Int × Int->Prop):Prop :=
 sm f_.ai ->
 (((decide (f_.bC < 0)) || (decide (f_.bC > 100000)))=true ->
 Q (0,2)) /\
 (((decide (f_.bC < 0)) || (decide (f_.bC > 100000)))=false ->
 ((decide ((f_.ai.length:Int) > 1000000))=true ->
 Q (0,3)) /\
 ((decide ((f_.ai.length:Int) > 1000000))=false ->
 ∃ (I1:Int->Prop) (μ1:Int->Nat),I1 0/\∀ (v103:Int),I1 v103 ->
 ((decide (v103 < (f_.ai.length:Int)))=true ->
 ((0:Int)≤v103/\v103 < (f_.ai.length:Int)) /\
 ∀ (_:sm (gi f_.ai v103)),
 ∀ fR,fH (gi f_.ai v103) f_.bC=fR ->
 ((fR != 0)=true ->
 Q (v103,fR)) /\
 ((fR != 0)=false ->
 (Bj (gi f_.ai v103)) /\
 ∀ jF,iM (gi f_.ai v103)=jF ->
 (jF=true ->
 Q (v103,11)) /\
 (jF=false ->
 I1 (IntKind.i64.wrap (v103+1))/\μ1 (IntKind.i64.wrap (v103+1)) < μ1 v103))) /\
 ((decide (v103 < (f_.ai.length:Int)))=false ->
 VC78_J1 f_ Q)))
def VC27 (f_:aL) (Q:Int->Prop):Prop :=
 sm f_.ai ->
 ∀ al,fj f_=al ->
 ((al.2 != 0)=true ->
 Q al.2) /\
 ((al.2 != 0)=false ->
 ((decide (f_.bC > 16))=true ->
 Q 3) /\
 ((decide (f_.bC > 16))=false ->
 Q 0))
def VC75_J1 (Q:((List aE))->Prop) (v105:List aE):Prop :=
 Q v105
def VC75_J2 (I1:(List aE)->Int->Prop) (μ1:(List aE)->Int->Nat) (v111:List aE) (v116:Int) (v117:List aE):Prop :=
 I1 v117 (IntKind.i64.wrap (v116+1))/\μ1 v117 (IntKind.i64.wrap (v116+1)) < μ1 v111 v116
def VC75_J3 (I2:(List aE)->Int->Prop) (μ2:(List aE)->Int->Nat) (v128:List aE) (v134:Int) (v135:List aE):Prop :=
 I2 v135 (IntKind.i64.wrap (v134+1))/\μ2 v135 (IntKind.i64.wrap (v134+1)) < μ2 v128 v134
def VC75 (f_:aL) (Q:(List aE)->Prop):Prop :=
 sm f_.ai ->
 ((0:Int)≤(f_.ai.length:Int)/\(f_.ai.length:Int)≤(f_.ai.length:Int)/\(f_.ai.length:Int)≤1099511627776) /\
 ∃ (I1:(List aE)->Int->Prop) (μ1:(List aE)->Int->Nat),I1 (List.replicate (f_.ai.length:Int).toNat ((⟨0,0⟩:aE):aE)) 0/\∀ (v111:List aE) (v116:Int),I1 v111 v116 ->
 ((decide (v116 < (f_.ai.length:Int)))=true ->
 ((0:Int)≤v116/\v116 < (f_.ai.length:Int)) /\
 ∀ (_:sm (gi f_.ai v116)),
 ∃ (I2:(List aE)->Int->Prop) (μ2:(List aE)->Int->Nat),I2 v111 0/\∀ (v128:List aE) (v134:Int),I2 v128 v134 ->
 ((decide (v134 < ((gi f_.ai v116).length:Int)))=true ->
 ((0:Int)≤v134/\v134 < ((gi f_.ai v116).length:Int)) /\
 ((decide ((gi (gi f_.ai v116) v134) > 0))=true ->
 ((0:Int)≤(IntKind.i64.wrap ((gi (gi f_.ai v116) v134) - 1))) /\
 ((0:Int)≤v116/\v116 < (v128.length:Int)) /\
 ((0:Int)≤v116/\v116 < (v128.length:Int)) /\
 VC75_J3 I2 μ2 v128 v134 (v128.set v116.toNat (⟨IntKind.u32.wrap ((BitVec.ofInt IntKind.u32.bits ((gi v128 v116).yes) ||| BitVec.ofInt IntKind.u32.bits (IntKind.u32.wrap (1 * 2 ^ (min (IntKind.i64.wrap ((gi (gi f_.ai v116) v134) - 1)).toNat IntKind.u32.bits)))).toNat:Int),(gi v128 v116).no⟩:aE))) /\
 ((decide ((gi (gi f_.ai v116) v134) > 0))=false ->
 ((0:Int)≤(IntKind.i64.wrap ((IntKind.i64.wrap (0 - (gi (gi f_.ai v116) v134))) - 1))) /\
 ((0:Int)≤v116/\v116 < (v128.length:Int)) /\
 ((0:Int)≤v116/\v116 < (v128.length:Int)) /\
 VC75_J3 I2 μ2 v128 v134 (v128.set v116.toNat (⟨(gi v128 v116).yes,IntKind.u32.wrap ((BitVec.ofInt IntKind.u32.bits ((gi v128 v116).no) ||| BitVec.ofInt IntKind.u32.bits (IntKind.u32.wrap (1 * 2 ^ (min (IntKind.i64.wrap ((IntKind.i64.wrap (0 - (gi (gi f_.ai v116) v134))) - 1)).toNat IntKind.u32.bits)))).toNat:Int)⟩:aE)))) /\
 ((decide (v134 < ((gi f_.ai v116).length:Int)))=false ->
 VC75_J2 I1 μ1 v111 v116 v128)) /\
 ((decide (v116 < (f_.ai.length:Int)))=false ->
 VC75_J1 Q v111)
def VC76 (p_:aE) (aj:Int) (Q:Bool->Prop):Prop :=
 Q (((IntKind.u32.wrap ((BitVec.ofInt IntKind.u32.bits aj &&& BitVec.ofInt IntKind.u32.bits p_.yes).toNat:Int)) == 0) && ((IntKind.u32.wrap ((BitVec.ofInt IntKind.u32.bits (IntKind.u32.wrap ((BitVec.ofInt IntKind.u32.bits IntKind.u32.max ^^^ BitVec.ofInt IntKind.u32.bits aj).toNat:Int)) &&& BitVec.ofInt IntKind.u32.bits p_.no).toNat:Int)) == 0))
def VC118_76_J1 (Q:Int->Prop):Prop :=
 Q (-1)
def VC118_76 (s_:List aE) (aj:Int) (Q:Int->Prop):Prop :=
 sm s_ ->
 ∃ (I1:Int->Prop) (μ1:Int->Nat),I1 0/\∀ (v102:Int),I1 v102 ->
 ((decide (v102 < (s_.length:Int)))=true ->
 ((0:Int)≤v102/\v102 < (s_.length:Int)) /\
 ∀ ga,bV (gi s_ v102) aj=ga ->
 (ga=true ->
 Q v102) /\
 (ga=false ->
 I1 (IntKind.i64.wrap (v102+1))/\μ1 (IntKind.i64.wrap (v102+1)) < μ1 v102)) /\
 ((decide (v102 < (s_.length:Int)))=false ->
 VC118_76_J1 Q)
def VC77_76 (s_:List aE) (aj:Int) (Q:Bool->Prop):Prop :=
 sm s_ ->
 ∀ al,aM s_ aj=al ->
 Q (decide (al≥0))
def VC31_J1 (Q:((List Bool))->Prop) (v105:List Bool):Prop :=
 Q v105
def VC31 (m_:Int) (vars:Int) (Q:(List Bool)->Prop):Prop :=
 ((0:Int)≤vars/\vars≤vars/\vars≤1099511627776) /\
 ∃ (I1:(List Bool)->Int->Prop) (μ1:(List Bool)->Int->Nat),I1 (List.replicate vars.toNat (false:Bool)) 0/\∀ (v111:List Bool) (v115:Int),I1 v111 v115 ->
 ((decide (v115 < ((List.replicate vars.toNat (false:Bool)).length:Int)))=true ->
 ((0:Int)≤v115) /\
 ((0:Int)≤v115/\v115 < (v111.length:Int)) /\
 I1 (v111.set v115.toNat ((IntKind.u32.wrap ((BitVec.ofInt IntKind.u32.bits (m_.fdiv (2 ^ (min v115.toNat IntKind.u32.bits))) &&& BitVec.ofInt IntKind.u32.bits 1).toNat:Int)) == 1)) (IntKind.i64.wrap (v115+1))/\μ1 (v111.set v115.toNat ((IntKind.u32.wrap ((BitVec.ofInt IntKind.u32.bits (m_.fdiv (2 ^ (min v115.toNat IntKind.u32.bits))) &&& BitVec.ofInt IntKind.u32.bits 1).toNat:Int)) == 1)) (IntKind.i64.wrap (v115+1)) < μ1 v111 v115) /\
 ((decide (v115 < ((List.replicate vars.toNat (false:Bool)).length:Int)))=false ->
 VC31_J1 Q v111)
def VC169 (x_:Int) (y_:Int) (Q:Int × Int->Prop):Prop :=
 Q (IntKind.u64.wrap ((IntKind.u64.wrap ((IntKind.u64.wrap (((x_).fdiv (2 ^ 32)) * ((y_).fdiv (2 ^ 32))))+(((IntKind.u64.wrap ((IntKind.u64.wrap (((x_).fdiv (2 ^ 32)) * (IntKind.u64.wrap ((BitVec.ofInt IntKind.u64.bits y_ &&& BitVec.ofInt IntKind.u64.bits 4294967295).toNat:Int))))+(((IntKind.u64.wrap ((IntKind.u64.wrap ((BitVec.ofInt IntKind.u64.bits x_ &&& BitVec.ofInt IntKind.u64.bits 4294967295).toNat:Int)) * (IntKind.u64.wrap ((BitVec.ofInt IntKind.u64.bits y_ &&& BitVec.ofInt IntKind.u64.bits 4294967295).toNat:Int))))).fdiv (2 ^ 32))))).fdiv (2 ^ 32))))+(((IntKind.u64.wrap ((IntKind.u64.wrap ((BitVec.ofInt IntKind.u64.bits (IntKind.u64.wrap ((IntKind.u64.wrap (((x_).fdiv (2 ^ 32)) * (IntKind.u64.wrap ((BitVec.ofInt IntKind.u64.bits y_ &&& BitVec.ofInt IntKind.u64.bits 4294967295).toNat:Int))))+(((IntKind.u64.wrap ((IntKind.u64.wrap ((BitVec.ofInt IntKind.u64.bits x_ &&& BitVec.ofInt IntKind.u64.bits 4294967295).toNat:Int)) * (IntKind.u64.wrap ((BitVec.ofInt IntKind.u64.bits y_ &&& BitVec.ofInt IntKind.u64.bits 4294967295).toNat:Int))))).fdiv (2 ^ 32)))) &&& BitVec.ofInt IntKind.u64.bits 4294967295).toNat:Int))+(IntKind.u64.wrap ((IntKind.u64.wrap ((BitVec.ofInt IntKind.u64.bits x_ &&& BitVec.ofInt IntKind.u64.bits 4294967295).toNat:Int)) * ((y_).fdiv (2 ^ 32))))))).fdiv (2 ^ 32))),IntKind.u64.wrap (x_ * y_))
def VC127 (x_:Int) (y_:Int) (Q:Int × Int->Prop):Prop :=
 (mV x_ y_) /\
 ∀ al,eX x_ y_=al ->
 Q (al.1,al.2)
def VC85_J1 (Q:((List Int))->Prop) (v111:List Int):Prop :=
 Q v111
def VC85 (x_:List Int) (count:Int) (Q:(List Int)->Prop):Prop :=
 sm x_ ->
 ((decide (count < 0))=true ->
 False) /\
 ((decide (count < 0))=false ->
 (mV (IntKind.u64.wrap (x_.length:Int)) (IntKind.u64.wrap count)) /\
 ∀ al,fN (IntKind.u64.wrap (x_.length:Int)) (IntKind.u64.wrap count)=al ->
 (((decide (al.1 > 0)) || (decide (al.2 > 9223372036854775807)))=true ->
 False) /\
 (((decide (al.1 > 0)) || (decide (al.2 > 9223372036854775807)))=false ->
 ((0:Int)≤(IntKind.i64.wrap al.2)/\(IntKind.i64.wrap al.2)≤(IntKind.i64.wrap al.2)/\(IntKind.i64.wrap al.2)≤1099511627776) /\
 ∃ (I1:(List Int)->Int->Prop) (μ1:(List Int)->Int->Nat),I1 ((List.replicate (IntKind.i64.wrap al.2).toNat (0:Int)).take 0++x_.take ((List.replicate (IntKind.i64.wrap al.2).toNat (0:Int)).length - 0)++(List.replicate (IntKind.i64.wrap al.2).toNat (0:Int)).drop (0+min x_.length ((List.replicate (IntKind.i64.wrap al.2).toNat (0:Int)).length - 0))) ((min x_.length ((List.replicate (IntKind.i64.wrap al.2).toNat (0:Int)).length - 0):Nat):Int)/\∀ (v115:List Int) (v119:Int),I1 v115 v119 ->
 ((decide (v119 < (v115.length:Int)))=true ->
 ((0:Int)≤v119/\v119≤(v115.length:Int)) /\
 ((0:Int)≤v119/\v119≤(v115.length:Int)) /\
 I1 (v115.take v119.toNat++(v115.take v119.toNat).take (v115.length - v119.toNat)++v115.drop (v119.toNat+min (v115.take v119.toNat).length (v115.length - v119.toNat))) (IntKind.i64.wrap (v119+((min (v115.take v119.toNat).length (v115.length - v119.toNat):Nat):Int)))/\μ1 (v115.take v119.toNat++(v115.take v119.toNat).take (v115.length - v119.toNat)++v115.drop (v119.toNat+min (v115.take v119.toNat).length (v115.length - v119.toNat))) (IntKind.i64.wrap (v119+((min (v115.take v119.toNat).length (v115.length - v119.toNat):Nat):Int))) < μ1 v115 v119) /\
 ((decide (v119 < (v115.length:Int)))=false ->
 VC85_J1 Q v115)))
def VC35_J2 (Q:((List Int) × Bool)->Prop) (v114:List Int):Prop :=
 Q (v114,true)
def VC35_J3 (Q:((List Int) × Bool)->Prop) (I1:(List Int)->Int->Prop) (μ1:(List Int)->Int->Nat) (v121:List Int) (v125:Int) (v127:List Int) (v131:Int):Prop :=
 ((decide (v131 < 0))=true ->
 Q ([],false)) /\
 ((decide (v131 < 0))=false ->
 I1 v127 (IntKind.i64.wrap (v125+1))/\μ1 v127 (IntKind.i64.wrap (v125+1)) < μ1 v121 v125)
def VC35_J4 (I2:(List Int)->Int->Int->Prop) (μ2:(List Int)->Int->Int->Nat) (v133:List Int) (v137:Int) (v138:Int) (v140:List Int) (v144:Int):Prop :=
 I2 v140 v144 (IntKind.i64.wrap (v138+1))/\μ2 v140 v144 (IntKind.i64.wrap (v138+1)) < μ2 v133 v137 v138
def VC35_J5 (Q:((List Int) × Bool)->Prop) (v125:Int) (I2:(List Int)->Int->Int->Prop) (μ2:(List Int)->Int->Int->Nat) (v133:List Int) (v137:Int) (v138:Int) (v153:List Int) (v157:Bool):Prop :=
 (v157=true ->
 Q ([],false)) /\
 (v157=false ->
 ((0:Int)≤v138/\v138 < (v153.length:Int)) /\
 VC35_J4 I2 μ2 v133 v137 v138 (v153.set v138.toNat v125) v138)
def VC35_J1 (s_:aa) (m_:List Bool) (Q:((List Int) × Bool)->Prop) (v102:Bool):Prop :=
 (v102=true ->
 Q ([],false)) /\
 (v102=false ->
 (vW [(-1)] s_.Ops) /\
 ∀ fS,cP [(-1)] s_.Ops=fS ->
 sm fS ->
 ∃ (I1:(List Int)->Int->Prop) (μ1:(List Int)->Int->Nat),I1 fS 0/\∀ (v121:List Int) (v125:Int),I1 v121 v125 ->
 ((decide (v125 < s_.Ops))=true ->
 ∃ (I2:(List Int)->Int->Int->Prop) (μ2:(List Int)->Int->Int->Nat),I2 v121 (-1) 0/\∀ (v133:List Int) (v137:Int) (v138:Int),I2 v133 v137 v138 ->
 ((decide (v138 < s_.Ops))=true ->
 ∀ tZ,bd s_ (⟨1,v125,v138⟩:aW)=tZ ->
 ((0:Int)≤(IntKind.i64.wrap (tZ - 1))/\(IntKind.i64.wrap (tZ - 1)) < (m_.length:Int)) /\
 ((!(gi m_ (IntKind.i64.wrap (tZ - 1))))=true ->
 VC35_J4 I2 μ2 v133 v137 v138 v133 v137) /\
 ((!(gi m_ (IntKind.i64.wrap (tZ - 1))))=false ->
 ((decide (v137≥0))=true ->
 VC35_J5 Q v125 I2 μ2 v133 v137 v138 v133 true) /\
 ((decide (v137≥0))=false ->
 ((0:Int)≤v138/\v138 < (v133.length:Int)) /\
 VC35_J5 Q v125 I2 μ2 v133 v137 v138 v133 (decide ((gi v133 v138)≥0))))) /\
 ((decide (v138 < s_.Ops))=false ->
 VC35_J3 Q I1 μ1 v121 v125 v133 v137)) /\
 ((decide (v125 < s_.Ops))=false ->
 VC35_J2 Q v121))
def VC35 (s_:aa) (m_:List Bool) (Q:(List Int) × Bool->Prop):Prop :=
 sm m_ ->
 ∀ zp,ao s_=zp ->
 ((zp != 0)=true ->
 VC35_J1 s_ m_ Q true) /\
 ((zp != 0)=false ->
 ∀ CS,aw s_=CS ->
 VC35_J1 s_ m_ Q ((m_.length:Int) != CS))
def VC86_J1 (dj:Bool) (Q:(Int × Bool)->Prop) (v101:Int) (v102:Int):Prop :=
 Q (v101,(dj && (v102 == 1)))
def VC86_J2 (I1:Int->Int->Int->Prop) (μ1:Int->Int->Int->Nat) (v106:Int) (v107:Int) (v108:Int) (v110:Int) (v111:Int):Prop :=
 I1 v110 v111 (IntKind.i64.wrap (v108+1))/\μ1 v110 v111 (IntKind.i64.wrap (v108+1)) < μ1 v106 v107 v108
def VC86 (a_:Int) (aj:aa) (aX:List Bool) (dj:Bool) (Q:Int × Bool->Prop):Prop :=
 sm aX ->
 ∃ (I1:Int->Int->Int->Prop) (μ1:Int->Int->Int->Nat),I1 0 0 0/\∀ (v106:Int) (v107:Int) (v108:Int),I1 v106 v107 v108 ->
 ((decide (v108 < aj.ab))=true ->
 ∀ jF,bL aj a_ v108=jF ->
 ((0:Int)≤(IntKind.i64.wrap (jF - 1))/\(IntKind.i64.wrap (jF - 1)) < (aX.length:Int)) /\
 ((gi aX (IntKind.i64.wrap (jF - 1)))=true ->
 VC86_J2 I1 μ1 v106 v107 v108 v108 (IntKind.i64.wrap (v107+1))) /\
 ((gi aX (IntKind.i64.wrap (jF - 1)))=false ->
 VC86_J2 I1 μ1 v106 v107 v108 v106 v107)) /\
 ((decide (v108 < aj.ab))=false ->
 VC86_J1 dj Q v106 v107)
def VC69_86_J1 (Q:((List Int) × Bool)->Prop) (v105:List Int) (v110:Bool):Prop :=
 Q (v105,v110)
def VC69_86 (n_:Int) (aj:aa) (aX:List Bool) (dj:Bool) (Q:(List Int) × Bool->Prop):Prop :=
 sm aX ->
 ((0:Int)≤n_/\n_≤n_/\n_≤1099511627776) /\
 ∃ (I1:(List Int)->Int->Bool->Prop) (μ1:(List Int)->Int->Bool->Nat),I1 (List.replicate n_.toNat (0:Int)) 0 dj/\∀ (v113:List Int) (v117:Int) (v119:Bool),I1 v113 v117 v119 ->
 ((decide (v117 < ((List.replicate n_.toNat (0:Int)).length:Int)))=true ->
 (r7 v117 aj aX v119) /\
 ∀ bJ,fa v117 aj aX v119=bJ ->
 ((0:Int)≤v117/\v117 < (v113.length:Int)) /\
 I1 (v113.set v117.toNat bJ.1) (IntKind.i64.wrap (v117+1)) bJ.2/\μ1 (v113.set v117.toNat bJ.1) (IntKind.i64.wrap (v117+1)) bJ.2 < μ1 v113 v117 v119) /\
 ((decide (v117 < ((List.replicate n_.toNat (0:Int)).length:Int)))=false ->
 VC69_86_J1 Q v113 v119)
def VC36_J1 (s_:aa) (m_:List Bool) (Q:((List Int) × Bool)->Prop) (v101:Bool):Prop :=
 (v101=true ->
 Q ([],false)) /\
 (v101=false ->
 (r8 (IntKind.i64.wrap (s_.Ops+1)) s_ m_ true) /\
 ∀ iz,bF (IntKind.i64.wrap (s_.Ops+1)) s_ m_ true=iz ->
 sm iz.1 ->
 ((!iz.2)=true ->
 Q ([],false)) /\
 ((!iz.2)=false ->
 Q (iz.1,true)))
def VC36 (s_:aa) (m_:List Bool) (Q:(List Int) × Bool->Prop):Prop :=
 sm m_ ->
 ∀ nJ,ao s_=nJ ->
 ((nJ != 0)=true ->
 VC36_J1 s_ m_ Q true) /\
 ((nJ != 0)=false ->
 ∀ zw,aw s_=zw ->
 VC36_J1 s_ m_ Q ((m_.length:Int) != zw))
def VC126_J1 (Q:Int->Prop):Prop :=
 Q (-1)
def VC126 (s_:List Int) (v_:Int) (Q:Int->Prop):Prop :=
 sm s_ ->
 ∃ (I1:Int->Prop) (μ1:Int->Nat),I1 0/\∀ (v102:Int),I1 v102 ->
 ((decide (v102 < (s_.length:Int)))=true ->
 ((0:Int)≤v102/\v102 < (s_.length:Int)) /\
 ((v_ == (gi s_ v102))=true ->
 Q v102) /\
 ((v_ == (gi s_ v102))=false ->
 I1 (IntKind.i64.wrap (v102+1))/\μ1 (IntKind.i64.wrap (v102+1)) < μ1 v102)) /\
 ((decide (v102 < (s_.length:Int)))=false ->
 VC126_J1 Q)
def VC108 (s_:List Int) (v_:Int) (Q:Bool->Prop):Prop :=
 sm s_ ->
 ∀ al,c9 s_ v_=al ->
 Q (decide (al≥0))
def VC123_J1 (Q:Bool->Prop):Prop :=
 Q true
def VC123_J2 (Q:Bool->Prop) (I1:Int->Prop) (μ1:Int->Nat) (v104:Int) (v111:Bool):Prop :=
 (v111=true ->
 Q false) /\
 (v111=false ->
 I1 (IntKind.i64.wrap (v104+1))/\μ1 (IntKind.i64.wrap (v104+1)) < μ1 v104)
def VC123 (l_:List ae) (order:List Int) (in_:List Bool) (Q:Bool->Prop):Prop :=
 sm l_ ->
 ∀ (_:sm order),
 sm in_ ->
 ((((order.length:Int) != (l_.length:Int)) || ((in_.length:Int) != (l_.length:Int)))=true ->
 Q false) /\
 ((((order.length:Int) != (l_.length:Int)) || ((in_.length:Int) != (l_.length:Int)))=false ->
 ∃ (I1:Int->Prop) (μ1:Int->Nat),I1 0/\∀ (v104:Int),I1 v104 ->
 ((decide (v104 < (l_.length:Int)))=true ->
 ((0:Int)≤v104/\v104 < (l_.length:Int)) /\
 ∀ fZ,cU order v104=fZ ->
 ((!fZ)=true ->
 VC123_J2 Q I1 μ1 v104 true) /\
 ((!fZ)=false ->
 ((((gi l_ v104).End) != (-1))=true ->
 ((0:Int)≤v104/\v104 < (in_.length:Int)) /\
 VC123_J2 Q I1 μ1 v104 (!(gi in_ v104))) /\
 ((((gi l_ v104).End) != (-1))=false ->
 VC123_J2 Q I1 μ1 v104 false))) /\
 ((decide (v104 < (l_.length:Int)))=false ->
 VC123_J1 Q))
def VC124 (o_:ah) (x_:ae) (state:Int) (Q:Int × Bool->Prop):Prop :=
 sm o_.Rows ->
 ∀ al,dI (⟨o_⟩:eF) x_ state=al ->
 Q (al.1,al.2)
def VC83_J2 (Q:((List Int) × Bool)->Prop) (v110:List Int):Prop :=
 Q (v110,true)
def VC83_J3 (I1:(List Int)->Int->Prop) (μ1:(List Int)->Int->Nat) (v118:List Int) (v123:Int) (v135:List Int) (v139:Int):Prop :=
 (v135.length+[v139].length≤1099511627776) /\
 I1 (v135++[v139]) (IntKind.i64.wrap (v123+1))/\μ1 (v135++[v139]) (IntKind.i64.wrap (v123+1)) < μ1 v118 v123
def VC83_J1 (o_:ah) (l_:List ae) (order:List Int) (in_:List Bool) (Q:((List Int) × Bool)->Prop) (v104:Bool):Prop :=
 (v104=true ->
 Q ([],false)) /\
 (v104=false ->
 ∃ (I1:(List Int)->Int->Prop) (μ1:(List Int)->Int->Nat),I1 [o_.aU] 0/\∀ (v118:List Int) (v123:Int),I1 v118 v123 ->
 ((decide (v123 < (order.length:Int)))=true ->
 ((0:Int)≤v123/\v123 < (order.length:Int)) /\
 ((0:Int)≤(IntKind.i64.wrap ((v118.length:Int) - 1))/\(IntKind.i64.wrap ((v118.length:Int) - 1)) < (v118.length:Int)) /\
 ((0:Int)≤(gi order v123)/\(gi order v123) < (in_.length:Int)) /\
 ((gi in_ (gi order v123))=true ->
 ((0:Int)≤(gi order v123)/\(gi order v123) < (l_.length:Int)) /\
 ∀ jS,jq o_ (gi l_ (gi order v123)) (gi v118 (IntKind.i64.wrap ((v118.length:Int) - 1)))=jS ->
 ((!jS.2)=true ->
 Q ([],false)) /\
 ((!jS.2)=false ->
 VC83_J3 I1 μ1 v118 v123 v118 jS.1)) /\
 ((gi in_ (gi order v123))=false ->
 VC83_J3 I1 μ1 v118 v123 v118 (gi v118 (IntKind.i64.wrap ((v118.length:Int) - 1))))) /\
 ((decide (v123 < (order.length:Int)))=false ->
 VC83_J2 Q v118))
def VC83 (o_:ah) (l_:List ae) (order:List Int) (in_:List Bool) (Q:(List Int) × Bool->Prop):Prop :=
 sm o_.Rows ->
 ∀ (_:sm l_),
 sm order ->
 ∀ (_:sm in_),
 (jG o_ l_) /\
 ∀ kH,au o_ l_=kH ->
 ∀ zq,ao kH=zq ->
 ((zq != 0)=true ->
 VC83_J1 o_ l_ order in_ Q true) /\
 ((zq != 0)=false ->
 ∀ CT,dZ l_ order in_=CT ->
 VC83_J1 o_ l_ order in_ Q (!CT))
def VC125 (x_:Int) (aj:List Int) (Q:Int->Prop):Prop :=
 sm aj ->
 ∀ al,c9 aj x_=al ->
 Q al
def VC84_J1 (aJ:List (Int × Int)) (Q:(Int × Bool)->Prop):Prop :=
 Q ((aJ.length:Int),true)
def VC84 (order:List Int) (aJ:List (Int × Int)) (Q:Int × Bool->Prop):Prop :=
 sm order ->
 ∀ (_:sm aJ),
 ∃ (I1:Int->Prop) (μ1:Int->Nat),I1 0/\∀ (v104:Int),I1 v104 ->
 ((decide (v104 < (aJ.length:Int)))=true ->
 ((0:Int)≤v104/\v104 < (aJ.length:Int)) /\
 ∀ fR,cS ((gi aJ v104).1) order=fR ->
 ∀ cY,cS ((gi aJ v104).2) order=cY ->
 ((((decide (fR≥0)) && (decide (cY≥0))) && (decide (cY < fR)))=true ->
 Q (v104,false)) /\
 ((((decide (fR≥0)) && (decide (cY≥0))) && (decide (cY < fR)))=false ->
 I1 (IntKind.i64.wrap (v104+1))/\μ1 (IntKind.i64.wrap (v104+1)) < μ1 v104)) /\
 ((decide (v104 < (aJ.length:Int)))=false ->
 VC84_J1 aJ Q)
def VC33_J2 (Q:Bool->Prop):Prop :=
 Q true
def VC33_J1 (o_:ah) (l_:List ae) (Q:Bool->Prop) (bu:(List Int) × Bool) (fZ:(List Int) × Bool) (v126:List Bool):Prop :=
 (Bp o_ l_ bu.1 v126) /\
 ∀ mI,b6 o_ l_ bu.1 v126=mI ->
 sm mI.1 ->
 (gA l_) /\
 ∀ jT,bS l_=jT ->
 sm jT ->
 ∀ xz,di bu.1 jT=xz ->
 (((!xz.2) || (!mI.2))=true ->
 Q false) /\
 (((!xz.2) || (!mI.2))=false ->
 ∃ (I1:Int->Prop) (μ1:Int->Nat),I1 0/\∀ (v153:Int),I1 v153 ->
 ((decide (v153 < (fZ.1.length:Int)))=true ->
 ((0:Int)≤v153/\v153 < (fZ.1.length:Int)) /\
 ((0:Int)≤v153/\v153 < (mI.1.length:Int)) /\
 (((gi fZ.1 v153) != (gi mI.1 v153))=true ->
 Q false) /\
 (((gi fZ.1 v153) != (gi mI.1 v153))=false ->
 I1 (IntKind.i64.wrap (v153+1))/\μ1 (IntKind.i64.wrap (v153+1)) < μ1 v153)) /\
 ((decide (v153 < (fZ.1.length:Int)))=false ->
 VC33_J2 Q))
def VC33 (o_:ah) (l_:List ae) (m_:List Bool) (Q:Bool->Prop):Prop :=
 sm o_.Rows ->
 ∀ (_:sm l_),
 sm m_ ->
 (jG o_ l_) /\
 ∀ al,bo o_ l_=al ->
 ((al.2 != 0)=true ->
 Q false) /\
 ((al.2 != 0)=false ->
 ∀ bu,aq al.1 m_=bu ->
 sm bu.1 ->
 ∀ fZ,aQ al.1 m_=fZ ->
 sm fZ.1 ->
 (((!bu.2) || (!fZ.2))=true ->
 Q false) /\
 (((!bu.2) || (!fZ.2))=false ->
 ((0:Int)≤(l_.length:Int)/\(l_.length:Int)≤(l_.length:Int)/\(l_.length:Int)≤1099511627776) /\
 ∃ (I2:(List Bool)->Int->Prop) (μ2:(List Bool)->Int->Nat),I2 (List.replicate (l_.length:Int).toNat (false:Bool)) 0/\∀ (v170:List Bool) (v174:Int),I2 v170 v174 ->
 ((decide (v174 < (((List.replicate (l_.length:Int).toNat (false:Bool)).length:Nat):Int)))=true ->
 ∀ ig,bd al.1 (⟨2,v174,0⟩:aW)=ig ->
 ((0:Int)≤(IntKind.i64.wrap (ig - 1))/\(IntKind.i64.wrap (ig - 1)) < (m_.length:Int)) /\
 ((0:Int)≤v174/\v174 < (v170.length:Int)) /\
 I2 (v170.set v174.toNat (gi m_ (IntKind.i64.wrap (ig - 1)))) (IntKind.i64.wrap (v174+1))/\μ2 (v170.set v174.toNat (gi m_ (IntKind.i64.wrap (ig - 1)))) (IntKind.i64.wrap (v174+1)) < μ2 v170 v174) /\
 ((decide (v174 < (((List.replicate (l_.length:Int).toNat (false:Bool)).length:Nat):Int)))=false ->
 VC33_J1 o_ l_ Q bu fZ v170)))
def VC37 (k_:Int) (i_:Int) (aj:ah) (aX:List Int) (dj:List ae) (jK:List ak) (Q:(List ak)->Prop):Prop :=
 sm aj.Rows ->
 ∀ (_:sm aX),
 sm dj ->
 ∀ (_:sm jK),
 ((0:Int)≤k_/\k_ < (aX.length:Int)) /\
 ((0:Int)≤i_/\i_ < (dj.length:Int)) /\
 ∀ fR,eQ aj (gi aX k_) ((gi dj i_).Kind)=fR ->
 (jK.length+[(⟨i_,fR.2.1⟩:ak)].length≤1099511627776) /\
 Q (jK++[(⟨i_,fR.2.1⟩:ak)])
def VC10_J1 (Q:((List ak) × Int)->Prop) (v131:List ak):Prop :=
 Q (v131,0)
def VC10_J2 (I1:Int->(List ak)->Prop) (μ1:Int->(List ak)->Nat) (v139:Int) (v143:List ak) (v152:List ak):Prop :=
 I1 (IntKind.i64.wrap (v139+1)) v152/\μ1 (IntKind.i64.wrap (v139+1)) v152 < μ1 v139 v143
def VC10 (o_:ah) (l_:List ae) (m_:List Bool) (Q:(List ak) × Int->Prop):Prop :=
 sm o_.Rows ->
 ∀ (_:sm l_),
 sm m_ ->
 (jG o_ l_) /\
 ∀ al,eL o_ l_=al ->
 ((al != 0)=true ->
 Q ([],al)) /\
 ((al != 0)=false ->
 (q8 o_ l_ m_) /\
 ∀ bu,dy o_ l_ m_=bu ->
 ((!bu)=true ->
 Q ([],5)) /\
 ((!bu)=false ->
 (jG o_ l_) /\
 ∀ aS,au o_ l_=aS ->
 ∀ b9,aq aS m_=b9 ->
 sm b9.1 ->
 ∀ bJ,aQ aS m_=bJ ->
 sm bJ.1 ->
 ∃ (I1:Int->(List ak)->Prop) (μ1:Int->(List ak)->Nat),I1 0 ([]:List ak)/\∀ (v139:Int) (v143:List ak),I1 v139 v143 ->
 ((decide (v139 < (b9.1.length:Int)))=true ->
 ((0:Int)≤v139/\v139 < (b9.1.length:Int)) /\
 ∀ jS,kg aS (gi b9.1 v139)=jS ->
 ((0:Int)≤(IntKind.i64.wrap (jS - 1))/\(IntKind.i64.wrap (jS - 1)) < (m_.length:Int)) /\
 ((gi m_ (IntKind.i64.wrap (jS - 1)))=true ->
 (Bq v139 (gi b9.1 v139) o_ bJ.1 l_ v143) /\
 ∀ zr,eZ v139 (gi b9.1 v139) o_ bJ.1 l_ v143=zr ->
 sm zr ->
 VC10_J2 I1 μ1 v139 v143 zr) /\
 ((gi m_ (IntKind.i64.wrap (jS - 1)))=false ->
 VC10_J2 I1 μ1 v139 v143 v143)) /\
 ((decide (v139 < (b9.1.length:Int)))=false ->
 VC10_J1 Q v143)))
def VC121_J1 (o_:ah) (Q:(Int × Int)->Prop):Prop :=
 Q ((o_.Rows.length:Int),0)
def VC121_J2 (Q:(Int × Int)->Prop) (I1:Int->Prop) (μ1:Int->Nat) (v102:Int) (v107:Bool):Prop :=
 (v107=true ->
 Q (v102,32)) /\
 (v107=false ->
 I1 (IntKind.i64.wrap (v102+1))/\μ1 (IntKind.i64.wrap (v102+1)) < μ1 v102)
def VC121 (o_:ah) (Q:Int × Int->Prop):Prop :=
 sm o_.Rows ->
 (((((((decide (o_.ab < 1)) || (decide (o_.ab > 32))) || (decide (o_.aP < 1))) || (decide (o_.aP > 64))) || (decide (o_.aU < 0))) || (decide (o_.aU≥o_.ab)))=true ->
 Q ((-1),2)) /\
 (((((((decide (o_.ab < 1)) || (decide (o_.ab > 32))) || (decide (o_.aP < 1))) || (decide (o_.aP > 64))) || (decide (o_.aU < 0))) || (decide (o_.aU≥o_.ab)))=false ->
 ∃ (I1:Int->Prop) (μ1:Int->Nat),I1 0/\∀ (v102:Int),I1 v102 ->
 ((decide (v102 < (o_.Rows.length:Int)))=true ->
 ((0:Int)≤v102/\v102 < (o_.Rows.length:Int)) /\
 (((((decide (((gi o_.Rows v102).State) < 0)) || (decide (((gi o_.Rows v102).State)≥o_.ab))) || (decide (((gi o_.Rows v102).Next) < 0))) || (decide (((gi o_.Rows v102).Next)≥o_.ab)))=true ->
 Q (v102,30)) /\
 (((((decide (((gi o_.Rows v102).State) < 0)) || (decide (((gi o_.Rows v102).State)≥o_.ab))) || (decide (((gi o_.Rows v102).Next) < 0))) || (decide (((gi o_.Rows v102).Next)≥o_.ab)))=false ->
 (((decide (((gi o_.Rows v102).Kind) < 0)) || (decide (((gi o_.Rows v102).Kind)≥o_.aP)))=true ->
 Q (v102,31)) /\
 (((decide (((gi o_.Rows v102).Kind) < 0)) || (decide (((gi o_.Rows v102).Kind)≥o_.aP)))=false ->
 (((decide (((gi o_.Rows v102).Result) < 0)) || (decide (((gi o_.Rows v102).Result) > 1000000)))=true ->
 Q (v102,7)) /\
 (((decide (((gi o_.Rows v102).Result) < 0)) || (decide (((gi o_.Rows v102).Result) > 1000000)))=false ->
 ((decide (v102 > 0))=true ->
 ((0:Int)≤(IntKind.i64.wrap (v102 - 1))/\(IntKind.i64.wrap (v102 - 1)) < (o_.Rows.length:Int)) /\
 ((decide (((gi o_.Rows (IntKind.i64.wrap (v102 - 1))).State) > ((gi o_.Rows v102).State)))=true ->
 VC121_J2 Q I1 μ1 v102 true) /\
 ((decide (((gi o_.Rows (IntKind.i64.wrap (v102 - 1))).State) > ((gi o_.Rows v102).State)))=false ->
 ((0:Int)≤(IntKind.i64.wrap (v102 - 1))/\(IntKind.i64.wrap (v102 - 1)) < (o_.Rows.length:Int)) /\
 ((((gi o_.Rows (IntKind.i64.wrap (v102 - 1))).State) == ((gi o_.Rows v102).State))=true ->
 ((0:Int)≤(IntKind.i64.wrap (v102 - 1))/\(IntKind.i64.wrap (v102 - 1)) < (o_.Rows.length:Int)) /\
 VC121_J2 Q I1 μ1 v102 (decide (((gi o_.Rows (IntKind.i64.wrap (v102 - 1))).Kind)≥((gi o_.Rows v102).Kind)))) /\
 ((((gi o_.Rows (IntKind.i64.wrap (v102 - 1))).State) == ((gi o_.Rows v102).State))=false ->
 VC121_J2 Q I1 μ1 v102 false))) /\
 ((decide (v102 > 0))=false ->
 VC121_J2 Q I1 μ1 v102 false))))) /\
 ((decide (v102 < (o_.Rows.length:Int)))=false ->
 VC121_J1 o_ Q))
def VC80_J1 (Q:(Int × Int × Bool)->Prop):Prop :=
 Q (0,0,false)
def VC80_J2 (o_:ah) (Q:(Int × Int × Bool)->Prop) (I1:Int->Prop) (μ1:Int->Nat) (v101:Int) (v103:Bool):Prop :=
 (v103=true ->
 ((0:Int)≤v101/\v101 < (o_.Rows.length:Int)) /\
 ((0:Int)≤v101/\v101 < (o_.Rows.length:Int)) /\
 Q ((gi o_.Rows v101).Next,(gi o_.Rows v101).Result,true)) /\
 (v103=false ->
 I1 (IntKind.i64.wrap (v101+1))/\μ1 (IntKind.i64.wrap (v101+1)) < μ1 v101)
def VC80 (o_:ah) (state:Int) (kind:Int) (Q:Int × Int × Bool->Prop):Prop :=
 sm o_.Rows ->
 ∃ (I1:Int->Prop) (μ1:Int->Nat),I1 0/\∀ (v101:Int),I1 v101 ->
 ((decide (v101 < (o_.Rows.length:Int)))=true ->
 ((0:Int)≤v101/\v101 < (o_.Rows.length:Int)) /\
 ((((gi o_.Rows v101).State) == state)=true ->
 ((0:Int)≤v101/\v101 < (o_.Rows.length:Int)) /\
 VC80_J2 o_ Q I1 μ1 v101 (((gi o_.Rows v101).Kind) == kind)) /\
 ((((gi o_.Rows v101).State) == state)=false ->
 VC80_J2 o_ Q I1 μ1 v101 false)) /\
 ((decide (v101 < (o_.Rows.length:Int)))=false ->
 VC80_J1 Q)
def VC122 (o_:ah) (state:Int) (kind:Int) (result:Int) (Q:Int × Int->Prop):Prop :=
 sm o_.Rows ->
 (((decide (state < 0)) || (decide (state≥o_.ab)))=true ->
 Q (0,30)) /\
 (((decide (state < 0)) || (decide (state≥o_.ab)))=false ->
 ∀ al,aZ o_ state kind=al ->
 (((!al.2.2) || (al.2.1 != result))=true ->
 Q (0,40)) /\
 (((!al.2.2) || (al.2.1 != result))=false ->
 Q (al.1,0)))
def VC79_J1 (az:List ak) (Q:(Int × Int × Int)->Prop) (v105:Int):Prop :=
 Q (v105,(az.length:Int),0)
def VC79_J3 (Q:(Int × Int × Int)->Prop) (I1:Int->Int->Prop) (μ1:Int->Int->Nat) (v108:Int) (v110:Int) (fB:Int × Int) (v131:Bool):Prop :=
 (v131=true ->
 Q (0,v110,40)) /\
 (v131=false ->
 I1 fB.1 (IntKind.i64.wrap (v110+1))/\μ1 fB.1 (IntKind.i64.wrap (v110+1)) < μ1 v108 v110)
def VC79_J2 (o_:ah) (l_:List ae) (az:List ak) (Q:(Int × Int × Int)->Prop) (I1:Int->Int->Prop) (μ1:Int->Int->Nat) (v108:Int) (v110:Int):Prop :=
 ((0:Int)≤((gi az v110).Oper)/\((gi az v110).Oper) < (l_.length:Int)) /\
 ∀ fB,db o_ v108 ((gi l_ ((gi az v110).Oper)).Kind) ((gi az v110).Result)=fB ->
 ((fB.2 != 0)=true ->
 Q (0,v110,fB.2)) /\
 ((fB.2 != 0)=false ->
 ((0:Int)≤((gi az v110).Oper)/\((gi az v110).Oper) < (l_.length:Int)) /\
 ((((gi l_ ((gi az v110).Oper)).End) != (-1))=true ->
 ((0:Int)≤((gi az v110).Oper)/\((gi az v110).Oper) < (l_.length:Int)) /\
 VC79_J3 Q I1 μ1 v108 v110 fB (((gi l_ ((gi az v110).Oper)).Result) != ((gi az v110).Result))) /\
 ((((gi l_ ((gi az v110).Oper)).End) != (-1))=false ->
 VC79_J3 Q I1 μ1 v108 v110 fB false))
def VC79 (o_:ah) (l_:List ae) (state:Int) (az:List ak) (Q:Int × Int × Int->Prop):Prop :=
 sm o_.Rows ->
 ∀ (_:sm l_),
 sm az ->
 ∀ al,cE o_=al ->
 ((al.2 != 0)=true ->
 Q (0,(-1),2)) /\
 ((al.2 != 0)=false ->
 (((decide (state < 0)) || (decide (state≥o_.ab)))=true ->
 Q (0,(-1),30)) /\
 (((decide (state < 0)) || (decide (state≥o_.ab)))=false ->
 ∃ (I1:Int->Int->Prop) (μ1:Int->Int->Nat),I1 state 0/\∀ (v108:Int) (v110:Int),I1 v108 v110 ->
 ((decide (v110 < (az.length:Int)))=true ->
 ((0:Int)≤v110/\v110 < (az.length:Int)) /\
 (((decide (((gi az v110).Oper) < 0)) || (decide (((gi az v110).Oper)≥(l_.length:Int))))=true ->
 Q (0,v110,2)) /\
 (((decide (((gi az v110).Oper) < 0)) || (decide (((gi az v110).Oper)≥(l_.length:Int))))=false ->
 ∃ (I2:Int->Prop) (μ2:Int->Nat),I2 0/\∀ (v149:Int),I2 v149 ->
 ((decide (v149 < v110))=true ->
 ((0:Int)≤v149/\v149 < (az.length:Int)) /\
 ((((gi az v149).Oper) == ((gi az v110).Oper))=true ->
 Q (0,v110,21)) /\
 ((((gi az v149).Oper) == ((gi az v110).Oper))=false ->
 I2 (IntKind.i64.wrap (v149+1))/\μ2 (IntKind.i64.wrap (v149+1)) < μ2 v149)) /\
 ((decide (v149 < v110))=false ->
 VC79_J2 o_ l_ az Q I1 μ1 v108 v110))) /\
 ((decide (v110 < (az.length:Int)))=false ->
 VC79_J1 az Q v108)))
def VC29_J1 (Q:((List ak) × Int)->Prop) (v105:List ak):Prop :=
 Q (v105,0)
def VC29_J2 (o_:ah) (l_:List ae) (order:List Int) (Q:((List ak) × Int)->Prop) (I1:(List ak)->Int->Int->Prop) (μ1:(List ak)->Int->Int->Nat) (v113:List ak) (v117:Int) (v118:Int) (v125:List ak) (v130:Int):Prop :=
 (v125.length+[(⟨gi order v118,v130⟩:ak)].length≤1099511627776) /\
 ∀ jT,bU o_ l_ o_.aU (v125++[(⟨gi order v118,v130⟩:ak)])=jT ->
 ((jT.2.2 != 0)=true ->
 Q ([],jT.2.2)) /\
 ((jT.2.2 != 0)=false ->
 I1 (v125++[(⟨gi order v118,v130⟩:ak)]) jT.1 (IntKind.i64.wrap (v118+1))/\μ1 (v125++[(⟨gi order v118,v130⟩:ak)]) jT.1 (IntKind.i64.wrap (v118+1)) < μ1 v113 v117 v118)
def VC29_J3 (o_:ah) (l_:List ae) (order:List Int) (Q:((List ak) × Int)->Prop) (I1:(List ak)->Int->Int->Prop) (μ1:(List ak)->Int->Int->Nat) (v113:List ak) (v117:Int) (v118:Int) (v146:List ak) (v150:Bool):Prop :=
 (v150=true ->
 ((0:Int)≤v118/\v118 < (order.length:Int)) /\
 ((0:Int)≤(gi order v118)/\(gi order v118) < (l_.length:Int)) /\
 ∀ lb,aZ o_ v117 ((gi l_ (gi order v118)).Kind)=lb ->
 VC29_J2 o_ l_ order Q I1 μ1 v113 v117 v118 v146 lb.2.1) /\
 (v150=false ->
 VC29_J2 o_ l_ order Q I1 μ1 v113 v117 v118 v146 0)
def VC29 (o_:ah) (l_:List ae) (order:List Int) (Q:(List ak) × Int->Prop):Prop :=
 sm o_.Rows ->
 ∀ (_:sm l_),
 sm order ->
 ∀ al,bU o_ l_ o_.aU []=al ->
 ((al.2.2 != 0)=true ->
 Q ([],al.2.2)) /\
 ((al.2.2 != 0)=false ->
 ∃ (I1:(List ak)->Int->Int->Prop) (μ1:(List ak)->Int->Int->Nat),I1 [] al.1 0/\∀ (v113:List ak) (v117:Int) (v118:Int),I1 v113 v117 v118 ->
 ((decide (v118 < (order.length:Int)))=true ->
 ((0:Int)≤v118/\v118 < (order.length:Int)) /\
 ((0:Int)≤v118/\v118 < (order.length:Int)) /\
 ((decide ((gi order v118)≥0))=true ->
 ((0:Int)≤v118/\v118 < (order.length:Int)) /\
 VC29_J3 o_ l_ order Q I1 μ1 v113 v117 v118 v113 (decide ((gi order v118) < (l_.length:Int)))) /\
 ((decide ((gi order v118)≥0))=false ->
 VC29_J3 o_ l_ order Q I1 μ1 v113 v117 v118 v113 false)) /\
 ((decide (v118 < (order.length:Int)))=false ->
 VC29_J1 Q v113))
def VC11_J1 (Q:Bool->Prop):Prop :=
 Q true
def VC11 (a_:List ak) (b_:List ak) (Q:Bool->Prop):Prop :=
 sm a_ ->
 ∀ (_:sm b_),
 (((a_.length:Int) != (b_.length:Int))=true ->
 Q false) /\
 (((a_.length:Int) != (b_.length:Int))=false ->
 ∃ (I1:Int->Prop) (μ1:Int->Nat),I1 0/\∀ (v103:Int),I1 v103 ->
 ((decide (v103 < (a_.length:Int)))=true ->
 ((0:Int)≤v103/\v103 < (a_.length:Int)) /\
 ((0:Int)≤v103/\v103 < (b_.length:Int)) /\
 ((!(((gi a_ v103).Oper) == ((gi b_ v103).Oper) && (((gi a_ v103).Result) == ((gi b_ v103).Result) && true)))=true ->
 Q false) /\
 ((!(((gi a_ v103).Oper) == ((gi b_ v103).Oper) && (((gi a_ v103).Result) == ((gi b_ v103).Result) && true)))=false ->
 I1 (IntKind.i64.wrap (v103+1))/\μ1 (IntKind.i64.wrap (v103+1)) < μ1 v103)) /\
 ((decide (v103 < (a_.length:Int)))=false ->
 VC11_J1 Q))
def VC82 (a_:ae) (b_:ae) (Q:Bool->Prop):Prop :=
 Q ((decide (a_.End≥0)) && (decide (b_.aN > a_.End)))
def VC81_J1 (Q:Int->Prop):Prop :=
 Q (-1)
def VC81 (az:List ak) (i_:Int) (Q:Int->Prop):Prop :=
 sm az ->
 ∃ (I1:Int->Prop) (μ1:Int->Nat),I1 0/\∀ (v102:Int),I1 v102 ->
 ((decide (v102 < (az.length:Int)))=true ->
 ((0:Int)≤v102/\v102 < (az.length:Int)) /\
 ((((gi az v102).Oper) == i_)=true ->
 Q v102) /\
 ((((gi az v102).Oper) == i_)=false ->
 I1 (IntKind.i64.wrap (v102+1))/\μ1 (IntKind.i64.wrap (v102+1)) < μ1 v102)) /\
 ((decide (v102 < (az.length:Int)))=false ->
 VC81_J1 Q)
def VC30_J1 (Q:Bool->Prop):Prop :=
 Q true
def VC30_J2 (I1:Int->Prop) (μ1:Int->Nat) (v107:Int):Prop :=
 I1 (IntKind.i64.wrap (v107+1))/\μ1 (IntKind.i64.wrap (v107+1)) < μ1 v107
def VC30_J4 (Q:Bool->Prop) (I2:Int->Prop) (μ2:Int->Nat) (v115:Int) (v126:Bool):Prop :=
 (v126=true ->
 Q false) /\
 (v126=false ->
 I2 (IntKind.i64.wrap (v115+1))/\μ2 (IntKind.i64.wrap (v115+1)) < μ2 v115)
def VC30_J3 (l_:List ae) (az:List ak) (Q:Bool->Prop) (I1:Int->Prop) (μ1:Int->Nat) (v107:Int) (v112:Bool):Prop :=
 (v112=true ->
 Q false) /\
 (v112=false ->
 ∃ (I2:Int->Prop) (μ2:Int->Nat),I2 0/\∀ (v115:Int),I2 v115 ->
 ((decide (v115 < (l_.length:Int)))=true ->
 ∀ cY,bb az v107=cY ->
 ∀ bJ,bb az v115=bJ ->
 ((0:Int)≤v107/\v107 < (l_.length:Int)) /\
 ((0:Int)≤v115/\v115 < (l_.length:Int)) /\
 ∀ fm,jE (gi l_ v107) (gi l_ v115)=fm ->
 ((fm && (decide (bJ≥0)))=true ->
 VC30_J4 Q I2 μ2 v115 ((decide (cY < 0)) || (decide (cY > bJ)))) /\
 ((fm && (decide (bJ≥0)))=false ->
 VC30_J4 Q I2 μ2 v115 false)) /\
 ((decide (v115 < (l_.length:Int)))=false ->
 VC30_J2 I1 μ1 v107))
def VC30 (o_:ah) (l_:List ae) (az:List ak) (Q:Bool->Prop):Prop :=
 sm o_.Rows ->
 ∀ (_:sm l_),
 sm az ->
 ∀ al,bU o_ l_ o_.aU az=al ->
 ((al.2.2 != 0)=true ->
 Q false) /\
 ((al.2.2 != 0)=false ->
 ∃ (I1:Int->Prop) (μ1:Int->Nat),I1 0/\∀ (v107:Int),I1 v107 ->
 ((decide (v107 < (l_.length:Int)))=true ->
 ((0:Int)≤v107/\v107 < (l_.length:Int)) /\
 ((((gi l_ v107).End) != (-1))=true ->
 ∀ fQ,bb az v107=fQ ->
 VC30_J3 l_ az Q I1 μ1 v107 (decide (fQ < 0))) /\
 ((((gi l_ v107).End) != (-1))=false ->
 VC30_J3 l_ az Q I1 μ1 v107 false)) /\
 ((decide (v107 < (l_.length:Int)))=false ->
 VC30_J1 Q))
def VC28_J1 (Q:((List (List Int)))->Prop) (v109:List (List Int)):Prop :=
 Q v109
def VC28_J2 (I1:(List (List Int))->(List (List Int))->Prop) (μ1:(List (List Int))->(List (List Int))->Nat) (v115:List (List Int)) (v119:List (List Int)) (v123:List (List Int)) (v127:List (List Int)):Prop :=
 (v123.length+v127.length≤1099511627776) /\
 I1 (v123++v127) v127/\μ1 (v123++v127) v127 < μ1 v115 v119
def VC28_J3 (I2:(List (List Int))->(List (List Int))->Int->Prop) (μ2:(List (List Int))->(List (List Int))->Int->Nat) (v138:List (List Int)) (v143:List (List Int)) (v147:Int) (v148:List (List Int)) (v153:List (List Int)):Prop :=
 I2 v148 v153 (IntKind.i64.wrap (v147+1))/\μ2 v148 v153 (IntKind.i64.wrap (v147+1)) < μ2 v138 v143 v147
def VC28_J4 (I3:(List (List Int))->(List (List Int))->Int->Prop) (μ3:(List (List Int))->(List (List Int))->Int->Nat) (v157:List (List Int)) (v162:List (List Int)) (v166:Int) (v167:List (List Int)) (v172:List (List Int)):Prop :=
 I3 v167 v172 (IntKind.i64.wrap (v166+1))/\μ3 v167 v172 (IntKind.i64.wrap (v166+1)) < μ3 v157 v162 v166
def VC28_J5 (v119:List (List Int)) (v147:Int) (I3:(List (List Int))->(List (List Int))->Int->Prop) (μ3:(List (List Int))->(List (List Int))->Int->Nat) (v157:List (List Int)) (v162:List (List Int)) (v166:Int) (v176:List (List Int)) (v181:List (List Int)) (v185:Bool):Prop :=
 ((!v185)=true ->
 ((0:Int)≤v147/\v147 < (v119.length:Int)) /\
 ∀ (_:sm (gi v119 v147)),
 (([]:List Int).length+(gi v119 v147).length≤1099511627776) /\
 ((([]:List Int)++(gi v119 v147)).length+[v166].length≤1099511627776) /\
 (v181.length+[(([]:List Int)++(gi v119 v147))++[v166]].length≤1099511627776) /\
 VC28_J4 I3 μ3 v157 v162 v166 v176 (v181++[(([]:List Int)++(gi v119 v147))++[v166]])) /\
 ((!v185)=false ->
 VC28_J4 I3 μ3 v157 v162 v166 v176 v181)
def VC28_J6 (I4:(List (List Int))->(List (List Int))->Bool->Int->Prop) (μ4:(List (List Int))->(List (List Int))->Bool->Int->Nat) (v221:List (List Int)) (v226:List (List Int)) (v230:Bool) (v231:Int) (v238:List (List Int)) (v243:List (List Int)) (v247:Bool):Prop :=
 I4 v238 v243 v247 (IntKind.i64.wrap (v231+1))/\μ4 v238 v243 v247 (IntKind.i64.wrap (v231+1)) < μ4 v221 v226 v230 v231
def VC28 (n_:Int) (Q:(List (List Int))->Prop):Prop :=
 ∃ (I1:(List (List Int))->(List (List Int))->Prop) (μ1:(List (List Int))->(List (List Int))->Nat),I1 ([[]]:List (List Int)) ([[]]:List (List Int))/\∀ (v115:List (List Int)) (v119:List (List Int)),I1 v115 v119 ->
 ((decide ((v119.length:Int) > 0))=true ->
 ∃ (I2:(List (List Int))->(List (List Int))->Int->Prop) (μ2:(List (List Int))->(List (List Int))->Int->Nat),I2 v115 [] 0/\∀ (v138:List (List Int)) (v143:List (List Int)) (v147:Int),I2 v138 v143 v147 ->
 ((decide (v147 < (v119.length:Int)))=true ->
 ∃ (I3:(List (List Int))->(List (List Int))->Int->Prop) (μ3:(List (List Int))->(List (List Int))->Int->Nat),I3 v138 v143 0/\∀ (v157:List (List Int)) (v162:List (List Int)) (v166:Int),I3 v157 v162 v166 ->
 ((decide (v166 < n_))=true ->
 ∃ (I4:(List (List Int))->(List (List Int))->Bool->Int->Prop) (μ4:(List (List Int))->(List (List Int))->Bool->Int->Nat),I4 v157 v162 false 0/\∀ (v221:List (List Int)) (v226:List (List Int)) (v230:Bool) (v231:Int),I4 v221 v226 v230 v231 ->
 ((0:Int)≤v147/\v147 < (v119.length:Int)) /\
 ∀ (_:sm (gi v119 v147)),
 ((decide (v231 < ((gi v119 v147).length:Int)))=true ->
 (v230=true ->
 VC28_J6 I4 μ4 v221 v226 v230 v231 v221 v226 true) /\
 (v230=false ->
 ((0:Int)≤v147/\v147 < (v119.length:Int)) /\
 ∀ (_:sm (gi v119 v147)),
 ((0:Int)≤v231/\v231 < ((gi v119 v147).length:Int)) /\
 VC28_J6 I4 μ4 v221 v226 v230 v231 v221 v226 ((gi (gi v119 v147) v231) == v166))) /\
 ((decide (v231 < ((gi v119 v147).length:Int)))=false ->
 VC28_J5 v119 v147 I3 μ3 v157 v162 v166 v221 v226 v230)) /\
 ((decide (v166 < n_))=false ->
 VC28_J3 I2 μ2 v138 v143 v147 v157 v162)) /\
 ((decide (v147 < (v119.length:Int)))=false ->
 VC28_J2 I1 μ1 v115 v119 v138 v143)) /\
 ((decide ((v119.length:Int) > 0))=false ->
 VC28_J1 Q v115)
def VC8_J1 (Q:((List (List ak)))->Prop) (v108:List (List ak)):Prop :=
 Q v108
def VC8_J2 (I1:(List (List ak))->Int->Prop) (μ1:(List (List ak))->Int->Nat) (v115:List (List ak)) (v120:Int) (v123:List (List ak)):Prop :=
 I1 v123 (IntKind.i64.wrap (v120+1))/\μ1 v123 (IntKind.i64.wrap (v120+1)) < μ1 v115 v120
def VC8_J3 (I1:(List (List ak))->Int->Prop) (μ1:(List (List ak))->Int->Nat) (v115:List (List ak)) (v120:Int) (b8:(List ak) × Int) (v145:List (List ak)) (v151:Bool):Prop :=
 (v151=true ->
 (v145.length+[b8.1].length≤1099511627776) /\
 VC8_J2 I1 μ1 v115 v120 (v145++[b8.1])) /\
 (v151=false ->
 VC8_J2 I1 μ1 v115 v120 v145)
def VC8 (o_:ah) (l_:List ae) (Q:(List (List ak))->Prop):Prop :=
 sm o_.Rows ->
 ∀ (_:sm l_),
 (Bo (l_.length:Int)) /\
 ∀ al,da (l_.length:Int)=al ->
 sm al ->
 ∃ (I1:(List (List ak))->Int->Prop) (μ1:(List (List ak))->Int->Nat),I1 [] 0/\∀ (v115:List (List ak)) (v120:Int),I1 v115 v120 ->
 ((decide (v120 < (al.length:Int)))=true ->
 ((0:Int)≤v120/\v120 < (al.length:Int)) /\
 ∀ (_:sm (gi al v120)),
 (Bn o_ l_ (gi al v120)) /\
 ∀ b8,cV o_ l_ (gi al v120)=b8 ->
 sm b8.1 ->
 ((b8.2 == 0)=true ->
 ∀ lb,dN o_ l_ b8.1=lb ->
 VC8_J3 I1 μ1 v115 v120 b8 v115 lb) /\
 ((b8.2 == 0)=false ->
 VC8_J3 I1 μ1 v115 v120 b8 v115 false)) /\
 ((decide (v120 < (al.length:Int)))=false ->
 VC8_J1 Q v115)
def VC3_J2 (Q:Bool->Prop) (cY:Int × Int) (cf:(List (List ak))):Prop :=
 (((decide (cY.1 > 0)) == (decide ((cf.length:Int) > 0)))=true ->
 ∀ qt,ji=qt ->
 Q qt) /\
 (((decide (cY.1 > 0)) == (decide ((cf.length:Int) > 0)))=false ->
 Q false)
def VC3_J1 (Q:Bool->Prop) (cY:Int × Int) (cf:(List (List ak))) (v136:List Bool):Prop :=
 ∃ (I1:(List Bool)->Int->Prop) (μ1:(List Bool)->Int->Nat),I1 v136 0/\∀ (v146:List Bool) (v150:Int),I1 v146 v150 ->
 ((decide (v150 < (v146.length:Int)))=true ->
 ((0:Int)≤v150/\v150 < (v146.length:Int)) /\
 ((!(gi v146 v150))=true ->
 Q false) /\
 ((!(gi v146 v150))=false ->
 I1 v146 (IntKind.i64.wrap (v150+1))/\μ1 v146 (IntKind.i64.wrap (v150+1)) < μ1 v146 v150)) /\
 ((decide (v150 < (v146.length:Int)))=false ->
 VC3_J2 Q cY cf)
def VC3_J3 (Q:Bool->Prop) (I2:(List Bool)->Int->Prop) (μ2:(List Bool)->Int->Nat) (v162:List Bool) (v166:Int) (v185:List Bool) (v189:Bool):Prop :=
 ((!v189)=true ->
 Q false) /\
 ((!v189)=false ->
 I2 v185 (IntKind.i64.wrap (v166+1))/\μ2 v185 (IntKind.i64.wrap (v166+1)) < μ2 v162 v166)
def VC3_J4 (I3:(List Bool)->Bool->Int->Prop) (μ3:(List Bool)->Bool->Int->Nat) (v194:List Bool) (v199:Bool) (v200:Int) (v205:List Bool) (v210:Bool):Prop :=
 I3 v205 v210 (IntKind.i64.wrap (v200+1))/\μ3 v205 v210 (IntKind.i64.wrap (v200+1)) < μ3 v194 v199 v200
def VC3 (o_:ah) (l_:List ae) (Q:Bool->Prop):Prop :=
 sm o_.Rows ->
 ∀ (_:sm l_),
 ∀ al,ke o_=al ->
 (((!al) || (decide ((l_.length:Int) > 3)))=true ->
 ∀ bu,ji=bu ->
 Q bu) /\
 (((!al) || (decide ((l_.length:Int) > 3)))=false ->
 (q9 o_ l_) /\
 ∀ aS,bg o_ l_=aS ->
 sm aS.1.ai ->
 ∀ cY,ff aS.1=cY ->
 (((aS.2 != 0) || (cY.2 != 0))=true ->
 ∀ bJ,ji=bJ ->
 Q bJ) /\
 (((aS.2 != 0) || (cY.2 != 0))=false ->
 (Bt o_ l_) /\
 ∀ cf,bM o_ l_=cf ->
 sm cf ->
 ((0:Int)≤(cf.length:Int)/\(cf.length:Int)≤(cf.length:Int)/\(cf.length:Int)≤1099511627776) /\
 ∃ (I2:(List Bool)->Int->Prop) (μ2:(List Bool)->Int->Nat),I2 (List.replicate (cf.length:Int).toNat (false:Bool)) 0/\∀ (v162:List Bool) (v166:Int),I2 v162 v166 ->
 ((decide (v166 < cY.1))=true ->
 ∀ kH,fk aS.1 v166=kH ->
 sm kH.1 ->
 (q8 o_ l_ kH.1) /\
 ∀ ig,bX o_ l_ kH.1=ig ->
 sm ig.1 ->
 (((!kH.2) || (ig.2 != 0))=true ->
 Q false) /\
 (((!kH.2) || (ig.2 != 0))=false ->
 ∃ (I3:(List Bool)->Bool->Int->Prop) (μ3:(List Bool)->Bool->Int->Nat),I3 v162 false 0/\∀ (v194:List Bool) (v199:Bool) (v200:Int),I3 v194 v199 v200 ->
 ((decide (v200 < (cf.length:Int)))=true ->
 ((0:Int)≤v200/\v200 < (cf.length:Int)) /\
 ∀ (_:sm (gi cf v200)),
 ∀ CR,gk (gi cf v200) ig.1=CR ->
 (CR=true ->
 ((0:Int)≤v200/\v200 < (v194.length:Int)) /\
 VC3_J4 I3 μ3 v194 v199 v200 (v194.set v200.toNat true) true) /\
 (CR=false ->
 VC3_J4 I3 μ3 v194 v199 v200 v194 v199)) /\
 ((decide (v200 < (cf.length:Int)))=false ->
 VC3_J3 Q I2 μ2 v162 v166 v194 v199))) /\
 ((decide (v166 < cY.1))=false ->
 VC3_J1 Q cY cf v162)))
end Go.Proofs.YtobeanopikjkeaaGreat
