/- Walks of the functions: each returns what its condition asks. -/
import Derived.Test.YteahldlmkheleaaGreatLVC
import Derived.Test.YteahldlmkheleaaGreatLReps
import Derived.Test.YteahldlmkheleaaGreatSk
import Derived.Test.YteahldlmkheleaaGreatLK
set_option linter.all false
namespace Go.Proofs.YteahldlmkheleaaGreat
open Go Go.Sv
abbrev cO (o:ao) (a:Option Addr) (c:Nat):List SV:=[I o.au,I o.aA,I o.aH,Sl a o.Rows c]
abbrev cR (o:bc):List SV:=[I o.State,I o.Kind,I o.Next,I o.Result]
abbrev cP (o:ab):List SV:=[I o.ah,I o.Kind,I o.aG,I o.End,I o.Result]
abbrev cE (o:aw):List SV:=[I o.bm,I o.ah,I o.N]
abbrev cK (o:aa):List SV:=[I o.Oper,I o.Result]
theorem bft (b:Bool):b=true∨b=false:=Bool.eq_false_or_eq_true b
abbrev wR (n:Int):Int:=IntKind.i64.wrap n
abbrev lN {α:Type} (l:List α):Int:=((l.length:Nat):Int)
def S21:Prop:=∀ w X (o_:ao) a1 c1,RS aB w X a1 o_.Rows c1->Ret Tryz.prog 21 #[.agg #[.int .i64 o_.au,.int .i64 o_.aA,.int .i64 o_.aH,.slice a1 o_.Rows.length c1]] aM w X (fun w X' v=>v=.bool (ig o_))
theorem hb21:aS Tryz.prog 21=true:=by kernel_rfl
def S81:Prop:=∀ w X (n_:Int) (top:Int),Ret Tryz.prog 81 #[.int .i64 n_,.int .i64 top] aM w X (fun w X' v=>v=.bool (b5 n_ top))
theorem hb81:aS Tryz.prog 81=true:=by kernel_rfl
def S107:Prop:=∀ w X (vals:List Int) a1 c1,RS tI w X a1 vals c1->Ret Tryz.prog 107 #[.slice a1 vals.length c1] aM w X (fun w X' v=>v=.int .i64 (gB vals))
theorem hb107:aS Tryz.prog 107=true:=by kernel_rfl
def S113:Prop:=∀ w X (x_:Int),Ret Tryz.prog 113 #[.int .i64 x_] aM w X (fun w X' v=>v=.bool (eY x_))
theorem hb113:aS Tryz.prog 113=true:=by kernel_rfl
def S108:Prop:=∀ w X (x_:Int) (y_:Int),Ret Tryz.prog 108 #[.int .i64 x_,.int .i64 y_] aM w X (fun w X' v=>v=.int .i64 (dq x_ y_))
theorem hb108:aS Tryz.prog 108=true:=by kernel_rfl
def S96:Prop:=∀ w X (a_:bc) (b_:bc),Ret Tryz.prog 96 #[.agg #[.int .i64 a_.State,.int .i64 a_.Kind,.int .i64 a_.Next,.int .i64 a_.Result],.agg #[.int .i64 b_.State,.int .i64 b_.Kind,.int .i64 b_.Next,.int .i64 b_.Result]] aM w X (fun w X' v=>v=.int .i64 (gx a_ b_))
theorem hb96:aS Tryz.prog 96=true:=by kernel_rfl
def S82:Prop:=∀ w X (o_:ao) (i_:Int) a1 c1,preRow o_ i_->RS aB w X a1 o_.Rows c1->Ret Tryz.prog 82 #[.agg #[.int .i64 o_.au,.int .i64 o_.aA,.int .i64 o_.aH,.slice a1 o_.Rows.length c1],.int .i64 i_] aM w X (fun w X' v=>v=.int .i64 (iC o_ i_))
theorem hb82:aS Tryz.prog 82=true:=by kernel_rfl
def S53:Prop:=∀ w X (o_:ao) a1 c1,kJ o_->RS aB w X a1 o_.Rows c1->Ret Tryz.prog 53 #[.agg #[.int .i64 o_.au,.int .i64 o_.aA,.int .i64 o_.aH,.slice a1 o_.Rows.length c1]] aM w X (fun w X' v=>v=.tuple #[.int .i64 ((bA o_).1),.int .i64 ((bA o_).2)])
theorem hb53:aS Tryz.prog 53=true:=by kernel_rfl
def S85:Prop:=∀ w X (o_:ao) (state:Int) a1 c1,yT o_ state->RS aB w X a1 o_.Rows c1->Ret Tryz.prog 85 #[.agg #[.int .i64 o_.au,.int .i64 o_.aA,.int .i64 o_.aH,.slice a1 o_.Rows.length c1],.int .i64 state] aM w X (fun w X' v=>v=.int .i64 (fY o_ state))
theorem hb85:aS Tryz.prog 85=true:=by kernel_rfl
def S86:Prop:=∀ w X (o_:ao) (l_:List ab) (state:Int) a1 c1 a2 c2 cM dU jD po pn,RS aB w X a1 o_.Rows c1->RS ar w X a2 l_ c2->Ret Tryz.prog 86 #[.agg #[.int .i64 o_.au,.int .i64 o_.aA,.int .i64 o_.aH,.slice a1 o_.Rows.length c1],.slice a2 l_.length c2,.int .i64 state] aM w X (fun w X' v=>∃ cQ cN Ia pK pJ vh Ih Ig Ie,v=.func (.func 97) #[] #[.pointer (some ⟨vh,0,none⟩),.pointer (some ⟨Ih,0,none⟩),.pointer (some ⟨Ig,0,none⟩),.pointer (some ⟨Ie,0,none⟩)]/\RS ar w X' cQ ((en o_ l_ state).1) cN/\RS aB w X' pK (((en o_ l_ state).2.2.1).Rows) pJ/\Cell w X' vh dU 42 [.slice cQ ((en o_ l_ state).1).length cN]/\Cell w X' Ih jD 113 [.map (some Ia)]/\OM kI tI false w X' cM Ia ((en o_ l_ state).2.1)/\Cell w X' Ig po 48 [.int .i64 (((en o_ l_ state).2.2.1).au),.int .i64 (((en o_ l_ state).2.2.1).aA),.int .i64 (((en o_ l_ state).2.2.1).aH),.slice pK (((en o_ l_ state).2.2.1).Rows).length pJ]/\Cell w X' Ie pn 3 [.int .i64 ((en o_ l_ state).2.2.2)])
theorem hb86:aS Tryz.prog 86=true:=by kernel_rfl
def S110:Prop:=∀ w X (r_:bc) (aq:Int) (ax:Int) b1 i1 b2 i2,Cell w X b1 i1 3 [.int .i64 aq]->Cell w X b2 i2 3 [.int .i64 ax]->dS [i1,i2]->Ret Tryz.prog 110 #[.agg #[.int .i64 r_.State,.int .i64 r_.Kind,.int .i64 r_.Next,.int .i64 r_.Result],.pointer (some ⟨b1,0,none⟩),.pointer (some ⟨b2,0,none⟩)] (pR [i1,i2]) w X (fun w X' v=>v=.bool (gJ r_ aq ax)/\Cell w X' b1 i1 3 [.int .i64 aq]/\Cell w X' b2 i2 3 [.int .i64 ax])
theorem hb110:aS Tryz.prog 110=true:=by kernel_rfl
def S111_110:Prop:=∀ w X (s_:List bc) (aq:Int) (ax:Int) a1 c1 b1 i1 b2 i2,RS aB w X a1 s_ c1->Cell w X b1 i1 3 [.int .i64 aq]->Cell w X b2 i2 3 [.int .i64 ax]->dS [i1,i2]->Ret Tryz.prog 111 #[.slice a1 s_.length c1,.func (.func 110) #[] #[.pointer (some ⟨b1,0,none⟩),.pointer (some ⟨b2,0,none⟩)]] (pR [i1,i2]) w X (fun w X' v=>v=.int .i64 (bl s_ aq ax)/\Cell w X' b1 i1 3 [.int .i64 aq]/\Cell w X' b2 i2 3 [.int .i64 ax])
theorem hb111:aS Tryz.prog 111=true:=by kernel_rfl
def S103:Prop:=∀ w X (o_:ao) (state:Int) (kind:Int) a1 c1,RS aB w X a1 o_.Rows c1->Ret Tryz.prog 103 #[.agg #[.int .i64 o_.au,.int .i64 o_.aA,.int .i64 o_.aH,.slice a1 o_.Rows.length c1],.int .i64 state,.int .i64 kind] aM w X (fun w X' v=>v=.tuple #[.int .i64 ((ct o_ state kind).1),.int .i64 ((ct o_ state kind).2.1),.bool ((ct o_ state kind).2.2)])
theorem hb103:aS Tryz.prog 103=true:=by kernel_rfl
def S109:Prop:=∀ w X (t_:im) (state:Int) (kind:Int) a1 c1,RS aB w X a1 t_.o.Rows c1->Ret Tryz.prog 109 #[.agg #[.int .i64 t_.o.au,.int .i64 t_.o.aA,.int .i64 t_.o.aH,.slice a1 t_.o.Rows.length c1],.int .i64 state,.int .i64 kind] aM w X (fun w X' v=>v=.tuple #[.int .i64 ((e6 t_ state kind).1),.int .i64 ((e6 t_ state kind).2.1),.bool ((e6 t_ state kind).2.2)])
theorem hb109:aS Tryz.prog 109=true:=by kernel_rfl
def S98:Prop:=∀ w X (o_:ao) (state:Int) (kind:Int) (result:Int) a1 c1,RS aB w X a1 o_.Rows c1->Ret Tryz.prog 98 #[.agg #[.int .i64 o_.au,.int .i64 o_.aA,.int .i64 o_.aH,.slice a1 o_.Rows.length c1],.int .i64 state,.int .i64 kind,.int .i64 result] aM w X (fun w X' v=>v=.tuple #[.int .i64 ((iU o_ state kind result).1),.int .i64 ((iU o_ state kind result).2)])
theorem hb98:aS Tryz.prog 98=true:=by kernel_rfl
def S97:Prop:=∀ w X (p_:aa) (aq:List ab) (ax:List (Int × Int)) (aP:ao) (bF:Int) a1 c1 r2 m2 a3 c3 b1 i1 b2 i2 b3 i3 b4 i4,RS ar w X a1 aq c1->OM kI tI false w X m2 r2 ax->RS aB w X a3 aP.Rows c3->Cell w X b1 i1 42 [.slice a1 aq.length c1]->Cell w X b2 i2 113 [.map (some r2)]->Cell w X b3 i3 48 [.int .i64 aP.au,.int .i64 aP.aA,.int .i64 aP.aH,.slice a3 aP.Rows.length c3]->Cell w X b4 i4 3 [.int .i64 bF]->dS [i1,i2,i3,i4,m2]->Ret Tryz.prog 97 #[.agg #[.int .i64 p_.Oper,.int .i64 p_.Result],.pointer (some ⟨b1,0,none⟩),.pointer (some ⟨b2,0,none⟩),.pointer (some ⟨b3,0,none⟩),.pointer (some ⟨b4,0,none⟩)] (pR [i1,i2,i3,i4,m2]) w X (fun w X' v=>v=.tuple #[.int .i64 ((dh p_ aq ax aP bF).1),.int .i64 ((dh p_ aq ax aP bF).2.1)]/\Cell w X' b1 i1 42 [.slice a1 aq.length c1]/\Cell w X' b2 i2 113 [.map (some r2)]/\OM kI tI false w X' m2 r2 ((dh p_ aq ax aP bF).2.2.1)/\Cell w X' b3 i3 48 [.int .i64 aP.au,.int .i64 aP.aA,.int .i64 aP.aH,.slice a3 aP.Rows.length c3]/\Cell w X' b4 i4 3 [.int .i64 ((dh p_ aq ax aP bF).2.2.2)])
theorem hb97:aS Tryz.prog 97=true:=by kernel_rfl
def S62:Prop:=∀ w X (o_:ao) (l_:List ab) (state:Int) (aj:List aa) a1 c1 a2 c2 a3 c3,yS o_ l_ state aj->RS aB w X a1 o_.Rows c1->RS ar w X a2 l_ c2->RS av w X a3 aj c3->Ret Tryz.prog 62 #[.agg #[.int .i64 o_.au,.int .i64 o_.aA,.int .i64 o_.aH,.slice a1 o_.Rows.length c1],.slice a2 l_.length c2,.int .i64 state,.slice a3 aj.length c3] aM w X (fun w X' v=>v=.tuple #[.int .i64 ((jr o_ l_ state aj).1),.int .i64 ((jr o_ l_ state aj).2.1),.int .i64 ((jr o_ l_ state aj).2.2)])
theorem hb62:aS Tryz.prog 62=true:=by kernel_rfl
def S33:Prop:=∀ w X (o_:ao) (l_:List ab) (aj:List aa) a1 c1 a2 c2 a3 c3,kS o_ l_ aj->RS aB w X a1 o_.Rows c1->RS ar w X a2 l_ c2->RS av w X a3 aj c3->Ret Tryz.prog 33 #[.agg #[.int .i64 o_.au,.int .i64 o_.aA,.int .i64 o_.aH,.slice a1 o_.Rows.length c1],.slice a2 l_.length c2,.slice a3 aj.length c3] aM w X (fun w X' v=>v=.tuple #[.int .i64 ((cd o_ l_ aj).1),.int .i64 ((cd o_ l_ aj).2.1),.int .i64 ((cd o_ l_ aj).2.2)])
theorem hb33:aS Tryz.prog 33=true:=by kernel_rfl
def S87:Prop:=∀ w X (aj:List aa) a1 c1 cM dU,RS av w X a1 aj c1->Ret Tryz.prog 87 #[.slice a1 aj.length c1] aM w X (fun w X' v=>∃ Ib vh,v=.func (.func 99) #[] #[.pointer (some ⟨vh,0,none⟩)]/\Cell w X' vh dU 113 [.map (some Ib)]/\OM kI tI false w X' cM Ib (fx aj))
theorem hb87:aS Tryz.prog 87=true:=by kernel_rfl
def S99:Prop:=∀ w X (i_:Int) (aq:List (Int × Int)) r1 m1 b1 i1,OM kI tI false w X m1 r1 aq->Cell w X b1 i1 113 [.map (some r1)]->dS [i1,m1]->Ret Tryz.prog 99 #[.int .i64 i_,.pointer (some ⟨b1,0,none⟩)] (pR [i1,m1]) w X (fun w X' v=>v=.bool (fw i_ aq)/\Cell w X' b1 i1 113 [.map (some r1)]/\OM kI tI false w X' m1 r1 aq)
theorem hb99:aS Tryz.prog 99=true:=by kernel_rfl
def S64:Prop:=∀ w X (l_:List ab) (aj:List aa) (pending:Bool) a1 c1 a2 c2,vu l_ aj pending->RS ar w X a1 l_ c1->RS av w X a2 aj c2->Ret Tryz.prog 64 #[.slice a1 l_.length c1,.slice a2 aj.length c2,.bool pending] aM w X (fun w X' v=>∃ cQ cN,v=.slice cQ (ec l_ aj pending).length cN/\RS tI w X' cQ (ec l_ aj pending) cN)
theorem hb64:aS Tryz.prog 64=true:=by kernel_rfl
def S35:Prop:=∀ w X (l_:List ab) (aj:List aa) a1 c1 a2 c2,qH l_ aj->RS ar w X a1 l_ c1->RS av w X a2 aj c2->Ret Tryz.prog 35 #[.slice a1 l_.length c1,.slice a2 aj.length c2] aM w X (fun w X' v=>∃ cQ cN,v=.slice cQ (b8 l_ aj).length cN/\RS tI w X' cQ (b8 l_ aj) cN)
theorem hb35:aS Tryz.prog 35=true:=by kernel_rfl
def S63:Prop:=∀ w X (a_:ab) (b_:ab),Ret Tryz.prog 63 #[.agg #[.int .i64 a_.ah,.int .i64 a_.Kind,.int .i64 a_.aG,.int .i64 a_.End,.int .i64 a_.Result],.agg #[.int .i64 b_.ah,.int .i64 b_.Kind,.int .i64 b_.aG,.int .i64 b_.End,.int .i64 b_.Result]] aM w X (fun w X' v=>v=.bool (bf a_ b_))
theorem hb63:aS Tryz.prog 63=true:=by kernel_rfl
def S34:Prop:=∀ w X (l_:List ab) (aj:List aa) a1 c1 a2 c2,RS ar w X a1 l_ c1->RS av w X a2 aj c2->Ret Tryz.prog 34 #[.slice a1 l_.length c1,.slice a2 aj.length c2] aM w X (fun w X' v=>v=.int .i64 (cB l_ aj))
theorem hb34:aS Tryz.prog 34=true:=by kernel_rfl
def S106:Prop:=∀ w X (o_:ab),Ret Tryz.prog 106 #[.agg #[.int .i64 o_.ah,.int .i64 o_.Kind,.int .i64 o_.aG,.int .i64 o_.End,.int .i64 o_.Result]] aM w X (fun w X' v=>v=.bool (eu o_))
theorem hb106:aS Tryz.prog 106=true:=by kernel_rfl
def S95:Prop:=∀ w X (o_:ab),Ret Tryz.prog 95 #[.agg #[.int .i64 o_.ah,.int .i64 o_.Kind,.int .i64 o_.aG,.int .i64 o_.End,.int .i64 o_.Result]] aM w X (fun w X' v=>v=.int .i64 (dk o_))
theorem hb95:aS Tryz.prog 95=true:=by kernel_rfl
def S80:Prop:=∀ w X (l_:List ab) a1 c1,RS ar w X a1 l_ c1->Ret Tryz.prog 80 #[.slice a1 l_.length c1] aM w X (fun w X' v=>v=.tuple #[.int .i64 ((cn l_).1),.int .i64 ((cn l_).2)])
theorem hb80:aS Tryz.prog 80=true:=by kernel_rfl
def S51:Prop:=∀ w X (o_:ao) (l_:List ab) (aj:List aa) a1 c1 a2 c2 a3 c3,kS o_ l_ aj->RS aB w X a1 o_.Rows c1->RS ar w X a2 l_ c2->RS av w X a3 aj c3->Ret Tryz.prog 51 #[.agg #[.int .i64 o_.au,.int .i64 o_.aA,.int .i64 o_.aH,.slice a1 o_.Rows.length c1],.slice a2 l_.length c2,.slice a3 aj.length c3] aM w X (fun w X' v=>v=.tuple #[.int .i64 ((eU o_ l_ aj).1),.int .i64 ((eU o_ l_ aj).2)])
theorem hb51:aS Tryz.prog 51=true:=by kernel_rfl
def S20:Prop:=∀ w X (o_:ao) (l_:List ab) (aj:List aa) a1 c1 a2 c2 a3 c3,kS o_ l_ aj->RS aB w X a1 o_.Rows c1->RS ar w X a2 l_ c2->RS av w X a3 aj c3->Ret Tryz.prog 20 #[.agg #[.int .i64 o_.au,.int .i64 o_.aA,.int .i64 o_.aH,.slice a1 o_.Rows.length c1],.slice a2 l_.length c2,.slice a3 aj.length c3] aM w X (fun w X' v=>v=.bool (de o_ l_ aj))
theorem hb20:aS Tryz.prog 20=true:=by kernel_rfl
def S66:Prop:=∀ w X (aj:List aa) (i_:Int) a1 c1,RS av w X a1 aj c1->Ret Tryz.prog 66 #[.slice a1 aj.length c1,.int .i64 i_] aM w X (fun w X' v=>v=.int .i64 (cl aj i_))
theorem hb66:aS Tryz.prog 66=true:=by kernel_rfl
def S68:Prop:=∀ w X (o_:ao) (state:Int) (kind:Int) a1 c1,RS aB w X a1 o_.Rows c1->Ret Tryz.prog 68 #[.agg #[.int .i64 o_.au,.int .i64 o_.aA,.int .i64 o_.aH,.slice a1 o_.Rows.length c1],.int .i64 state,.int .i64 kind] aM w X (fun w X' v=>v=.tuple #[.int .i64 ((cC o_ state kind).1),.int .i64 ((cC o_ state kind).2.1),.bool ((cC o_ state kind).2.2)])
theorem hb68:aS Tryz.prog 68=true:=by kernel_rfl
def S65:Prop:=∀ w X (o_:ao) (state:Int) (kind:Int) (result:Int) a1 c1,RS aB w X a1 o_.Rows c1->Ret Tryz.prog 65 #[.agg #[.int .i64 o_.au,.int .i64 o_.aA,.int .i64 o_.aH,.slice a1 o_.Rows.length c1],.int .i64 state,.int .i64 kind,.int .i64 result] aM w X (fun w X' v=>v=.tuple #[.int .i64 ((dj o_ state kind result).1),.int .i64 ((dj o_ state kind result).2)])
theorem hb65:aS Tryz.prog 65=true:=by kernel_rfl
def S58:Prop:=∀ w X (o_:ao) a1 c1,RS aB w X a1 o_.Rows c1->Ret Tryz.prog 58 #[.agg #[.int .i64 o_.au,.int .i64 o_.aA,.int .i64 o_.aH,.slice a1 o_.Rows.length c1]] aM w X (fun w X' v=>v=.tuple #[.int .i64 ((cU o_).1),.int .i64 ((cU o_).2)])
theorem hb58:aS Tryz.prog 58=true:=by kernel_rfl
def S36:Prop:=∀ w X (o_:ao) (l_:List ab) (state:Int) (aj:List aa) a1 c1 a2 c2 a3 c3,RS aB w X a1 o_.Rows c1->RS ar w X a2 l_ c2->RS av w X a3 aj c3->Ret Tryz.prog 36 #[.agg #[.int .i64 o_.au,.int .i64 o_.aA,.int .i64 o_.aH,.slice a1 o_.Rows.length c1],.slice a2 l_.length c2,.int .i64 state,.slice a3 aj.length c3] aM w X (fun w X' v=>v=.tuple #[.int .i64 ((cW o_ l_ state aj).1),.int .i64 ((cW o_ l_ state aj).2.1),.int .i64 ((cW o_ l_ state aj).2.2)])
theorem hb36:aS Tryz.prog 36=true:=by kernel_rfl
def S67:Prop:=∀ w X (a_:ab) (b_:ab),Ret Tryz.prog 67 #[.agg #[.int .i64 a_.ah,.int .i64 a_.Kind,.int .i64 a_.aG,.int .i64 a_.End,.int .i64 a_.Result],.agg #[.int .i64 b_.ah,.int .i64 b_.Kind,.int .i64 b_.aG,.int .i64 b_.End,.int .i64 b_.Result]] aM w X (fun w X' v=>v=.bool (js a_ b_))
theorem hb67:aS Tryz.prog 67=true:=by kernel_rfl
def S37:Prop:=∀ w X (l_:List ab) (aj:List aa) a1 c1 a2 c2,RS ar w X a1 l_ c1->RS av w X a2 aj c2->Ret Tryz.prog 37 #[.slice a1 l_.length c1,.slice a2 aj.length c2] aM w X (fun w X' v=>v=.int .i64 (eG l_ aj))
theorem hb37:aS Tryz.prog 37=true:=by kernel_rfl
def S38:Prop:=∀ w X (l_:List ab) (aj:List aa) (pending:Bool) a1 c1 a2 c2,sC l_ aj pending->RS ar w X a1 l_ c1->RS av w X a2 aj c2->Ret Tryz.prog 38 #[.slice a1 l_.length c1,.slice a2 aj.length c2,.bool pending] aM w X (fun w X' v=>∃ cQ cN,v=.slice cQ (eW l_ aj pending).length cN/\RS tI w X' cQ (eW l_ aj pending) cN)
theorem hb38:aS Tryz.prog 38=true:=by kernel_rfl
def S114:Prop:=∀ w X (i_:Int) (aq:List Bool) a1 c1 b1 i1,vw i_ aq->RS dJ w X a1 aq c1->Cell w X b1 i1 158 [.slice a1 aq.length c1]->dS [i1]->Ret Tryz.prog 114 #[.int .i64 i_,.pointer (some ⟨b1,0,none⟩)] (pR [i1]) w X (fun w X' v=>v=.bool (fq i_ aq)/\Cell w X' b1 i1 158 [.slice a1 aq.length c1])
theorem hb114:aS Tryz.prog 114=true:=by kernel_rfl
def S112:Prop:=∀ w X (l_:List ab) (done:List Bool) a1 c1 a2 c2,yY l_ done->RS ar w X a1 l_ c1->RS dJ w X a2 done c2->Ret Tryz.prog 112 #[.slice a1 l_.length c1,.slice a2 done.length c2] aM w X (fun w X' v=>∃ cQ cN,v=.slice cQ (fb l_ done).length cN/\RS tI w X' cQ (fb l_ done) cN)
theorem hb112:aS Tryz.prog 112=true:=by kernel_rfl
def S105:Prop:=∀ w X (o_:ao) (l_:List ab) (state:Int) (done:List Bool) a1 c1 a2 c2 a3 c3 cM,yU o_ l_ state done->RS aB w X a1 o_.Rows c1->RS ar w X a2 l_ c2->RS dJ w X a3 done c3->Ret Tryz.prog 105 #[.agg #[.int .i64 o_.au,.int .i64 o_.aA,.int .i64 o_.aH,.slice a1 o_.Rows.length c1],.slice a2 l_.length c2,.int .i64 state,.slice a3 done.length c3] aM w X (fun w X' v=>∃ cQ cN,v=.slice cQ (bL o_ l_ state done).length cN/\OS av 56 w X' cM cQ (bL o_ l_ state done) cN)
theorem hb105:aS Tryz.prog 105=true:=by kernel_rfl
def S88:Prop:=∀ w X (o_:ao) (l_:List ab) (jO:Int) a1 c1 a2 c2,za o_ l_ jO->RS aB w X a1 o_.Rows c1->RS ar w X a2 l_ c2->Ret Tryz.prog 88 #[.agg #[.int .i64 o_.au,.int .i64 o_.aA,.int .i64 o_.aH,.slice a1 o_.Rows.length c1],.slice a2 l_.length c2,.int .i64 jO] aM w X (fun w X' v=>v=.int .i64 (cx o_ l_ jO))
theorem hb88:aS Tryz.prog 88=true:=by kernel_rfl
def S104:Prop:=∀ w X (s_:List aa) a1 c1 cM,yZ s_->RS av w X a1 s_ c1->Ret Tryz.prog 104 #[.slice a1 s_.length c1] aM w X (fun w X' v=>∃ cQ cN,v=.slice cQ (b6 s_).length cN/\OS av 56 w X' cM cQ (b6 s_) cN)
theorem hb104:aS Tryz.prog 104=true:=by kernel_rfl
def S101:Prop:=∀ w X (state:Int) (aq:a8) a1 c1 a2 c2 a3 c3 r4 m4 b1 i1,RS aB w X a1 aq.o.Rows c1->RS ar w X a2 aq.l c2->RS dJ w X a3 aq.done c3->OMS aU tI false w X m4 r4 aq.failed->Cell w X b1 i1 161 [.int .i64 aq.o.au,.int .i64 aq.o.aA,.int .i64 aq.o.aH,.slice a1 aq.o.Rows.length c1,.slice a2 aq.l.length c2,.slice a3 aq.done.length c3,.map (some r4)]->dS [i1,m4]->Ret Tryz.prog 101 #[.pointer (some ⟨b1,0,none⟩),.int .i64 state] (pR [i1,m4]) w X (fun w X' v=>v=.agg #[.int .u32 ((dD state aq).done),.int .i64 ((dD state aq).state)]/\Cell w X' b1 i1 161 [.int .i64 aq.o.au,.int .i64 aq.o.aA,.int .i64 aq.o.aH,.slice a1 aq.o.Rows.length c1,.slice a2 aq.l.length c2,.slice a3 aq.done.length c3,.map (some r4)]/\OMS aU tI false w X' m4 r4 aq.failed)
theorem hb101:aS Tryz.prog 101=true:=by kernel_rfl
def S100:Prop:=∀ w X (aq:a8) a1 c1 a2 c2 a3 c3 r4 m4 b1 i1,yJ aq->RS aB w X a1 aq.o.Rows c1->RS ar w X a2 aq.l c2->RS dJ w X a3 aq.done c3->OMS aU tI false w X m4 r4 aq.failed->Cell w X b1 i1 161 [.int .i64 aq.o.au,.int .i64 aq.o.aA,.int .i64 aq.o.aH,.slice a1 aq.o.Rows.length c1,.slice a2 aq.l.length c2,.slice a3 aq.done.length c3,.map (some r4)]->dS [i1,m4]->Ret Tryz.prog 100 #[.pointer (some ⟨b1,0,none⟩)] (pR [i1,m4]) w X (fun w X' v=>v=.bool (dP aq)/\Cell w X' b1 i1 161 [.int .i64 aq.o.au,.int .i64 aq.o.aA,.int .i64 aq.o.aH,.slice a1 aq.o.Rows.length c1,.slice a2 aq.l.length c2,.slice a3 aq.done.length c3,.map (some r4)]/\OMS aU tI false w X' m4 r4 aq.failed)
theorem hb100:aS Tryz.prog 100=true:=by kernel_rfl
def S102N (N:Nat):Prop:=∀ w X (p_:aa) (ax:a8) (aP:Int) (bF:List aa) a1 c1 a2 c2 a3 c3 m3 r4 m4 a5 c5 cM b1 i1 b2 i2 b3 i3 b4 i4,yK p_ ax aP bF->Cc p_ ax aP bF < N->RS aB w X a1 ax.o.Rows c1->RS ar w X a2 ax.l c2->OS dJ 4 w X m3 a3 ax.done c3->OMS aU tI false w X m4 r4 ax.failed->RS av w X a5 bF c5->Cell w X b1 i1 147 [.pointer (some ⟨b2,0,none⟩)]->Cell w X b2 i2 161 [.int .i64 ax.o.au,.int .i64 ax.o.aA,.int .i64 ax.o.aH,.slice a1 ax.o.Rows.length c1,.slice a2 ax.l.length c2,.slice a3 ax.done.length c3,.map (some r4)]->Cell w X b3 i3 3 [.int .i64 aP]->Cell w X b4 i4 26 [.slice a5 bF.length c5]->dS [i1,i2,i3,i4,m3,m4]->Ret Tryz.prog 102 #[.agg #[.int .i64 p_.Oper,.int .i64 p_.Result],.pointer (some ⟨b1,0,none⟩),.pointer (some ⟨b3,0,none⟩),.pointer (some ⟨b4,0,none⟩)] (pR [i1,i2,i3,i4,m3,m4]) w X (fun w X' v=>∃ cQ cN jg jf pK pJ yH yG,v=.tuple #[.slice cQ ((bk p_ ax aP bF).1).length cN,.bool ((bk p_ ax aP bF).2.1)]/\OS av 56 w X' cM cQ ((bk p_ ax aP bF).1) cN/\RS aB w X' jg ((((bk p_ ax aP bF).2.2).o).Rows) jf/\RS ar w X' pK (((bk p_ ax aP bF).2.2).l) pJ/\OS dJ 4 w X' m3 yH (((bk p_ ax aP bF).2.2).done) yG/\Cell w X' b1 i1 147 [.pointer (some ⟨b2,0,none⟩)]/\Cell w X' b2 i2 161 [.int .i64 ((((bk p_ ax aP bF).2.2).o).au),.int .i64 ((((bk p_ ax aP bF).2.2).o).aA),.int .i64 ((((bk p_ ax aP bF).2.2).o).aH),.slice jg ((((bk p_ ax aP bF).2.2).o).Rows).length jf,.slice pK (((bk p_ ax aP bF).2.2).l).length pJ,.slice yH (((bk p_ ax aP bF).2.2).done).length yG,.map (some r4)]/\OMS aU tI false w X' m4 r4 (((bk p_ ax aP bF).2.2).failed)/\Cell w X' b3 i3 3 [.int .i64 aP]/\Cell w X' b4 i4 26 [.slice a5 bF.length c5])theorem hb102:aS Tryz.prog 102=true:=by kernel_rfl
def S90:Prop:=∀ w X (state:Int) (so:List aa) (aq:a8) a1 c1 m1 a2 c2 a3 c3 a4 c4 m4 r5 m5 b1 i1,sG state so aq->OS av 56 w X m1 a1 so c1->RS aB w X a2 aq.o.Rows c2->RS ar w X a3 aq.l c3->OS dJ 4 w X m4 a4 aq.done c4->OMS aU tI false w X m5 r5 aq.failed->Cell w X b1 i1 161 [.int .i64 aq.o.au,.int .i64 aq.o.aA,.int .i64 aq.o.aH,.slice a2 aq.o.Rows.length c2,.slice a3 aq.l.length c3,.slice a4 aq.done.length c4,.map (some r5)]->dS [i1,m1,m4,m5]->Ret Tryz.prog 90 #[.pointer (some ⟨b1,0,none⟩),.int .i64 state,.slice a1 so.length c1] (pR [i1,m1,m4,m5]) w X (fun w X' v=>∃ cQ cN jg jf pK pJ yH yG,v=.tuple #[.slice cQ ((aJ state so aq).1).length cN,.bool ((aJ state so aq).2.1)]/\OS av 56 w X' m1 cQ ((aJ state so aq).1) cN/\RS aB w X' jg ((((aJ state so aq).2.2).o).Rows) jf/\RS ar w X' pK (((aJ state so aq).2.2).l) pJ/\OS dJ 4 w X' m4 yH (((aJ state so aq).2.2).done) yG/\Cell w X' b1 i1 161 [.int .i64 ((((aJ state so aq).2.2).o).au),.int .i64 ((((aJ state so aq).2.2).o).aA),.int .i64 ((((aJ state so aq).2.2).o).aH),.slice jg ((((aJ state so aq).2.2).o).Rows).length jf,.slice pK (((aJ state so aq).2.2).l).length pJ,.slice yH (((aJ state so aq).2.2).done).length yG,.map (some r5)]/\OMS aU tI false w X' m5 r5 (((aJ state so aq).2.2).failed))
def S90N (N:Nat):Prop:=∀ w X (state:Int) (so:List aa) (aq:a8) a1 c1 m1 a2 c2 a3 c3 a4 c4 m4 r5 m5 b1 i1,sG state so aq->pa state so aq < N->OS av 56 w X m1 a1 so c1->RS aB w X a2 aq.o.Rows c2->RS ar w X a3 aq.l c3->OS dJ 4 w X m4 a4 aq.done c4->OMS aU tI false w X m5 r5 aq.failed->Cell w X b1 i1 161 [.int .i64 aq.o.au,.int .i64 aq.o.aA,.int .i64 aq.o.aH,.slice a2 aq.o.Rows.length c2,.slice a3 aq.l.length c3,.slice a4 aq.done.length c4,.map (some r5)]->dS [i1,m1,m4,m5]->Ret Tryz.prog 90 #[.pointer (some ⟨b1,0,none⟩),.int .i64 state,.slice a1 so.length c1] (pR [i1,m1,m4,m5]) w X (fun w X' v=>∃ cQ cN jg jf pK pJ yH yG,v=.tuple #[.slice cQ ((aJ state so aq).1).length cN,.bool ((aJ state so aq).2.1)]/\OS av 56 w X' m1 cQ ((aJ state so aq).1) cN/\RS aB w X' jg ((((aJ state so aq).2.2).o).Rows) jf/\RS ar w X' pK (((aJ state so aq).2.2).l) pJ/\OS dJ 4 w X' m4 yH (((aJ state so aq).2.2).done) yG/\Cell w X' b1 i1 161 [.int .i64 ((((aJ state so aq).2.2).o).au),.int .i64 ((((aJ state so aq).2.2).o).aA),.int .i64 ((((aJ state so aq).2.2).o).aH),.slice jg ((((aJ state so aq).2.2).o).Rows).length jf,.slice pK (((aJ state so aq).2.2).l).length pJ,.slice yH (((aJ state so aq).2.2).done).length yG,.map (some r5)]/\OMS aU tI false w X' m5 r5 (((aJ state so aq).2.2).failed))theorem hb90:aS Tryz.prog 90=true:=by kernel_rfl
def S89:Prop:=∀ w X (o_:ao) (l_:List ab) a1 c1 a2 c2 cM dU jD,zc o_ l_->RS aB w X a1 o_.Rows c1->RS ar w X a2 l_ c2->Ret Tryz.prog 89 #[.agg #[.int .i64 o_.au,.int .i64 o_.aA,.int .i64 o_.aH,.slice a1 o_.Rows.length c1],.slice a2 l_.length c2] aM w X (fun w X' v=>∃ cQ cN jg jf pK pJ H9 vh,v=.pointer (some ⟨vh,0,none⟩)/\RS aB w X' cQ (((bH o_ l_).o).Rows) cN/\RS ar w X' jg ((bH o_ l_).l) jf/\OS dJ 4 w X' cM pK ((bH o_ l_).done) pJ/\Cell w X' vh jD 161 [.int .i64 (((bH o_ l_).o).au),.int .i64 (((bH o_ l_).o).aA),.int .i64 (((bH o_ l_).o).aH),.slice cQ (((bH o_ l_).o).Rows).length cN,.slice jg ((bH o_ l_).l).length jf,.slice pK ((bH o_ l_).done).length pJ,.map (some H9)]/\OMS aU tI false w X' dU H9 ((bH o_ l_).failed))
theorem hb89:aS Tryz.prog 89=true:=by kernel_rfl
def S70:Prop:=∀ w X (o_:ao) (l_:List ab) a1 c1 a2 c2 cM,yL o_ l_->RS aB w X a1 o_.Rows c1->RS ar w X a2 l_ c2->Ret Tryz.prog 70 #[.agg #[.int .i64 o_.au,.int .i64 o_.aA,.int .i64 o_.aH,.slice a1 o_.Rows.length c1],.slice a2 l_.length c2] aM w X (fun w X' v=>∃ cQ cN,v=.tuple #[.slice cQ ((bn o_ l_).1).length cN,.int .i64 ((bn o_ l_).2)]/\OS av 56 w X' cM cQ ((bn o_ l_).1) cN)
theorem hb70:aS Tryz.prog 70=true:=by kernel_rfl
def S84:Prop:=∀ w X (x_:aw),Ret Tryz.prog 84 #[.agg #[.int .i64 x_.bm,.int .i64 x_.ah,.int .i64 x_.N]] aM w X (fun w X' v=>v=.int .i64 (gu x_))
theorem hb84:aS Tryz.prog 84=true:=by kernel_rfl
def S55:Prop:=∀ w X (l_:List aw) a1 c1,RS aR w X a1 l_ c1->Ret Tryz.prog 55 #[.slice a1 l_.length c1] aM w X (fun w X' v=>v=.tuple #[.int .i64 ((bE l_).1),.int .i64 ((bE l_).2)])
theorem hb55:aS Tryz.prog 55=true:=by kernel_rfl
def S94:Prop:=∀ w X (l_:List aw) (process:Int) a1 c1,RS aR w X a1 l_ c1->Ret Tryz.prog 94 #[.slice a1 l_.length c1,.int .i64 process] aM w X (fun w X' v=>v=.int .i64 (iB l_ process))
theorem hb94:aS Tryz.prog 94=true:=by kernel_rfl
def S79:Prop:=∀ w X (l_:List aw) (process:Int) a1 c1,RS aR w X a1 l_ c1->Ret Tryz.prog 79 #[.slice a1 l_.length c1,.int .i64 process] aM w X (fun w X' v=>v=.bool (fA l_ process))
theorem hb79:aS Tryz.prog 79=true:=by kernel_rfl
def S50:Prop:=∀ w X (l_:List aw) a1 c1,RS aR w X a1 l_ c1->Ret Tryz.prog 50 #[.slice a1 l_.length c1] aM w X (fun w X' v=>v=.tuple #[.int .i64 ((e7 l_).1),.int .i64 ((e7 l_).2)])
theorem hb50:aS Tryz.prog 50=true:=by kernel_rfl
def S57:Prop:=∀ w X (a_:List bc) (b_:List bc) a1 c1 a2 c2,RS aB w X a1 a_ c1->RS aB w X a2 b_ c2->Ret Tryz.prog 57 #[.slice a1 a_.length c1,.slice a2 b_.length c2] aM w X (fun w X' v=>v=.bool (ep a_ b_))
theorem hb57:aS Tryz.prog 57=true:=by kernel_rfl
def S26:Prop:=∀ w X (a_:ao) (b_:ao) a1 c1 a2 c2,RS aB w X a1 a_.Rows c1->RS aB w X a2 b_.Rows c2->Ret Tryz.prog 26 #[.agg #[.int .i64 a_.au,.int .i64 a_.aA,.int .i64 a_.aH,.slice a1 a_.Rows.length c1],.agg #[.int .i64 b_.au,.int .i64 b_.aA,.int .i64 b_.aH,.slice a2 b_.Rows.length c2]] aM w X (fun w X' v=>v=.bool (ji a_ b_))
theorem hb26:aS Tryz.prog 26=true:=by kernel_rfl
def S56:Prop:=∀ w X (l_:List aw) a1 c1,RS aR w X a1 l_ c1->Ret Tryz.prog 56 #[.slice a1 l_.length c1] aM w X (fun w X' v=>∃ cQ cN,v=.tuple #[.slice cQ ((gT l_).1).length cN,.int .i64 ((gT l_).2)]/\RS ar w X' cQ ((gT l_).1) cN)
theorem hb56:aS Tryz.prog 56=true:=by kernel_rfl
def S18:Prop:=∀ w X (l_:List aw) a1 c1,RS aR w X a1 l_ c1->Ret Tryz.prog 18 #[.slice a1 l_.length c1] aM w X (fun w X' v=>∃ cQ cN,v=.tuple #[.slice cQ ((gD l_).1).length cN,.int .i64 ((gD l_).2)]/\RS ar w X' cQ ((gD l_).1) cN)
theorem hb18:aS Tryz.prog 18=true:=by kernel_rfl
def S25:Prop:=∀ w X (a_:List Int) (b_:List Int) a1 c1 a2 c2,RS tI w X a1 a_ c1->RS tI w X a2 b_ c2->Ret Tryz.prog 25 #[.slice a1 a_.length c1,.slice a2 b_.length c2] aM w X (fun w X' v=>v=.bool (e8 a_ b_))
theorem hb25:aS Tryz.prog 25=true:=by kernel_rfl
def S92:Prop:=∀ w X (s_:List Int) (v_:Int) a1 c1,RS tI w X a1 s_ c1->Ret Tryz.prog 92 #[.slice a1 s_.length c1,.int .i64 v_] aM w X (fun w X' v=>v=.int .i64 (dX s_ v_))
theorem hb92:aS Tryz.prog 92=true:=by kernel_rfl
def S77:Prop:=∀ w X (s_:List Int) (v_:Int) a1 c1,RS tI w X a1 s_ c1->Ret Tryz.prog 77 #[.slice a1 s_.length c1,.int .i64 v_] aM w X (fun w X' v=>v=.bool (cw s_ v_))
theorem hb77:aS Tryz.prog 77=true:=by kernel_rfl
def S49:Prop:=∀ w X (s_:List bc) a1 c1,zb s_->RS aB w X a1 s_ c1->Ret Tryz.prog 49 #[.slice a1 s_.length c1] aM w X (fun w X' v=>∃ cQ cN,v=.slice cQ (c8 s_).length cN/\RS aB w X' cQ (c8 s_) cN)
theorem hb49:aS Tryz.prog 49=true:=by kernel_rfl
def S76:Prop:=∀ w X (p_:Int × Int) (n_:Int),Ret Tryz.prog 76 #[.agg #[.int .i64 p_.1,.int .i64 p_.2],.int .i64 n_] aM w X (fun w X' v=>v=.bool (dT p_ n_))
theorem hb76:aS Tryz.prog 76=true:=by kernel_rfl
def S75:Prop:=∀ w X (p_:Int × Int) (aq:Int) (ax:Int) (aP:List Int) a1 c1 b1 i1 b2 i2 b3 i3,RS tI w X a1 aP c1->Cell w X b1 i1 3 [.int .i64 aq]->Cell w X b2 i2 3 [.int .i64 ax]->Cell w X b3 i3 43 [.slice a1 aP.length c1]->dS [i1,i2,i3]->Ret Tryz.prog 75 #[.agg #[.int .i64 p_.1,.int .i64 p_.2],.pointer (some ⟨b1,0,none⟩),.pointer (some ⟨b2,0,none⟩),.pointer (some ⟨b3,0,none⟩)] (pR [i1,i2,i3]) w X (fun w X' v=>v=.bool (cj p_ aq ax aP)/\Cell w X' b1 i1 3 [.int .i64 aq]/\Cell w X' b2 i2 3 [.int .i64 ax]/\Cell w X' b3 i3 43 [.slice a1 aP.length c1])
theorem hb75:aS Tryz.prog 75=true:=by kernel_rfl
def S93_75:Prop:=∀ w X (s_:List (Int × Int)) (aq:Int) (ax:Int) (aP:List Int) a1 c1 a2 c2 b1 i1 b2 i2 b3 i3,RS tP2 w X a1 s_ c1->RS tI w X a2 aP c2->Cell w X b1 i1 3 [.int .i64 aq]->Cell w X b2 i2 3 [.int .i64 ax]->Cell w X b3 i3 43 [.slice a2 aP.length c2]->dS [i1,i2,i3]->Ret Tryz.prog 93 #[.slice a1 s_.length c1,.func (.func 75) #[] #[.pointer (some ⟨b1,0,none⟩),.pointer (some ⟨b2,0,none⟩),.pointer (some ⟨b3,0,none⟩)]] (pR [i1,i2,i3]) w X (fun w X' v=>v=.int .i64 (bp s_ aq ax aP)/\Cell w X' b1 i1 3 [.int .i64 aq]/\Cell w X' b2 i2 3 [.int .i64 ax]/\Cell w X' b3 i3 43 [.slice a2 aP.length c2])
theorem hb93:aS Tryz.prog 93=true:=by kernel_rfl
def S78_75:Prop:=∀ w X (s_:List (Int × Int)) (aq:Int) (ax:Int) (aP:List Int) a1 c1 a2 c2 b1 i1 b2 i2 b3 i3,RS tP2 w X a1 s_ c1->RS tI w X a2 aP c2->Cell w X b1 i1 3 [.int .i64 aq]->Cell w X b2 i2 3 [.int .i64 ax]->Cell w X b3 i3 43 [.slice a2 aP.length c2]->dS [i1,i2,i3]->Ret Tryz.prog 78 #[.slice a1 s_.length c1,.func (.func 75) #[] #[.pointer (some ⟨b1,0,none⟩),.pointer (some ⟨b2,0,none⟩),.pointer (some ⟨b3,0,none⟩)]] (pR [i1,i2,i3]) w X (fun w X' v=>v=.bool (bI s_ aq ax aP)/\Cell w X' b1 i1 3 [.int .i64 aq]/\Cell w X' b2 i2 3 [.int .i64 ax]/\Cell w X' b3 i3 43 [.slice a2 aP.length c2])
theorem hb78:aS Tryz.prog 78=true:=by kernel_rfl
def S74:Prop:=∀ w X (x_:Int) (aq:Int) (ax:List Int) (aP:List (Int × Int)) a1 c1 a2 c2 b1 i1 b2 i2 b3 i3,RS tI w X a1 ax c1->RS tP2 w X a2 aP c2->Cell w X b1 i1 3 [.int .i64 aq]->Cell w X b2 i2 43 [.slice a1 ax.length c1]->Cell w X b3 i3 95 [.slice a2 aP.length c2]->dS [i1,i2,i3]->Ret Tryz.prog 74 #[.int .i64 x_,.pointer (some ⟨b1,0,none⟩),.pointer (some ⟨b2,0,none⟩),.pointer (some ⟨b3,0,none⟩)] (pR [i1,i2,i3]) w X (fun w X' v=>v=.bool (db x_ aq ax aP)/\Cell w X' b1 i1 3 [.int .i64 aq]/\Cell w X' b2 i2 43 [.slice a1 ax.length c1]/\Cell w X' b3 i3 95 [.slice a2 aP.length c2])
theorem hb74:aS Tryz.prog 74=true:=by kernel_rfl
def S44:Prop:=∀ w X (n_:Int) (pairs:List (Int × Int)) a1 c1,RS tP2 w X a1 pairs c1->Ret Tryz.prog 44 #[.int .i64 n_,.slice a1 pairs.length c1] aM w X (fun w X' v=>∃ cQ cN,v=.tuple #[.slice cQ ((di n_ pairs).1).length cN,.bool ((di n_ pairs).2)]/\RS tI w X' cQ ((di n_ pairs).1) cN)
theorem hb44:aS Tryz.prog 44=true:=by kernel_rfl
def S47:Prop:=∀ w X (h_:ak) a1 c1 a2 c2,ln h_->RS aC w X a1 h_.ae c1->RS aL w X a2 h_.al c2->Ret Tryz.prog 47 #[.agg #[.slice a1 h_.ae.length c1,.slice a2 h_.al.length c2]] aM w X (fun w X' v=>∃ cQ cN,v=.slice cQ (bo h_).length cN/\RS aR w X' cQ (bo h_) cN)
theorem hb47:aS Tryz.prog 47=true:=by kernel_rfl
def S52:Prop:=∀ w X (o_:ao) a1 c1,kJ o_->RS aB w X a1 o_.Rows c1->Ret Tryz.prog 52 #[.agg #[.int .i64 o_.au,.int .i64 o_.aA,.int .i64 o_.aH,.slice a1 o_.Rows.length c1]] aM w X (fun w X' v=>v=.bool (cV o_))
theorem hb52:aS Tryz.prog 52=true:=by kernel_rfl
def S83_52:Prop:=∀ w X (s_:List ao) a1 c1,mw s_->RS aC w X a1 s_ c1->dS []->Ret Tryz.prog 83 #[.slice a1 s_.length c1,.func (.func 52) #[] #[]] (pR []) w X (fun w X' v=>v=.int .i64 (bd s_))
theorem hb83:aS Tryz.prog 83=true:=by kernel_rfl
def S54_52:Prop:=∀ w X (s_:List ao) a1 c1,mw s_->RS aC w X a1 s_ c1->dS []->Ret Tryz.prog 54 #[.slice a1 s_.length c1,.func (.func 52) #[] #[]] (pR []) w X (fun w X' v=>v=.bool (aZ s_))
theorem hb54:aS Tryz.prog 54=true:=by kernel_rfl
def S23:Prop:=∀ w X (h_:ak) a1 c1 a2 c2,gr h_->RS aC w X a1 h_.ae c1->RS aL w X a2 h_.al c2->Ret Tryz.prog 23 #[.agg #[.slice a1 h_.ae.length c1,.slice a2 h_.al.length c2]] aM w X (fun w X' v=>v=.tuple #[.int .i64 ((aD h_).1),.int .i64 ((aD h_).2)])
theorem hb23:aS Tryz.prog 23=true:=by kernel_rfl
def S45:Prop:=∀ w X (l_:List aK) a1 c1,sB l_->RS bP w X a1 l_ c1->Ret Tryz.prog 45 #[.slice a1 l_.length c1] aM w X (fun w X' v=>∃ cQ cN,v=.slice cQ (cS l_).length cN/\RS aR w X' cQ (cS l_) cN)
theorem hb45:aS Tryz.prog 45=true:=by kernel_rfl
def S59:Prop:=∀ w X (l_:List aK) (at_:Int) a1 c1,tS l_ at_->RS bP w X a1 l_ c1->Ret Tryz.prog 59 #[.slice a1 l_.length c1,.int .i64 at_] aM w X (fun w X' v=>v=.int .i64 (fL l_ at_))
theorem hb59:aS Tryz.prog 59=true:=by kernel_rfl
def S28:Prop:=∀ w X (objects:List ao) (l_:List aK) a1 c1 a2 c2,k5 objects l_->RS aC w X a1 objects c1->RS bP w X a2 l_ c2->Ret Tryz.prog 28 #[.slice a1 objects.length c1,.slice a2 l_.length c2] aM w X (fun w X' v=>v=.tuple #[.int .i64 ((dE objects l_).1),.int .i64 ((dE objects l_).2)])
theorem hb28:aS Tryz.prog 28=true:=by kernel_rfl
def S48:Prop:=∀ w X (i_:Int) (aq:ak) (ax:Int) a1 c1 a2 c2 b1 i1 b2 i2,yP i_ aq ax->RS aC w X a1 aq.ae c1->RS aL w X a2 aq.al c2->Cell w X b1 i1 25 [.slice a1 aq.ae.length c1,.slice a2 aq.al.length c2]->Cell w X b2 i2 3 [.int .i64 ax]->dS [i1,i2]->Ret Tryz.prog 48 #[.int .i64 i_,.pointer (some ⟨b1,0,none⟩),.pointer (some ⟨b2,0,none⟩)] (pR [i1,i2]) w X (fun w X' v=>v=.bool (eX i_ aq ax)/\Cell w X' b1 i1 25 [.slice a1 aq.ae.length c1,.slice a2 aq.al.length c2]/\Cell w X' b2 i2 3 [.int .i64 ax])
theorem hb48:aS Tryz.prog 48=true:=by kernel_rfl
def S46_48:Prop:=∀ w X (l_:List aw) (aq:ak) (ax:Int) a1 c1 a2 c2 a3 c3 b1 i1 b2 i2,yR l_ aq ax->RS aR w X a1 l_ c1->RS aC w X a2 aq.ae c2->RS aL w X a3 aq.al c3->Cell w X b1 i1 25 [.slice a2 aq.ae.length c2,.slice a3 aq.al.length c3]->Cell w X b2 i2 3 [.int .i64 ax]->dS [i1,i2]->Ret Tryz.prog 46 #[.slice a1 l_.length c1,.func (.func 48) #[] #[.pointer (some ⟨b1,0,none⟩),.pointer (some ⟨b2,0,none⟩)]] (pR [i1,i2]) w X (fun w X' v=>∃ cQ cN,v=.slice cQ (bS l_ aq ax).length cN/\RS aR w X' cQ (bS l_ aq ax) cN/\Cell w X' b1 i1 25 [.slice a2 aq.ae.length c2,.slice a3 aq.al.length c3]/\Cell w X' b2 i2 3 [.int .i64 ax])
theorem hb46:aS Tryz.prog 46=true:=by kernel_rfl
def S17:Prop:=∀ w X (h_:ak) (k_:Int) a1 c1 a2 c2,vv h_ k_->RS aC w X a1 h_.ae c1->RS aL w X a2 h_.al c2->Ret Tryz.prog 17 #[.agg #[.slice a1 h_.ae.length c1,.slice a2 h_.al.length c2],.int .i64 k_] aM w X (fun w X' v=>∃ cQ cN jg jf,v=.agg #[.int .i64 (((dG h_ k_).az).au),.int .i64 (((dG h_ k_).az).aA),.int .i64 (((dG h_ k_).az).aH),.slice cQ (((dG h_ k_).az).Rows).length cN,.slice jg ((dG h_ k_).al).length jf]/\RS aB w X' cQ (((dG h_ k_).az).Rows) cN/\RS aR w X' jg ((dG h_ k_).al) jf)
theorem hb17:aS Tryz.prog 17=true:=by kernel_rfl
def S24:Prop:=∀ w X (h_:ak) a1 c1 a2 c2,gr h_->RS aC w X a1 h_.ae c1->RS aL w X a2 h_.al c2->Ret Tryz.prog 24 #[.agg #[.slice a1 h_.ae.length c1,.slice a2 h_.al.length c2]] aM w X (fun w X' v=>∃ cQ cN jg jf,v=.tuple #[.slice cQ ((cY h_).1).length cN,.slice jg ((cY h_).2).length jf]/\RS ar w X' cQ ((cY h_).1) cN/\RS tI w X' jg ((cY h_).2) jf)
theorem hb24:aS Tryz.prog 24=true:=by kernel_rfl
def S16:Prop:=∀ w X (objects:List ao) (l_:List aK) a1 c1 a2 c2,k5 objects l_->RS aC w X a1 objects c1->RS bP w X a2 l_ c2->Ret Tryz.prog 16 #[.slice a1 objects.length c1,.slice a2 l_.length c2] aM w X (fun w X' v=>∃ cQ cN jg jf,v=.tuple #[.slice cQ ((dc objects l_).1).length cN,.slice jg ((dc objects l_).2).length jf]/\RS ar w X' cQ ((dc objects l_).1) cN/\RS tI w X' jg ((dc objects l_).2) jf)
theorem hb16:aS Tryz.prog 16=true:=by kernel_rfl
def S41:Prop:=∀ w X (h_:ak) a1 c1 a2 c2,gr h_->RS aC w X a1 h_.ae c1->RS aL w X a2 h_.al c2->Ret Tryz.prog 41 #[.agg #[.slice a1 h_.ae.length c1,.slice a2 h_.al.length c2]] aM w X (fun w X' v=>∃ cQ cN jg jf,v=.tuple #[.slice cQ ((cm h_).1).length cN,.slice jg ((cm h_).2.1).length jf,.int .i64 ((cm h_).2.2)]/\RS ar w X' cQ ((cm h_).1) cN/\RS tI w X' jg ((cm h_).2.1) jf)
theorem hb41:aS Tryz.prog 41=true:=by kernel_rfl
def S69:Prop:=∀ w X (of:List Int) (k_:Int) a1 c1,sD of k_->RS tI w X a1 of c1->Ret Tryz.prog 69 #[.slice a1 of.length c1,.int .i64 k_] aM w X (fun w X' v=>∃ cQ cN,v=.slice cQ (aW of k_).length cN/\RS tI w X' cQ (aW of k_) cN)
theorem hb69:aS Tryz.prog 69=true:=by kernel_rfl
def S72:Prop:=∀ w X (i_:Int) (aq:List Int) (ax:Int) a1 c1 b1 i1 b2 i2,tR i_ aq ax->RS tI w X a1 aq c1->Cell w X b1 i1 43 [.slice a1 aq.length c1]->Cell w X b2 i2 3 [.int .i64 ax]->dS [i1,i2]->Ret Tryz.prog 72 #[.int .i64 i_,.pointer (some ⟨b1,0,none⟩),.pointer (some ⟨b2,0,none⟩)] (pR [i1,i2]) w X (fun w X' v=>v=.bool (du i_ aq ax)/\Cell w X' b1 i1 43 [.slice a1 aq.length c1]/\Cell w X' b2 i2 3 [.int .i64 ax])
theorem hb72:aS Tryz.prog 72=true:=by kernel_rfl
def S71_72:Prop:=∀ w X (l_:List ab) (aq:List Int) (ax:Int) a1 c1 a2 c2 b1 i1 b2 i2,yQ l_ aq ax->RS ar w X a1 l_ c1->RS tI w X a2 aq c2->Cell w X b1 i1 43 [.slice a2 aq.length c2]->Cell w X b2 i2 3 [.int .i64 ax]->dS [i1,i2]->Ret Tryz.prog 71 #[.slice a1 l_.length c1,.func (.func 72) #[] #[.pointer (some ⟨b1,0,none⟩),.pointer (some ⟨b2,0,none⟩)]] (pR [i1,i2]) w X (fun w X' v=>∃ cQ cN,v=.slice cQ (bz l_ aq ax).length cN/\RS ar w X' cQ (bz l_ aq ax) cN/\Cell w X' b1 i1 43 [.slice a2 aq.length c2]/\Cell w X' b2 i2 3 [.int .i64 ax])
theorem hb71:aS Tryz.prog 71=true:=by kernel_rfl
def S42:Prop:=∀ w X (h_:ak) (l_:List ab) (of:List Int) a1 c1 a2 c2 a3 c3 a4 c4,yO h_ l_ of->RS aC w X a1 h_.ae c1->RS aL w X a2 h_.al c2->RS ar w X a3 l_ c3->RS tI w X a4 of c4->Ret Tryz.prog 42 #[.agg #[.slice a1 h_.ae.length c1,.slice a2 h_.al.length c2],.slice a3 l_.length c3,.slice a4 of.length c4] aM w X (fun w X' v=>∃ cQ cN,v=.tuple #[.slice cQ ((cG h_ l_ of).1).length cN,.int .i64 ((cG h_ l_ of).2)]/\RS (fp av) w X' cQ ((cG h_ l_ of).1) cN)
theorem hb42:aS Tryz.prog 42=true:=by kernel_rfl
def S91:Prop:=∀ w X (n_:Int) cM,yX n_->Ret Tryz.prog 91 #[.slice none 0 0,.int .i64 n_] aM w X (fun w X' v=>∃ cQ cN,v=.slice cQ (cr n_).length cN/\OS av 56 w X' cM cQ (cr n_) cN)
theorem hb91:aS Tryz.prog 91=true:=by kernel_rfl
def S73:Prop:=∀ w X (bW:List (List aa)) a1 c1,sH bW->RS (fp av) w X a1 bW c1->Ret Tryz.prog 73 #[.slice a1 bW.length c1] aM w X (fun w X' v=>∃ cQ cN,v=.slice cQ (cc bW).length cN/\RS av w X' cQ (cc bW) cN)
theorem hb73:aS Tryz.prog 73=true:=by kernel_rfl
def S43:Prop:=∀ w X (l_:List ab) (rows:List (List aa)) a1 c1 a2 c2,vx l_ rows->RS ar w X a1 l_ c1->RS (fp av) w X a2 rows c2->Ret Tryz.prog 43 #[.slice a1 l_.length c1,.slice a2 rows.length c2] aM w X (fun w X' v=>∃ cQ cN jg jf,v=.tuple #[.slice cQ ((cg l_ rows).1).length cN,.slice jg ((cg l_ rows).2).length jf]/\RS av w X' cQ ((cg l_ rows).1) cN/\RS tP2 w X' jg ((cg l_ rows).2) jf)
theorem hb43:aS Tryz.prog 43=true:=by kernel_rfl
def S15:Prop:=∀ w X (h_:ak) a1 c1 a2 c2,gr h_->RS aC w X a1 h_.ae c1->RS aL w X a2 h_.al c2->Ret Tryz.prog 15 #[.agg #[.slice a1 h_.ae.length c1,.slice a2 h_.al.length c2]] aM w X (fun w X' v=>∃ cQ cN,v=.tuple #[.slice cQ ((bV h_).1).length cN,.int .i64 ((bV h_).2)]/\RS av w X' cQ ((bV h_).1) cN)
theorem hb15:aS Tryz.prog 15=true:=by kernel_rfl
def S9:Prop:=∀ w X (h_:ak) a1 c1 a2 c2,gr h_->RS aC w X a1 h_.ae c1->RS aL w X a2 h_.al c2->Ret Tryz.prog 9 #[.agg #[.slice a1 h_.ae.length c1,.slice a2 h_.al.length c2]] aM w X (fun w X' v=>v=.tuple #[.bool ((fe h_).1),.int .i64 ((fe h_).2)])
theorem hb9:aS Tryz.prog 9=true:=by kernel_rfl
def S32:Prop:=∀ w X (i_:Int) (aq:List aa) (ax:List ab) (aP:List Int) (bF:Int) a1 c1 a2 c2 a3 c3 b1 i1 b2 i2 b3 i3 b4 i4,yW i_ aq ax aP bF->RS av w X a1 aq c1->RS ar w X a2 ax c2->RS tI w X a3 aP c3->Cell w X b1 i1 26 [.slice a1 aq.length c1]->Cell w X b2 i2 42 [.slice a2 ax.length c2]->Cell w X b3 i3 43 [.slice a3 aP.length c3]->Cell w X b4 i4 3 [.int .i64 bF]->dS [i1,i2,i3,i4]->Ret Tryz.prog 32 #[.int .i64 i_,.pointer (some ⟨b1,0,none⟩),.pointer (some ⟨b2,0,none⟩),.pointer (some ⟨b3,0,none⟩),.pointer (some ⟨b4,0,none⟩)] (pR [i1,i2,i3,i4]) w X (fun w X' v=>v=.bool (dI i_ aq ax aP bF)/\Cell w X' b1 i1 26 [.slice a1 aq.length c1]/\Cell w X' b2 i2 42 [.slice a2 ax.length c2]/\Cell w X' b3 i3 43 [.slice a3 aP.length c3]/\Cell w X' b4 i4 3 [.int .i64 bF])
theorem hb32:aS Tryz.prog 32=true:=by kernel_rfl
def S31_32:Prop:=∀ w X (l_:List aa) (aq:List aa) (ax:List ab) (aP:List Int) (bF:Int) a1 c1 a2 c2 a3 c3 a4 c4 b1 i1 b2 i2 b3 i3 b4 i4,yV l_ aq ax aP bF->RS av w X a1 l_ c1->RS av w X a2 aq c2->RS ar w X a3 ax c3->RS tI w X a4 aP c4->Cell w X b1 i1 26 [.slice a2 aq.length c2]->Cell w X b2 i2 42 [.slice a3 ax.length c3]->Cell w X b3 i3 43 [.slice a4 aP.length c4]->Cell w X b4 i4 3 [.int .i64 bF]->dS [i1,i2,i3,i4]->Ret Tryz.prog 31 #[.slice a1 l_.length c1,.func (.func 32) #[] #[.pointer (some ⟨b1,0,none⟩),.pointer (some ⟨b2,0,none⟩),.pointer (some ⟨b3,0,none⟩),.pointer (some ⟨b4,0,none⟩)]] (pR [i1,i2,i3,i4]) w X (fun w X' v=>∃ cQ cN,v=.slice cQ (bR l_ aq ax aP bF).length cN/\RS av w X' cQ (bR l_ aq ax aP bF) cN/\Cell w X' b1 i1 26 [.slice a2 aq.length c2]/\Cell w X' b2 i2 42 [.slice a3 ax.length c3]/\Cell w X' b3 i3 43 [.slice a4 aP.length c4]/\Cell w X' b4 i4 3 [.int .i64 bF])
theorem hb31:aS Tryz.prog 31=true:=by kernel_rfl
def S12:Prop:=∀ w X (h_:ak) (aj:List aa) a1 c1 a2 c2 a3 c3,sE h_ aj->RS aC w X a1 h_.ae c1->RS aL w X a2 h_.al c2->RS av w X a3 aj c3->Ret Tryz.prog 12 #[.agg #[.slice a1 h_.ae.length c1,.slice a2 h_.al.length c2],.slice a3 aj.length c3] aM w X (fun w X' v=>v=.bool (eH h_ aj))
theorem hb12:aS Tryz.prog 12=true:=by kernel_rfl
def S13:Prop:=∀ w X (objects:List ao) (l_:List aK) (aj:List aa) a1 c1 a2 c2 a3 c3,yN objects l_ aj->RS aC w X a1 objects c1->RS bP w X a2 l_ c2->RS av w X a3 aj c3->Ret Tryz.prog 13 #[.slice a1 objects.length c1,.slice a2 l_.length c2,.slice a3 aj.length c3] aM w X (fun w X' v=>v=.bool (fM objects l_ aj))
theorem hb13:aS Tryz.prog 13=true:=by kernel_rfl
def S27:Prop:=∀ w X,Ret Tryz.prog 27 #[] aM w X (fun w X' v=>∃ cQ cN,v=.agg #[.int .i64 dy.au,.int .i64 dy.aA,.int .i64 dy.aH,.slice cQ dy.Rows.length cN]/\RS aB w X' cQ dy.Rows cN)
theorem hb27:aS Tryz.prog 27=true:=by kernel_rfl
def S22:Prop:=∀ w X (object:Int) cM,Ret Tryz.prog 22 #[.int .i64 object] aM w X (fun w X' v=>∃ cQ cN jg jf,v=.agg #[.slice cQ ((cy object).ae).length cN,.slice jg ((cy object).al).length jf]/\RS aC w X' cQ ((cy object).ae) cN/\OS aL 63 w X' cM jg ((cy object).al) jf)
theorem hb22:aS Tryz.prog 22=true:=by kernel_rfl
def S11:Prop:=∀ w X (h_:ak) a1 c1 a2 c2,ln h_->RS aC w X a1 h_.ae c1->RS aL w X a2 h_.al c2->Ret Tryz.prog 11 #[.agg #[.slice a1 h_.ae.length c1,.slice a2 h_.al.length c2]] aM w X (fun w X' v=>∃ cQ cN,v=.slice cQ (fm h_).length cN/\RS bP w X' cQ (fm h_) cN)
theorem hb11:aS Tryz.prog 11=true:=by kernel_rfl
def S7:Prop:=∀ w X (h_:ak) a1 c1 a2 c2,RS aC w X a1 h_.ae c1->RS aL w X a2 h_.al c2->Ret Tryz.prog 7 #[.agg #[.slice a1 h_.ae.length c1,.slice a2 h_.al.length c2]] aM w X (fun w X' v=>v=.int .i64 (fu h_))
theorem hb7:aS Tryz.prog 7=true:=by kernel_rfl
def S19:Prop:=∀ w X (dW:List Int) (i_:Int) a1 c1,yM dW i_->RS tI w X a1 dW c1->Ret Tryz.prog 19 #[.slice a1 dW.length c1,.int .i64 i_] aM w X (fun w X' v=>v=.int .i64 (ew dW i_))
theorem hb19:aS Tryz.prog 19=true:=by kernel_rfl
def S6:Prop:=∀ w X (h_:ak) a1 c1 a2 c2,RS aC w X a1 h_.ae c1->RS aL w X a2 h_.al c2->Ret Tryz.prog 6 #[.agg #[.slice a1 h_.ae.length c1,.slice a2 h_.al.length c2]] aM w X (fun w X' v=>v=.bool (ie h_))
theorem hb6:aS Tryz.prog 6=true:=by kernel_rfl
def S8:Prop:=∀ w X,Ret Tryz.prog 8 #[] aM w X (fun w X' v=>v=.bool fN)
theorem hb8:aS Tryz.prog 8=true:=by kernel_rfl
end Go.Proofs.YteahldlmkheleaaGreat
