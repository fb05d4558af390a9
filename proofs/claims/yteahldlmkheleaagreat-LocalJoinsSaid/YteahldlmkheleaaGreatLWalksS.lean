import Derived.Test.YteahldlmkheleaaGreatLVC
import Derived.Test.YteahldlmkheleaaGreatLReps
import Derived.Test.YteahldlmkheleaaGreatSk
import Derived.Test.YteahldlmkheleaaGreatLK
set_option linter.all false
namespace Go.Proofs.YteahldlmkheleaaGreat
open Go Go.Sv
abbrev cO (o:al) (a:Option Addr) (c:Nat):List SV:=[I o.aq,I o.ax,I o.aE,Sl a o.Rows c]
abbrev cR (o:a9):List SV:=[I o.State,I o.Kind,I o.Next,I o.Result]
abbrev cP (o:ab):List SV:=[I o.ah,I o.Kind,I o.aD,I o.End,I o.Result]
abbrev cE (o:au):List SV:=[I o.bh,I o.ah,I o.N]
abbrev cK (o:aa):List SV:=[I o.Oper,I o.Result]
theorem bft (b:Bool):b=true∨b=false:=Bool.eq_false_or_eq_true b
abbrev wR (n:Int):Int:=IntKind.i64.wrap n
abbrev lN {α:Type} (l:List α):Int:=((l.length:Nat):Int)
def S21:Prop:=∀ w X (o_:al) a1 c1,RS ay w X a1 o_.Rows c1->Ret Tryz.prog 21 #[.agg #[.int .i64 o_.aq,.int .i64 o_.ax,.int .i64 o_.aE,.slice a1 o_.Rows.length c1]] aJ w X (fun w X' v=>v=.bool (gR o_))
theorem hb21:aP Tryz.prog 21=true:=by kernel_rfl
def S81:Prop:=∀ w X (n_:Int) (top:Int),Ret Tryz.prog 81 #[.int .i64 n_,.int .i64 top] aJ w X (fun w X' v=>v=.bool (bU n_ top))
theorem hb81:aP Tryz.prog 81=true:=by kernel_rfl
def S107:Prop:=∀ w X (vals:List Int) a1 c1,RS tI w X a1 vals c1->Ret Tryz.prog 107 #[.slice a1 vals.length c1] aJ w X (fun w X' v=>v=.int .i64 (gf vals))
theorem hb107:aP Tryz.prog 107=true:=by kernel_rfl
def S113:Prop:=∀ w X (x_:Int),Ret Tryz.prog 113 #[.int .i64 x_] aJ w X (fun w X' v=>v=.bool (eH x_))
theorem hb113:aP Tryz.prog 113=true:=by kernel_rfl
def S108:Prop:=∀ w X (x_:Int) (y_:Int),Ret Tryz.prog 108 #[.int .i64 x_,.int .i64 y_] aJ w X (fun w X' v=>v=.int .i64 (df x_ y_))
theorem hb108:aP Tryz.prog 108=true:=by kernel_rfl
def S96:Prop:=∀ w X (a_:a9) (b_:a9),Ret Tryz.prog 96 #[.agg #[.int .i64 a_.State,.int .i64 a_.Kind,.int .i64 a_.Next,.int .i64 a_.Result],.agg #[.int .i64 b_.State,.int .i64 b_.Kind,.int .i64 b_.Next,.int .i64 b_.Result]] aJ w X (fun w X' v=>v=.int .i64 (fZ a_ b_))
theorem hb96:aP Tryz.prog 96=true:=by kernel_rfl
def S82:Prop:=∀ w X (o_:al) (i_:Int) a1 c1,preRow o_ i_->RS ay w X a1 o_.Rows c1->Ret Tryz.prog 82 #[.agg #[.int .i64 o_.aq,.int .i64 o_.ax,.int .i64 o_.aE,.slice a1 o_.Rows.length c1],.int .i64 i_] aJ w X (fun w X' v=>v=.int .i64 (hK o_ i_))
theorem hb82:aP Tryz.prog 82=true:=by kernel_rfl
def S53:Prop:=∀ w X (o_:al) a1 c1,jV o_->RS ay w X a1 o_.Rows c1->Ret Tryz.prog 53 #[.agg #[.int .i64 o_.aq,.int .i64 o_.ax,.int .i64 o_.aE,.slice a1 o_.Rows.length c1]] aJ w X (fun w X' v=>v=.tuple #[.int .i64 ((bq o_).1),.int .i64 ((bq o_).2)])
theorem hb53:aP Tryz.prog 53=true:=by kernel_rfl
def S85:Prop:=∀ w X (o_:al) (state:Int) a1 c1,xz o_ state->RS ay w X a1 o_.Rows c1->Ret Tryz.prog 85 #[.agg #[.int .i64 o_.aq,.int .i64 o_.ax,.int .i64 o_.aE,.slice a1 o_.Rows.length c1],.int .i64 state] aJ w X (fun w X' v=>v=.int .i64 (fG o_ state))
theorem hb85:aP Tryz.prog 85=true:=by kernel_rfl
def S86:Prop:=∀ w X (o_:al) (l_:List ab) (state:Int) a1 c1 a2 c2 cz dJ i5 ow ov,RS ay w X a1 o_.Rows c1->RS ao w X a2 l_ c2->Ret Tryz.prog 86 #[.agg #[.int .i64 o_.aq,.int .i64 o_.ax,.int .i64 o_.aE,.slice a1 o_.Rows.length c1],.slice a2 l_.length c2,.int .i64 state] aJ w X (fun w X' v=>∃ cB cA GR oO oN t0 GW GV GU,v=.func (.func 97) #[] #[.pointer (some ⟨t0,0,none⟩),.pointer (some ⟨GW,0,none⟩),.pointer (some ⟨GV,0,none⟩),.pointer (some ⟨GU,0,none⟩)]/\RS ao w X' cB ((dS o_ l_ state).1) cA/\RS ay w X' oO (((dS o_ l_ state).2.2.1).Rows) oN/\Cell w X' t0 dJ 42 [.slice cB ((dS o_ l_ state).1).length cA]/\Cell w X' GW i5 113 [.map (some GR)]/\OM kI tI false w X' cz GR ((dS o_ l_ state).2.1)/\Cell w X' GV ow 48 [.int .i64 (((dS o_ l_ state).2.2.1).aq),.int .i64 (((dS o_ l_ state).2.2.1).ax),.int .i64 (((dS o_ l_ state).2.2.1).aE),.slice oO (((dS o_ l_ state).2.2.1).Rows).length oN]/\Cell w X' GU ov 3 [.int .i64 ((dS o_ l_ state).2.2.2)])
theorem hb86:aP Tryz.prog 86=true:=by kernel_rfl
def S110:Prop:=∀ w X (r_:a9) (am:Int) (ap:Int) b1 i1 b2 i2,Cell w X b1 i1 3 [.int .i64 am]->Cell w X b2 i2 3 [.int .i64 ap]->dH [i1,i2]->Ret Tryz.prog 110 #[.agg #[.int .i64 r_.State,.int .i64 r_.Kind,.int .i64 r_.Next,.int .i64 r_.Result],.pointer (some ⟨b1,0,none⟩),.pointer (some ⟨b2,0,none⟩)] (pR [i1,i2]) w X (fun w X' v=>v=.bool (gl r_ am ap)/\Cell w X' b1 i1 3 [.int .i64 am]/\Cell w X' b2 i2 3 [.int .i64 ap])
theorem hb110:aP Tryz.prog 110=true:=by kernel_rfl
def S111_110:Prop:=∀ w X (s_:List a9) (am:Int) (ap:Int) a1 c1 b1 i1 b2 i2,RS ay w X a1 s_ c1->Cell w X b1 i1 3 [.int .i64 am]->Cell w X b2 i2 3 [.int .i64 ap]->dH [i1,i2]->Ret Tryz.prog 111 #[.slice a1 s_.length c1,.func (.func 110) #[] #[.pointer (some ⟨b1,0,none⟩),.pointer (some ⟨b2,0,none⟩)]] (pR [i1,i2]) w X (fun w X' v=>v=.int .i64 (bg s_ am ap)/\Cell w X' b1 i1 3 [.int .i64 am]/\Cell w X' b2 i2 3 [.int .i64 ap])
theorem hb111:aP Tryz.prog 111=true:=by kernel_rfl
def S103:Prop:=∀ w X (o_:al) (state:Int) (kind:Int) a1 c1,RS ay w X a1 o_.Rows c1->Ret Tryz.prog 103 #[.agg #[.int .i64 o_.aq,.int .i64 o_.ax,.int .i64 o_.aE,.slice a1 o_.Rows.length c1],.int .i64 state,.int .i64 kind] aJ w X (fun w X' v=>v=.tuple #[.int .i64 ((cj o_ state kind).1),.int .i64 ((cj o_ state kind).2.1),.bool ((cj o_ state kind).2.2)])
theorem hb103:aP Tryz.prog 103=true:=by kernel_rfl
def S109:Prop:=∀ w X (t_:gU) (state:Int) (kind:Int) a1 c1,RS ay w X a1 t_.o.Rows c1->Ret Tryz.prog 109 #[.agg #[.int .i64 t_.o.aq,.int .i64 t_.o.ax,.int .i64 t_.o.aE,.slice a1 t_.o.Rows.length c1],.int .i64 state,.int .i64 kind] aJ w X (fun w X' v=>v=.tuple #[.int .i64 ((eI t_ state kind).1),.int .i64 ((eI t_ state kind).2.1),.bool ((eI t_ state kind).2.2)])
theorem hb109:aP Tryz.prog 109=true:=by kernel_rfl
def S98:Prop:=∀ w X (o_:al) (state:Int) (kind:Int) (result:Int) a1 c1,RS ay w X a1 o_.Rows c1->Ret Tryz.prog 98 #[.agg #[.int .i64 o_.aq,.int .i64 o_.ax,.int .i64 o_.aE,.slice a1 o_.Rows.length c1],.int .i64 state,.int .i64 kind,.int .i64 result] aJ w X (fun w X' v=>v=.tuple #[.int .i64 ((iu o_ state kind result).1),.int .i64 ((iu o_ state kind result).2)])
theorem hb98:aP Tryz.prog 98=true:=by kernel_rfl
def S97:Prop:=∀ w X (p_:aa) (am:List ab) (ap:List (Int × Int)) (aM:al) (bz:Int) a1 c1 r2 m2 a3 c3 b1 i1 b2 i2 b3 i3 b4 i4,RS ao w X a1 am c1->OM kI tI false w X m2 r2 ap->RS ay w X a3 aM.Rows c3->Cell w X b1 i1 42 [.slice a1 am.length c1]->Cell w X b2 i2 113 [.map (some r2)]->Cell w X b3 i3 48 [.int .i64 aM.aq,.int .i64 aM.ax,.int .i64 aM.aE,.slice a3 aM.Rows.length c3]->Cell w X b4 i4 3 [.int .i64 bz]->dH [i1,i2,i3,i4,m2]->Ret Tryz.prog 97 #[.agg #[.int .i64 p_.Oper,.int .i64 p_.Result],.pointer (some ⟨b1,0,none⟩),.pointer (some ⟨b2,0,none⟩),.pointer (some ⟨b3,0,none⟩),.pointer (some ⟨b4,0,none⟩)] (pR [i1,i2,i3,i4,m2]) w X (fun w X' v=>v=.tuple #[.int .i64 ((c7 p_ am ap aM bz).1),.int .i64 ((c7 p_ am ap aM bz).2.1)]/\Cell w X' b1 i1 42 [.slice a1 am.length c1]/\Cell w X' b2 i2 113 [.map (some r2)]/\OM kI tI false w X' m2 r2 ((c7 p_ am ap aM bz).2.2.1)/\Cell w X' b3 i3 48 [.int .i64 aM.aq,.int .i64 aM.ax,.int .i64 aM.aE,.slice a3 aM.Rows.length c3]/\Cell w X' b4 i4 3 [.int .i64 ((c7 p_ am ap aM bz).2.2.2)])
theorem hb97:aP Tryz.prog 97=true:=by kernel_rfl
def S62:Prop:=∀ w X (o_:al) (l_:List ab) (state:Int) (ac:List aa) a1 c1 a2 c2 a3 c3,xy o_ l_ state ac->RS ay w X a1 o_.Rows c1->RS ao w X a2 l_ c2->RS ar w X a3 ac c3->Ret Tryz.prog 62 #[.agg #[.int .i64 o_.aq,.int .i64 o_.ax,.int .i64 o_.aE,.slice a1 o_.Rows.length c1],.slice a2 l_.length c2,.int .i64 state,.slice a3 ac.length c3] aJ w X (fun w X' v=>v=.tuple #[.int .i64 ((iQ o_ l_ state ac).1),.int .i64 ((iQ o_ l_ state ac).2.1),.int .i64 ((iQ o_ l_ state ac).2.2)])
theorem hb62:aP Tryz.prog 62=true:=by kernel_rfl
def S33:Prop:=∀ w X (o_:al) (l_:List ab) (ac:List aa) a1 c1 a2 c2 a3 c3,ka o_ l_ ac->RS ay w X a1 o_.Rows c1->RS ao w X a2 l_ c2->RS ar w X a3 ac c3->Ret Tryz.prog 33 #[.agg #[.int .i64 o_.aq,.int .i64 o_.ax,.int .i64 o_.aE,.slice a1 o_.Rows.length c1],.slice a2 l_.length c2,.slice a3 ac.length c3] aJ w X (fun w X' v=>v=.tuple #[.int .i64 ((b7 o_ l_ ac).1),.int .i64 ((b7 o_ l_ ac).2.1),.int .i64 ((b7 o_ l_ ac).2.2)])
theorem hb33:aP Tryz.prog 33=true:=by kernel_rfl
def S87:Prop:=∀ w X (ac:List aa) a1 c1 cz dJ,RS ar w X a1 ac c1->Ret Tryz.prog 87 #[.slice a1 ac.length c1] aJ w X (fun w X' v=>∃ GS t0,v=.func (.func 99) #[] #[.pointer (some ⟨t0,0,none⟩)]/\Cell w X' t0 dJ 113 [.map (some GS)]/\OM kI tI false w X' cz GS (e7 ac))
theorem hb87:aP Tryz.prog 87=true:=by kernel_rfl
def S99:Prop:=∀ w X (i_:Int) (am:List (Int × Int)) r1 m1 b1 i1,OM kI tI false w X m1 r1 am->Cell w X b1 i1 113 [.map (some r1)]->dH [i1,m1]->Ret Tryz.prog 99 #[.int .i64 i_,.pointer (some ⟨b1,0,none⟩)] (pR [i1,m1]) w X (fun w X' v=>v=.bool (e6 i_ am)/\Cell w X' b1 i1 113 [.map (some r1)]/\OM kI tI false w X' m1 r1 am)
theorem hb99:aP Tryz.prog 99=true:=by kernel_rfl
def S64:Prop:=∀ w X (l_:List ab) (ac:List aa) (pending:Bool) a1 c1 a2 c2,uo l_ ac pending->RS ao w X a1 l_ c1->RS ar w X a2 ac c2->Ret Tryz.prog 64 #[.slice a1 l_.length c1,.slice a2 ac.length c2,.bool pending] aJ w X (fun w X' v=>∃ cB cA,v=.slice cB (dR l_ ac pending).length cA/\RS tI w X' cB (dR l_ ac pending) cA)
theorem hb64:aP Tryz.prog 64=true:=by kernel_rfl
def S35:Prop:=∀ w X (l_:List ab) (ac:List aa) a1 c1 a2 c2,pS l_ ac->RS ao w X a1 l_ c1->RS ar w X a2 ac c2->Ret Tryz.prog 35 #[.slice a1 l_.length c1,.slice a2 ac.length c2] aJ w X (fun w X' v=>∃ cB cA,v=.slice cB (bX l_ ac).length cA/\RS tI w X' cB (bX l_ ac) cA)
theorem hb35:aP Tryz.prog 35=true:=by kernel_rfl
def S63:Prop:=∀ w X (a_:ab) (b_:ab),Ret Tryz.prog 63 #[.agg #[.int .i64 a_.ah,.int .i64 a_.Kind,.int .i64 a_.aD,.int .i64 a_.End,.int .i64 a_.Result],.agg #[.int .i64 b_.ah,.int .i64 b_.Kind,.int .i64 b_.aD,.int .i64 b_.End,.int .i64 b_.Result]] aJ w X (fun w X' v=>v=.bool (bb a_ b_))
theorem hb63:aP Tryz.prog 63=true:=by kernel_rfl
def S34:Prop:=∀ w X (l_:List ab) (ac:List aa) a1 c1 a2 c2,RS ao w X a1 l_ c1->RS ar w X a2 ac c2->Ret Tryz.prog 34 #[.slice a1 l_.length c1,.slice a2 ac.length c2] aJ w X (fun w X' v=>v=.int .i64 (ct l_ ac))
theorem hb34:aP Tryz.prog 34=true:=by kernel_rfl
def S106:Prop:=∀ w X (o_:ab),Ret Tryz.prog 106 #[.agg #[.int .i64 o_.ah,.int .i64 o_.Kind,.int .i64 o_.aD,.int .i64 o_.End,.int .i64 o_.Result]] aJ w X (fun w X' v=>v=.bool (dU o_))
theorem hb106:aP Tryz.prog 106=true:=by kernel_rfl
def S95:Prop:=∀ w X (o_:ab),Ret Tryz.prog 95 #[.agg #[.int .i64 o_.ah,.int .i64 o_.Kind,.int .i64 o_.aD,.int .i64 o_.End,.int .i64 o_.Result]] aJ w X (fun w X' v=>v=.int .i64 (da o_))
theorem hb95:aP Tryz.prog 95=true:=by kernel_rfl
def S80:Prop:=∀ w X (l_:List ab) a1 c1,RS ao w X a1 l_ c1->Ret Tryz.prog 80 #[.slice a1 l_.length c1] aJ w X (fun w X' v=>v=.tuple #[.int .i64 ((cc l_).1),.int .i64 ((cc l_).2)])
theorem hb80:aP Tryz.prog 80=true:=by kernel_rfl
def S51:Prop:=∀ w X (o_:al) (l_:List ab) (ac:List aa) a1 c1 a2 c2 a3 c3,ka o_ l_ ac->RS ay w X a1 o_.Rows c1->RS ao w X a2 l_ c2->RS ar w X a3 ac c3->Ret Tryz.prog 51 #[.agg #[.int .i64 o_.aq,.int .i64 o_.ax,.int .i64 o_.aE,.slice a1 o_.Rows.length c1],.slice a2 l_.length c2,.slice a3 ac.length c3] aJ w X (fun w X' v=>v=.tuple #[.int .i64 ((eD o_ l_ ac).1),.int .i64 ((eD o_ l_ ac).2)])
theorem hb51:aP Tryz.prog 51=true:=by kernel_rfl
def S20:Prop:=∀ w X (o_:al) (l_:List ab) (ac:List aa) a1 c1 a2 c2 a3 c3,ka o_ l_ ac->RS ay w X a1 o_.Rows c1->RS ao w X a2 l_ c2->RS ar w X a3 ac c3->Ret Tryz.prog 20 #[.agg #[.int .i64 o_.aq,.int .i64 o_.ax,.int .i64 o_.aE,.slice a1 o_.Rows.length c1],.slice a2 l_.length c2,.slice a3 ac.length c3] aJ w X (fun w X' v=>v=.bool (cY o_ l_ ac))
theorem hb20:aP Tryz.prog 20=true:=by kernel_rfl
def S66:Prop:=∀ w X (ac:List aa) (i_:Int) a1 c1,RS ar w X a1 ac c1->Ret Tryz.prog 66 #[.slice a1 ac.length c1,.int .i64 i_] aJ w X (fun w X' v=>v=.int .i64 (ca ac i_))
theorem hb66:aP Tryz.prog 66=true:=by kernel_rfl
def S68:Prop:=∀ w X (o_:al) (state:Int) (kind:Int) a1 c1,RS ay w X a1 o_.Rows c1->Ret Tryz.prog 68 #[.agg #[.int .i64 o_.aq,.int .i64 o_.ax,.int .i64 o_.aE,.slice a1 o_.Rows.length c1],.int .i64 state,.int .i64 kind] aJ w X (fun w X' v=>v=.tuple #[.int .i64 ((cu o_ state kind).1),.int .i64 ((cu o_ state kind).2.1),.bool ((cu o_ state kind).2.2)])
theorem hb68:aP Tryz.prog 68=true:=by kernel_rfl
def S65:Prop:=∀ w X (o_:al) (state:Int) (kind:Int) (result:Int) a1 c1,RS ay w X a1 o_.Rows c1->Ret Tryz.prog 65 #[.agg #[.int .i64 o_.aq,.int .i64 o_.ax,.int .i64 o_.aE,.slice a1 o_.Rows.length c1],.int .i64 state,.int .i64 kind,.int .i64 result] aJ w X (fun w X' v=>v=.tuple #[.int .i64 ((c9 o_ state kind result).1),.int .i64 ((c9 o_ state kind result).2)])
theorem hb65:aP Tryz.prog 65=true:=by kernel_rfl
def S58:Prop:=∀ w X (o_:al) a1 c1,RS ay w X a1 o_.Rows c1->Ret Tryz.prog 58 #[.agg #[.int .i64 o_.aq,.int .i64 o_.ax,.int .i64 o_.aE,.slice a1 o_.Rows.length c1]] aJ w X (fun w X' v=>v=.tuple #[.int .i64 ((cD o_).1),.int .i64 ((cD o_).2)])
theorem hb58:aP Tryz.prog 58=true:=by kernel_rfl
def S36:Prop:=∀ w X (o_:al) (l_:List ab) (state:Int) (ac:List aa) a1 c1 a2 c2 a3 c3,RS ay w X a1 o_.Rows c1->RS ao w X a2 l_ c2->RS ar w X a3 ac c3->Ret Tryz.prog 36 #[.agg #[.int .i64 o_.aq,.int .i64 o_.ax,.int .i64 o_.aE,.slice a1 o_.Rows.length c1],.slice a2 l_.length c2,.int .i64 state,.slice a3 ac.length c3] aJ w X (fun w X' v=>v=.tuple #[.int .i64 ((cH o_ l_ state ac).1),.int .i64 ((cH o_ l_ state ac).2.1),.int .i64 ((cH o_ l_ state ac).2.2)])
theorem hb36:aP Tryz.prog 36=true:=by kernel_rfl
def S67:Prop:=∀ w X (a_:ab) (b_:ab),Ret Tryz.prog 67 #[.agg #[.int .i64 a_.ah,.int .i64 a_.Kind,.int .i64 a_.aD,.int .i64 a_.End,.int .i64 a_.Result],.agg #[.int .i64 b_.ah,.int .i64 b_.Kind,.int .i64 b_.aD,.int .i64 b_.End,.int .i64 b_.Result]] aJ w X (fun w X' v=>v=.bool (iR a_ b_))
theorem hb67:aP Tryz.prog 67=true:=by kernel_rfl
def S37:Prop:=∀ w X (l_:List ab) (ac:List aa) a1 c1 a2 c2,RS ao w X a1 l_ c1->RS ar w X a2 ac c2->Ret Tryz.prog 37 #[.slice a1 l_.length c1,.slice a2 ac.length c2] aJ w X (fun w X' v=>v=.int .i64 (ea l_ ac))
theorem hb37:aP Tryz.prog 37=true:=by kernel_rfl
def S38:Prop:=∀ w X (l_:List ab) (ac:List aa) (pending:Bool) a1 c1 a2 c2,rz l_ ac pending->RS ao w X a1 l_ c1->RS ar w X a2 ac c2->Ret Tryz.prog 38 #[.slice a1 l_.length c1,.slice a2 ac.length c2,.bool pending] aJ w X (fun w X' v=>∃ cB cA,v=.slice cB (eF l_ ac pending).length cA/\RS tI w X' cB (eF l_ ac pending) cA)
theorem hb38:aP Tryz.prog 38=true:=by kernel_rfl
def S114:Prop:=∀ w X (i_:Int) (am:List Bool) a1 c1 b1 i1,ur i_ am->RS dz w X a1 am c1->Cell w X b1 i1 158 [.slice a1 am.length c1]->dH [i1]->Ret Tryz.prog 114 #[.int .i64 i_,.pointer (some ⟨b1,0,none⟩)] (pR [i1]) w X (fun w X' v=>v=.bool (eX i_ am)/\Cell w X' b1 i1 158 [.slice a1 am.length c1])
theorem hb114:aP Tryz.prog 114=true:=by kernel_rfl
def S112:Prop:=∀ w X (l_:List ab) (done:List Bool) a1 c1 a2 c2,xE l_ done->RS ao w X a1 l_ c1->RS dz w X a2 done c2->Ret Tryz.prog 112 #[.slice a1 l_.length c1,.slice a2 done.length c2] aJ w X (fun w X' v=>∃ cB cA,v=.slice cB (eN l_ done).length cA/\RS tI w X' cB (eN l_ done) cA)
theorem hb112:aP Tryz.prog 112=true:=by kernel_rfl
def S105:Prop:=∀ w X (o_:al) (l_:List ab) (state:Int) (done:List Bool) a1 c1 a2 c2 a3 c3 cz,xA o_ l_ state done->RS ay w X a1 o_.Rows c1->RS ao w X a2 l_ c2->RS dz w X a3 done c3->Ret Tryz.prog 105 #[.agg #[.int .i64 o_.aq,.int .i64 o_.ax,.int .i64 o_.aE,.slice a1 o_.Rows.length c1],.slice a2 l_.length c2,.int .i64 state,.slice a3 done.length c3] aJ w X (fun w X' v=>∃ cB cA,v=.slice cB (bF o_ l_ state done).length cA/\OS ar 56 w X' cz cB (bF o_ l_ state done) cA)
theorem hb105:aP Tryz.prog 105=true:=by kernel_rfl
def S88:Prop:=∀ w X (o_:al) (l_:List ab) (jj:Int) a1 c1 a2 c2,xG o_ l_ jj->RS ay w X a1 o_.Rows c1->RS ao w X a2 l_ c2->Ret Tryz.prog 88 #[.agg #[.int .i64 o_.aq,.int .i64 o_.ax,.int .i64 o_.aE,.slice a1 o_.Rows.length c1],.slice a2 l_.length c2,.int .i64 jj] aJ w X (fun w X' v=>v=.int .i64 (cq o_ l_ jj))
theorem hb88:aP Tryz.prog 88=true:=by kernel_rfl
def S104:Prop:=∀ w X (s_:List aa) a1 c1 cz,xF s_->RS ar w X a1 s_ c1->Ret Tryz.prog 104 #[.slice a1 s_.length c1] aJ w X (fun w X' v=>∃ cB cA,v=.slice cB (bV s_).length cA/\OS ar 56 w X' cz cB (bV s_) cA)
theorem hb104:aP Tryz.prog 104=true:=by kernel_rfl
def S101:Prop:=∀ w X (state:Int) (am:aX) a1 c1 a2 c2 a3 c3 r4 m4 b1 i1,RS ay w X a1 am.o.Rows c1->RS ao w X a2 am.l c2->RS dz w X a3 am.done c3->OMS aQ tI false w X m4 r4 am.failed->Cell w X b1 i1 161 [.int .i64 am.o.aq,.int .i64 am.o.ax,.int .i64 am.o.aE,.slice a1 am.o.Rows.length c1,.slice a2 am.l.length c2,.slice a3 am.done.length c3,.map (some r4)]->dH [i1,m4]->Ret Tryz.prog 101 #[.pointer (some ⟨b1,0,none⟩),.int .i64 state] (pR [i1,m4]) w X (fun w X' v=>v=.agg #[.int .u32 ((dt state am).done),.int .i64 ((dt state am).state)]/\Cell w X' b1 i1 161 [.int .i64 am.o.aq,.int .i64 am.o.ax,.int .i64 am.o.aE,.slice a1 am.o.Rows.length c1,.slice a2 am.l.length c2,.slice a3 am.done.length c3,.map (some r4)]/\OMS aQ tI false w X' m4 r4 am.failed)
theorem hb101:aP Tryz.prog 101=true:=by kernel_rfl
def S100:Prop:=∀ w X (am:aX) a1 c1 a2 c2 a3 c3 r4 m4 b1 i1,xm am->RS ay w X a1 am.o.Rows c1->RS ao w X a2 am.l c2->RS dz w X a3 am.done c3->OMS aQ tI false w X m4 r4 am.failed->Cell w X b1 i1 161 [.int .i64 am.o.aq,.int .i64 am.o.ax,.int .i64 am.o.aE,.slice a1 am.o.Rows.length c1,.slice a2 am.l.length c2,.slice a3 am.done.length c3,.map (some r4)]->dH [i1,m4]->Ret Tryz.prog 100 #[.pointer (some ⟨b1,0,none⟩)] (pR [i1,m4]) w X (fun w X' v=>v=.bool (dE am)/\Cell w X' b1 i1 161 [.int .i64 am.o.aq,.int .i64 am.o.ax,.int .i64 am.o.aE,.slice a1 am.o.Rows.length c1,.slice a2 am.l.length c2,.slice a3 am.done.length c3,.map (some r4)]/\OMS aQ tI false w X' m4 r4 am.failed)
theorem hb100:aP Tryz.prog 100=true:=by kernel_rfl
def S102N (N:Nat):Prop:=∀ w X (p_:aa) (ap:aX) (aM:Int) (bz:List aa) a1 c1 a2 c2 a3 c3 m3 r4 m4 a5 c5 cz b1 i1 b2 i2 b3 i3 b4 i4,xn p_ ap aM bz->AY p_ ap aM bz < N->RS ay w X a1 ap.o.Rows c1->RS ao w X a2 ap.l c2->OS dz 4 w X m3 a3 ap.done c3->OMS aQ tI false w X m4 r4 ap.failed->RS ar w X a5 bz c5->Cell w X b1 i1 147 [.pointer (some ⟨b2,0,none⟩)]->Cell w X b2 i2 161 [.int .i64 ap.o.aq,.int .i64 ap.o.ax,.int .i64 ap.o.aE,.slice a1 ap.o.Rows.length c1,.slice a2 ap.l.length c2,.slice a3 ap.done.length c3,.map (some r4)]->Cell w X b3 i3 3 [.int .i64 aM]->Cell w X b4 i4 26 [.slice a5 bz.length c5]->dH [i1,i2,i3,i4,m3,m4]->Ret Tryz.prog 102 #[.agg #[.int .i64 p_.Oper,.int .i64 p_.Result],.pointer (some ⟨b1,0,none⟩),.pointer (some ⟨b3,0,none⟩),.pointer (some ⟨b4,0,none⟩)] (pR [i1,i2,i3,i4,m3,m4]) w X (fun w X' v=>∃ cB cA iE iD oO oN xk xj,v=.tuple #[.slice cB ((bf p_ ap aM bz).1).length cA,.bool ((bf p_ ap aM bz).2.1)]/\OS ar 56 w X' cz cB ((bf p_ ap aM bz).1) cA/\RS ay w X' iE ((((bf p_ ap aM bz).2.2).o).Rows) iD/\RS ao w X' oO (((bf p_ ap aM bz).2.2).l) oN/\OS dz 4 w X' m3 xk (((bf p_ ap aM bz).2.2).done) xj/\Cell w X' b1 i1 147 [.pointer (some ⟨b2,0,none⟩)]/\Cell w X' b2 i2 161 [.int .i64 ((((bf p_ ap aM bz).2.2).o).aq),.int .i64 ((((bf p_ ap aM bz).2.2).o).ax),.int .i64 ((((bf p_ ap aM bz).2.2).o).aE),.slice iE ((((bf p_ ap aM bz).2.2).o).Rows).length iD,.slice oO (((bf p_ ap aM bz).2.2).l).length oN,.slice xk (((bf p_ ap aM bz).2.2).done).length xj,.map (some r4)]/\OMS aQ tI false w X' m4 r4 (((bf p_ ap aM bz).2.2).failed)/\Cell w X' b3 i3 3 [.int .i64 aM]/\Cell w X' b4 i4 26 [.slice a5 bz.length c5])theorem hb102:aP Tryz.prog 102=true:=by kernel_rfl
def S90:Prop:=∀ w X (state:Int) (so:List aa) (am:aX) a1 c1 m1 a2 c2 a3 c3 a4 c4 m4 r5 m5 b1 i1,rC state so am->OS ar 56 w X m1 a1 so c1->RS ay w X a2 am.o.Rows c2->RS ao w X a3 am.l c3->OS dz 4 w X m4 a4 am.done c4->OMS aQ tI false w X m5 r5 am.failed->Cell w X b1 i1 161 [.int .i64 am.o.aq,.int .i64 am.o.ax,.int .i64 am.o.aE,.slice a2 am.o.Rows.length c2,.slice a3 am.l.length c3,.slice a4 am.done.length c4,.map (some r5)]->dH [i1,m1,m4,m5]->Ret Tryz.prog 90 #[.pointer (some ⟨b1,0,none⟩),.int .i64 state,.slice a1 so.length c1] (pR [i1,m1,m4,m5]) w X (fun w X' v=>∃ cB cA iE iD oO oN xk xj,v=.tuple #[.slice cB ((aG state so am).1).length cA,.bool ((aG state so am).2.1)]/\OS ar 56 w X' m1 cB ((aG state so am).1) cA/\RS ay w X' iE ((((aG state so am).2.2).o).Rows) iD/\RS ao w X' oO (((aG state so am).2.2).l) oN/\OS dz 4 w X' m4 xk (((aG state so am).2.2).done) xj/\Cell w X' b1 i1 161 [.int .i64 ((((aG state so am).2.2).o).aq),.int .i64 ((((aG state so am).2.2).o).ax),.int .i64 ((((aG state so am).2.2).o).aE),.slice iE ((((aG state so am).2.2).o).Rows).length iD,.slice oO (((aG state so am).2.2).l).length oN,.slice xk (((aG state so am).2.2).done).length xj,.map (some r5)]/\OMS aQ tI false w X' m5 r5 (((aG state so am).2.2).failed))
def S90N (N:Nat):Prop:=∀ w X (state:Int) (so:List aa) (am:aX) a1 c1 m1 a2 c2 a3 c3 a4 c4 m4 r5 m5 b1 i1,rC state so am->oh state so am < N->OS ar 56 w X m1 a1 so c1->RS ay w X a2 am.o.Rows c2->RS ao w X a3 am.l c3->OS dz 4 w X m4 a4 am.done c4->OMS aQ tI false w X m5 r5 am.failed->Cell w X b1 i1 161 [.int .i64 am.o.aq,.int .i64 am.o.ax,.int .i64 am.o.aE,.slice a2 am.o.Rows.length c2,.slice a3 am.l.length c3,.slice a4 am.done.length c4,.map (some r5)]->dH [i1,m1,m4,m5]->Ret Tryz.prog 90 #[.pointer (some ⟨b1,0,none⟩),.int .i64 state,.slice a1 so.length c1] (pR [i1,m1,m4,m5]) w X (fun w X' v=>∃ cB cA iE iD oO oN xk xj,v=.tuple #[.slice cB ((aG state so am).1).length cA,.bool ((aG state so am).2.1)]/\OS ar 56 w X' m1 cB ((aG state so am).1) cA/\RS ay w X' iE ((((aG state so am).2.2).o).Rows) iD/\RS ao w X' oO (((aG state so am).2.2).l) oN/\OS dz 4 w X' m4 xk (((aG state so am).2.2).done) xj/\Cell w X' b1 i1 161 [.int .i64 ((((aG state so am).2.2).o).aq),.int .i64 ((((aG state so am).2.2).o).ax),.int .i64 ((((aG state so am).2.2).o).aE),.slice iE ((((aG state so am).2.2).o).Rows).length iD,.slice oO (((aG state so am).2.2).l).length oN,.slice xk (((aG state so am).2.2).done).length xj,.map (some r5)]/\OMS aQ tI false w X' m5 r5 (((aG state so am).2.2).failed))theorem hb90:aP Tryz.prog 90=true:=by kernel_rfl
def S89:Prop:=∀ w X (o_:al) (l_:List ab) a1 c1 a2 c2 cz dJ i5,xI o_ l_->RS ay w X a1 o_.Rows c1->RS ao w X a2 l_ c2->Ret Tryz.prog 89 #[.agg #[.int .i64 o_.aq,.int .i64 o_.ax,.int .i64 o_.aE,.slice a1 o_.Rows.length c1],.slice a2 l_.length c2] aJ w X (fun w X' v=>∃ cB cA iE iD oO oN GQ t0,v=.pointer (some ⟨t0,0,none⟩)/\RS ay w X' cB (((bB o_ l_).o).Rows) cA/\RS ao w X' iE ((bB o_ l_).l) iD/\OS dz 4 w X' cz oO ((bB o_ l_).done) oN/\Cell w X' t0 i5 161 [.int .i64 (((bB o_ l_).o).aq),.int .i64 (((bB o_ l_).o).ax),.int .i64 (((bB o_ l_).o).aE),.slice cB (((bB o_ l_).o).Rows).length cA,.slice iE ((bB o_ l_).l).length iD,.slice oO ((bB o_ l_).done).length oN,.map (some GQ)]/\OMS aQ tI false w X' dJ GQ ((bB o_ l_).failed))
theorem hb89:aP Tryz.prog 89=true:=by kernel_rfl
def S70:Prop:=∀ w X (o_:al) (l_:List ab) a1 c1 a2 c2 cz,xp o_ l_->RS ay w X a1 o_.Rows c1->RS ao w X a2 l_ c2->Ret Tryz.prog 70 #[.agg #[.int .i64 o_.aq,.int .i64 o_.ax,.int .i64 o_.aE,.slice a1 o_.Rows.length c1],.slice a2 l_.length c2] aJ w X (fun w X' v=>∃ cB cA,v=.tuple #[.slice cB ((bj o_ l_).1).length cA,.int .i64 ((bj o_ l_).2)]/\OS ar 56 w X' cz cB ((bj o_ l_).1) cA)
theorem hb70:aP Tryz.prog 70=true:=by kernel_rfl
def S84:Prop:=∀ w X (x_:au),Ret Tryz.prog 84 #[.agg #[.int .i64 x_.bh,.int .i64 x_.ah,.int .i64 x_.N]] aJ w X (fun w X' v=>v=.int .i64 (fW x_))
theorem hb84:aP Tryz.prog 84=true:=by kernel_rfl
def S55:Prop:=∀ w X (l_:List au) a1 c1,RS aO w X a1 l_ c1->Ret Tryz.prog 55 #[.slice a1 l_.length c1] aJ w X (fun w X' v=>v=.tuple #[.int .i64 ((bw l_).1),.int .i64 ((bw l_).2)])
theorem hb55:aP Tryz.prog 55=true:=by kernel_rfl
def S94:Prop:=∀ w X (l_:List au) (process:Int) a1 c1,RS aO w X a1 l_ c1->Ret Tryz.prog 94 #[.slice a1 l_.length c1,.int .i64 process] aJ w X (fun w X' v=>v=.int .i64 (hJ l_ process))
theorem hb94:aP Tryz.prog 94=true:=by kernel_rfl
def S79:Prop:=∀ w X (l_:List au) (process:Int) a1 c1,RS aO w X a1 l_ c1->Ret Tryz.prog 79 #[.slice a1 l_.length c1,.int .i64 process] aJ w X (fun w X' v=>v=.bool (e9 l_ process))
theorem hb79:aP Tryz.prog 79=true:=by kernel_rfl
def S50:Prop:=∀ w X (l_:List au) a1 c1,RS aO w X a1 l_ c1->Ret Tryz.prog 50 #[.slice a1 l_.length c1] aJ w X (fun w X' v=>v=.tuple #[.int .i64 ((eJ l_).1),.int .i64 ((eJ l_).2)])
theorem hb50:aP Tryz.prog 50=true:=by kernel_rfl
def S57:Prop:=∀ w X (a_:List a9) (b_:List a9) a1 c1 a2 c2,RS ay w X a1 a_ c1->RS ay w X a2 b_ c2->Ret Tryz.prog 57 #[.slice a1 a_.length c1,.slice a2 b_.length c2] aJ w X (fun w X' v=>v=.bool (dT a_ b_))
theorem hb57:aP Tryz.prog 57=true:=by kernel_rfl
def S26:Prop:=∀ w X (a_:al) (b_:al) a1 c1 a2 c2,RS ay w X a1 a_.Rows c1->RS ay w X a2 b_.Rows c2->Ret Tryz.prog 26 #[.agg #[.int .i64 a_.aq,.int .i64 a_.ax,.int .i64 a_.aE,.slice a1 a_.Rows.length c1],.agg #[.int .i64 b_.aq,.int .i64 b_.ax,.int .i64 b_.aE,.slice a2 b_.Rows.length c2]] aJ w X (fun w X' v=>v=.bool (iH a_ b_))
theorem hb26:aP Tryz.prog 26=true:=by kernel_rfl
def S56:Prop:=∀ w X (l_:List au) a1 c1,RS aO w X a1 l_ c1->Ret Tryz.prog 56 #[.slice a1 l_.length c1] aJ w X (fun w X' v=>∃ cB cA,v=.tuple #[.slice cB ((gw l_).1).length cA,.int .i64 ((gw l_).2)]/\RS ao w X' cB ((gw l_).1) cA)
theorem hb56:aP Tryz.prog 56=true:=by kernel_rfl
def S18:Prop:=∀ w X (l_:List au) a1 c1,RS aO w X a1 l_ c1->Ret Tryz.prog 18 #[.slice a1 l_.length c1] aJ w X (fun w X' v=>∃ cB cA,v=.tuple #[.slice cB ((gh l_).1).length cA,.int .i64 ((gh l_).2)]/\RS ao w X' cB ((gh l_).1) cA)
theorem hb18:aP Tryz.prog 18=true:=by kernel_rfl
def S25:Prop:=∀ w X (a_:List Int) (b_:List Int) a1 c1 a2 c2,RS tI w X a1 a_ c1->RS tI w X a2 b_ c2->Ret Tryz.prog 25 #[.slice a1 a_.length c1,.slice a2 b_.length c2] aJ w X (fun w X' v=>v=.bool (eK a_ b_))
theorem hb25:aP Tryz.prog 25=true:=by kernel_rfl
def S92:Prop:=∀ w X (s_:List Int) (v_:Int) a1 c1,RS tI w X a1 s_ c1->Ret Tryz.prog 92 #[.slice a1 s_.length c1,.int .i64 v_] aJ w X (fun w X' v=>v=.int .i64 (dM s_ v_))
theorem hb92:aP Tryz.prog 92=true:=by kernel_rfl
def S77:Prop:=∀ w X (s_:List Int) (v_:Int) a1 c1,RS tI w X a1 s_ c1->Ret Tryz.prog 77 #[.slice a1 s_.length c1,.int .i64 v_] aJ w X (fun w X' v=>v=.bool (cn s_ v_))
theorem hb77:aP Tryz.prog 77=true:=by kernel_rfl
def S49:Prop:=∀ w X (s_:List a9) a1 c1,xH s_->RS ay w X a1 s_ c1->Ret Tryz.prog 49 #[.slice a1 s_.length c1] aJ w X (fun w X' v=>∃ cB cA,v=.slice cB (cS s_).length cA/\RS ay w X' cB (cS s_) cA)
theorem hb49:aP Tryz.prog 49=true:=by kernel_rfl
def S76:Prop:=∀ w X (p_:Int × Int) (n_:Int),Ret Tryz.prog 76 #[.agg #[.int .i64 p_.1,.int .i64 p_.2],.int .i64 n_] aJ w X (fun w X' v=>v=.bool (dI p_ n_))
theorem hb76:aP Tryz.prog 76=true:=by kernel_rfl
def S75:Prop:=∀ w X (p_:Int × Int) (am:Int) (ap:Int) (aM:List Int) a1 c1 b1 i1 b2 i2 b3 i3,RS tI w X a1 aM c1->Cell w X b1 i1 3 [.int .i64 am]->Cell w X b2 i2 3 [.int .i64 ap]->Cell w X b3 i3 43 [.slice a1 aM.length c1]->dH [i1,i2,i3]->Ret Tryz.prog 75 #[.agg #[.int .i64 p_.1,.int .i64 p_.2],.pointer (some ⟨b1,0,none⟩),.pointer (some ⟨b2,0,none⟩),.pointer (some ⟨b3,0,none⟩)] (pR [i1,i2,i3]) w X (fun w X' v=>v=.bool (b9 p_ am ap aM)/\Cell w X' b1 i1 3 [.int .i64 am]/\Cell w X' b2 i2 3 [.int .i64 ap]/\Cell w X' b3 i3 43 [.slice a1 aM.length c1])
theorem hb75:aP Tryz.prog 75=true:=by kernel_rfl
def S93_75:Prop:=∀ w X (s_:List (Int × Int)) (am:Int) (ap:Int) (aM:List Int) a1 c1 a2 c2 b1 i1 b2 i2 b3 i3,RS tP2 w X a1 s_ c1->RS tI w X a2 aM c2->Cell w X b1 i1 3 [.int .i64 am]->Cell w X b2 i2 3 [.int .i64 ap]->Cell w X b3 i3 43 [.slice a2 aM.length c2]->dH [i1,i2,i3]->Ret Tryz.prog 93 #[.slice a1 s_.length c1,.func (.func 75) #[] #[.pointer (some ⟨b1,0,none⟩),.pointer (some ⟨b2,0,none⟩),.pointer (some ⟨b3,0,none⟩)]] (pR [i1,i2,i3]) w X (fun w X' v=>v=.int .i64 (bl s_ am ap aM)/\Cell w X' b1 i1 3 [.int .i64 am]/\Cell w X' b2 i2 3 [.int .i64 ap]/\Cell w X' b3 i3 43 [.slice a2 aM.length c2])
theorem hb93:aP Tryz.prog 93=true:=by kernel_rfl
def S78_75:Prop:=∀ w X (s_:List (Int × Int)) (am:Int) (ap:Int) (aM:List Int) a1 c1 a2 c2 b1 i1 b2 i2 b3 i3,RS tP2 w X a1 s_ c1->RS tI w X a2 aM c2->Cell w X b1 i1 3 [.int .i64 am]->Cell w X b2 i2 3 [.int .i64 ap]->Cell w X b3 i3 43 [.slice a2 aM.length c2]->dH [i1,i2,i3]->Ret Tryz.prog 78 #[.slice a1 s_.length c1,.func (.func 75) #[] #[.pointer (some ⟨b1,0,none⟩),.pointer (some ⟨b2,0,none⟩),.pointer (some ⟨b3,0,none⟩)]] (pR [i1,i2,i3]) w X (fun w X' v=>v=.bool (bC s_ am ap aM)/\Cell w X' b1 i1 3 [.int .i64 am]/\Cell w X' b2 i2 3 [.int .i64 ap]/\Cell w X' b3 i3 43 [.slice a2 aM.length c2])
theorem hb78:aP Tryz.prog 78=true:=by kernel_rfl
def S74:Prop:=∀ w X (x_:Int) (am:Int) (ap:List Int) (aM:List (Int × Int)) a1 c1 a2 c2 b1 i1 b2 i2 b3 i3,RS tI w X a1 ap c1->RS tP2 w X a2 aM c2->Cell w X b1 i1 3 [.int .i64 am]->Cell w X b2 i2 43 [.slice a1 ap.length c1]->Cell w X b3 i3 95 [.slice a2 aM.length c2]->dH [i1,i2,i3]->Ret Tryz.prog 74 #[.int .i64 x_,.pointer (some ⟨b1,0,none⟩),.pointer (some ⟨b2,0,none⟩),.pointer (some ⟨b3,0,none⟩)] (pR [i1,i2,i3]) w X (fun w X' v=>v=.bool (cW x_ am ap aM)/\Cell w X' b1 i1 3 [.int .i64 am]/\Cell w X' b2 i2 43 [.slice a1 ap.length c1]/\Cell w X' b3 i3 95 [.slice a2 aM.length c2])
theorem hb74:aP Tryz.prog 74=true:=by kernel_rfl
def S44:Prop:=∀ w X (n_:Int) (pairs:List (Int × Int)) a1 c1,RS tP2 w X a1 pairs c1->Ret Tryz.prog 44 #[.int .i64 n_,.slice a1 pairs.length c1] aJ w X (fun w X' v=>∃ cB cA,v=.tuple #[.slice cB ((c8 n_ pairs).1).length cA,.bool ((c8 n_ pairs).2)]/\RS tI w X' cB ((c8 n_ pairs).1) cA)
theorem hb44:aP Tryz.prog 44=true:=by kernel_rfl
def S47:Prop:=∀ w X (h_:aj) a1 c1 a2 c2,kD h_->RS az w X a1 h_.ae c1->RS aI w X a2 h_.ak c2->Ret Tryz.prog 47 #[.agg #[.slice a1 h_.ae.length c1,.slice a2 h_.ak.length c2]] aJ w X (fun w X' v=>∃ cB cA,v=.slice cB (bk h_).length cA/\RS aO w X' cB (bk h_) cA)
theorem hb47:aP Tryz.prog 47=true:=by kernel_rfl
def S52:Prop:=∀ w X (o_:al) a1 c1,jV o_->RS ay w X a1 o_.Rows c1->Ret Tryz.prog 52 #[.agg #[.int .i64 o_.aq,.int .i64 o_.ax,.int .i64 o_.aE,.slice a1 o_.Rows.length c1]] aJ w X (fun w X' v=>v=.bool (cG o_))
theorem hb52:aP Tryz.prog 52=true:=by kernel_rfl
def S83_52:Prop:=∀ w X (s_:List al) a1 c1,lK s_->RS az w X a1 s_ c1->dH []->Ret Tryz.prog 83 #[.slice a1 s_.length c1,.func (.func 52) #[] #[]] (pR []) w X (fun w X' v=>v=.int .i64 (ba s_))
theorem hb83:aP Tryz.prog 83=true:=by kernel_rfl
def S54_52:Prop:=∀ w X (s_:List al) a1 c1,lK s_->RS az w X a1 s_ c1->dH []->Ret Tryz.prog 54 #[.slice a1 s_.length c1,.func (.func 52) #[] #[]] (pR []) w X (fun w X' v=>v=.bool (aW s_))
theorem hb54:aP Tryz.prog 54=true:=by kernel_rfl
def S23:Prop:=∀ w X (h_:aj) a1 c1 a2 c2,fV h_->RS az w X a1 h_.ae c1->RS aI w X a2 h_.ak c2->Ret Tryz.prog 23 #[.agg #[.slice a1 h_.ae.length c1,.slice a2 h_.ak.length c2]] aJ w X (fun w X' v=>v=.tuple #[.int .i64 ((aA h_).1),.int .i64 ((aA h_).2)])
theorem hb23:aP Tryz.prog 23=true:=by kernel_rfl
def S45:Prop:=∀ w X (l_:List aH) a1 c1,ry l_->RS bJ w X a1 l_ c1->Ret Tryz.prog 45 #[.slice a1 l_.length c1] aJ w X (fun w X' v=>∃ cB cA,v=.slice cB (cC l_).length cA/\RS aO w X' cB (cC l_) cA)
theorem hb45:aP Tryz.prog 45=true:=by kernel_rfl
def S59:Prop:=∀ w X (l_:List aH) (at_:Int) a1 c1,sM l_ at_->RS bJ w X a1 l_ c1->Ret Tryz.prog 59 #[.slice a1 l_.length c1,.int .i64 at_] aJ w X (fun w X' v=>v=.int .i64 (fp l_ at_))
theorem hb59:aP Tryz.prog 59=true:=by kernel_rfl
def S28:Prop:=∀ w X (objects:List al) (l_:List aH) a1 c1 a2 c2,ko objects l_->RS az w X a1 objects c1->RS bJ w X a2 l_ c2->Ret Tryz.prog 28 #[.slice a1 objects.length c1,.slice a2 l_.length c2] aJ w X (fun w X' v=>v=.tuple #[.int .i64 ((du objects l_).1),.int .i64 ((du objects l_).2)])
theorem hb28:aP Tryz.prog 28=true:=by kernel_rfl
def S48:Prop:=∀ w X (i_:Int) (am:aj) (ap:Int) a1 c1 a2 c2 b1 i1 b2 i2,xv i_ am ap->RS az w X a1 am.ae c1->RS aI w X a2 am.ak c2->Cell w X b1 i1 25 [.slice a1 am.ae.length c1,.slice a2 am.ak.length c2]->Cell w X b2 i2 3 [.int .i64 ap]->dH [i1,i2]->Ret Tryz.prog 48 #[.int .i64 i_,.pointer (some ⟨b1,0,none⟩),.pointer (some ⟨b2,0,none⟩)] (pR [i1,i2]) w X (fun w X' v=>v=.bool (eG i_ am ap)/\Cell w X' b1 i1 25 [.slice a1 am.ae.length c1,.slice a2 am.ak.length c2]/\Cell w X' b2 i2 3 [.int .i64 ap])
theorem hb48:aP Tryz.prog 48=true:=by kernel_rfl
def S46_48:Prop:=∀ w X (l_:List au) (am:aj) (ap:Int) a1 c1 a2 c2 a3 c3 b1 i1 b2 i2,xx l_ am ap->RS aO w X a1 l_ c1->RS az w X a2 am.ae c2->RS aI w X a3 am.ak c3->Cell w X b1 i1 25 [.slice a2 am.ae.length c2,.slice a3 am.ak.length c3]->Cell w X b2 i2 3 [.int .i64 ap]->dH [i1,i2]->Ret Tryz.prog 46 #[.slice a1 l_.length c1,.func (.func 48) #[] #[.pointer (some ⟨b1,0,none⟩),.pointer (some ⟨b2,0,none⟩)]] (pR [i1,i2]) w X (fun w X' v=>∃ cB cA,v=.slice cB (bM l_ am ap).length cA/\RS aO w X' cB (bM l_ am ap) cA/\Cell w X' b1 i1 25 [.slice a2 am.ae.length c2,.slice a3 am.ak.length c3]/\Cell w X' b2 i2 3 [.int .i64 ap])
theorem hb46:aP Tryz.prog 46=true:=by kernel_rfl
def S17:Prop:=∀ w X (h_:aj) (k_:Int) a1 c1 a2 c2,uq h_ k_->RS az w X a1 h_.ae c1->RS aI w X a2 h_.ak c2->Ret Tryz.prog 17 #[.agg #[.slice a1 h_.ae.length c1,.slice a2 h_.ak.length c2],.int .i64 k_] aJ w X (fun w X' v=>∃ cB cA iE iD,v=.agg #[.int .i64 (((dw h_ k_).aw).aq),.int .i64 (((dw h_ k_).aw).ax),.int .i64 (((dw h_ k_).aw).aE),.slice cB (((dw h_ k_).aw).Rows).length cA,.slice iE ((dw h_ k_).ak).length iD]/\RS ay w X' cB (((dw h_ k_).aw).Rows) cA/\RS aO w X' iE ((dw h_ k_).ak) iD)
theorem hb17:aP Tryz.prog 17=true:=by kernel_rfl
def S24:Prop:=∀ w X (h_:aj) a1 c1 a2 c2,fV h_->RS az w X a1 h_.ae c1->RS aI w X a2 h_.ak c2->Ret Tryz.prog 24 #[.agg #[.slice a1 h_.ae.length c1,.slice a2 h_.ak.length c2]] aJ w X (fun w X' v=>∃ cB cA iE iD,v=.tuple #[.slice cB ((cJ h_).1).length cA,.slice iE ((cJ h_).2).length iD]/\RS ao w X' cB ((cJ h_).1) cA/\RS tI w X' iE ((cJ h_).2) iD)
theorem hb24:aP Tryz.prog 24=true:=by kernel_rfl
def S16:Prop:=∀ w X (objects:List al) (l_:List aH) a1 c1 a2 c2,ko objects l_->RS az w X a1 objects c1->RS bJ w X a2 l_ c2->Ret Tryz.prog 16 #[.slice a1 objects.length c1,.slice a2 l_.length c2] aJ w X (fun w X' v=>∃ cB cA iE iD,v=.tuple #[.slice cB ((cX objects l_).1).length cA,.slice iE ((cX objects l_).2).length iD]/\RS ao w X' cB ((cX objects l_).1) cA/\RS tI w X' iE ((cX objects l_).2) iD)
theorem hb16:aP Tryz.prog 16=true:=by kernel_rfl
def S41:Prop:=∀ w X (h_:aj) a1 c1 a2 c2,fV h_->RS az w X a1 h_.ae c1->RS aI w X a2 h_.ak c2->Ret Tryz.prog 41 #[.agg #[.slice a1 h_.ae.length c1,.slice a2 h_.ak.length c2]] aJ w X (fun w X' v=>∃ cB cA iE iD,v=.tuple #[.slice cB ((cb h_).1).length cA,.slice iE ((cb h_).2.1).length iD,.int .i64 ((cb h_).2.2)]/\RS ao w X' cB ((cb h_).1) cA/\RS tI w X' iE ((cb h_).2.1) iD)
theorem hb41:aP Tryz.prog 41=true:=by kernel_rfl
def S69:Prop:=∀ w X (of:List Int) (k_:Int) a1 c1,rA of k_->RS tI w X a1 of c1->Ret Tryz.prog 69 #[.slice a1 of.length c1,.int .i64 k_] aJ w X (fun w X' v=>∃ cB cA,v=.slice cB (aS of k_).length cA/\RS tI w X' cB (aS of k_) cA)
theorem hb69:aP Tryz.prog 69=true:=by kernel_rfl
def S72:Prop:=∀ w X (i_:Int) (am:List Int) (ap:Int) a1 c1 b1 i1 b2 i2,sK i_ am ap->RS tI w X a1 am c1->Cell w X b1 i1 43 [.slice a1 am.length c1]->Cell w X b2 i2 3 [.int .i64 ap]->dH [i1,i2]->Ret Tryz.prog 72 #[.int .i64 i_,.pointer (some ⟨b1,0,none⟩),.pointer (some ⟨b2,0,none⟩)] (pR [i1,i2]) w X (fun w X' v=>v=.bool (di i_ am ap)/\Cell w X' b1 i1 43 [.slice a1 am.length c1]/\Cell w X' b2 i2 3 [.int .i64 ap])
theorem hb72:aP Tryz.prog 72=true:=by kernel_rfl
def S71_72:Prop:=∀ w X (l_:List ab) (am:List Int) (ap:Int) a1 c1 a2 c2 b1 i1 b2 i2,xw l_ am ap->RS ao w X a1 l_ c1->RS tI w X a2 am c2->Cell w X b1 i1 43 [.slice a2 am.length c2]->Cell w X b2 i2 3 [.int .i64 ap]->dH [i1,i2]->Ret Tryz.prog 71 #[.slice a1 l_.length c1,.func (.func 72) #[] #[.pointer (some ⟨b1,0,none⟩),.pointer (some ⟨b2,0,none⟩)]] (pR [i1,i2]) w X (fun w X' v=>∃ cB cA,v=.slice cB (bp l_ am ap).length cA/\RS ao w X' cB (bp l_ am ap) cA/\Cell w X' b1 i1 43 [.slice a2 am.length c2]/\Cell w X' b2 i2 3 [.int .i64 ap])
theorem hb71:aP Tryz.prog 71=true:=by kernel_rfl
def S42:Prop:=∀ w X (h_:aj) (l_:List ab) (of:List Int) a1 c1 a2 c2 a3 c3 a4 c4,xu h_ l_ of->RS az w X a1 h_.ae c1->RS aI w X a2 h_.ak c2->RS ao w X a3 l_ c3->RS tI w X a4 of c4->Ret Tryz.prog 42 #[.agg #[.slice a1 h_.ae.length c1,.slice a2 h_.ak.length c2],.slice a3 l_.length c3,.slice a4 of.length c4] aJ w X (fun w X' v=>∃ cB cA,v=.tuple #[.slice cB ((cv h_ l_ of).1).length cA,.int .i64 ((cv h_ l_ of).2)]/\RS (eW ar) w X' cB ((cv h_ l_ of).1) cA)
theorem hb42:aP Tryz.prog 42=true:=by kernel_rfl
def S91:Prop:=∀ w X (n_:Int) cz,xD n_->Ret Tryz.prog 91 #[.slice none 0 0,.int .i64 n_] aJ w X (fun w X' v=>∃ cB cA,v=.slice cB (cg n_).length cA/\OS ar 56 w X' cz cB (cg n_) cA)
theorem hb91:aP Tryz.prog 91=true:=by kernel_rfl
def S73:Prop:=∀ w X (bQ:List (List aa)) a1 c1,rD bQ->RS (eW ar) w X a1 bQ c1->Ret Tryz.prog 73 #[.slice a1 bQ.length c1] aJ w X (fun w X' v=>∃ cB cA,v=.slice cB (b6 bQ).length cA/\RS ar w X' cB (b6 bQ) cA)
theorem hb73:aP Tryz.prog 73=true:=by kernel_rfl
def S43:Prop:=∀ w X (l_:List ab) (rows:List (List aa)) a1 c1 a2 c2,uu l_ rows->RS ao w X a1 l_ c1->RS (eW ar) w X a2 rows c2->Ret Tryz.prog 43 #[.slice a1 l_.length c1,.slice a2 rows.length c2] aJ w X (fun w X' v=>∃ cB cA iE iD,v=.tuple #[.slice cB ((b8 l_ rows).1).length cA,.slice iE ((b8 l_ rows).2).length iD]/\RS ar w X' cB ((b8 l_ rows).1) cA/\RS tP2 w X' iE ((b8 l_ rows).2) iD)
theorem hb43:aP Tryz.prog 43=true:=by kernel_rfl
def S15:Prop:=∀ w X (h_:aj) a1 c1 a2 c2,fV h_->RS az w X a1 h_.ae c1->RS aI w X a2 h_.ak c2->Ret Tryz.prog 15 #[.agg #[.slice a1 h_.ae.length c1,.slice a2 h_.ak.length c2]] aJ w X (fun w X' v=>∃ cB cA,v=.tuple #[.slice cB ((bP h_).1).length cA,.int .i64 ((bP h_).2)]/\RS ar w X' cB ((bP h_).1) cA)
theorem hb15:aP Tryz.prog 15=true:=by kernel_rfl
def S9:Prop:=∀ w X (h_:aj) a1 c1 a2 c2,fV h_->RS az w X a1 h_.ae c1->RS aI w X a2 h_.ak c2->Ret Tryz.prog 9 #[.agg #[.slice a1 h_.ae.length c1,.slice a2 h_.ak.length c2]] aJ w X (fun w X' v=>v=.tuple #[.bool ((eQ h_).1),.int .i64 ((eQ h_).2)])
theorem hb9:aP Tryz.prog 9=true:=by kernel_rfl
def S32:Prop:=∀ w X (i_:Int) (am:List aa) (ap:List ab) (aM:List Int) (bz:Int) a1 c1 a2 c2 a3 c3 b1 i1 b2 i2 b3 i3 b4 i4,xC i_ am ap aM bz->RS ar w X a1 am c1->RS ao w X a2 ap c2->RS tI w X a3 aM c3->Cell w X b1 i1 26 [.slice a1 am.length c1]->Cell w X b2 i2 42 [.slice a2 ap.length c2]->Cell w X b3 i3 43 [.slice a3 aM.length c3]->Cell w X b4 i4 3 [.int .i64 bz]->dH [i1,i2,i3,i4]->Ret Tryz.prog 32 #[.int .i64 i_,.pointer (some ⟨b1,0,none⟩),.pointer (some ⟨b2,0,none⟩),.pointer (some ⟨b3,0,none⟩),.pointer (some ⟨b4,0,none⟩)] (pR [i1,i2,i3,i4]) w X (fun w X' v=>v=.bool (dy i_ am ap aM bz)/\Cell w X' b1 i1 26 [.slice a1 am.length c1]/\Cell w X' b2 i2 42 [.slice a2 ap.length c2]/\Cell w X' b3 i3 43 [.slice a3 aM.length c3]/\Cell w X' b4 i4 3 [.int .i64 bz])
theorem hb32:aP Tryz.prog 32=true:=by kernel_rfl
def S31_32:Prop:=∀ w X (l_:List aa) (am:List aa) (ap:List ab) (aM:List Int) (bz:Int) a1 c1 a2 c2 a3 c3 a4 c4 b1 i1 b2 i2 b3 i3 b4 i4,xB l_ am ap aM bz->RS ar w X a1 l_ c1->RS ar w X a2 am c2->RS ao w X a3 ap c3->RS tI w X a4 aM c4->Cell w X b1 i1 26 [.slice a2 am.length c2]->Cell w X b2 i2 42 [.slice a3 ap.length c3]->Cell w X b3 i3 43 [.slice a4 aM.length c4]->Cell w X b4 i4 3 [.int .i64 bz]->dH [i1,i2,i3,i4]->Ret Tryz.prog 31 #[.slice a1 l_.length c1,.func (.func 32) #[] #[.pointer (some ⟨b1,0,none⟩),.pointer (some ⟨b2,0,none⟩),.pointer (some ⟨b3,0,none⟩),.pointer (some ⟨b4,0,none⟩)]] (pR [i1,i2,i3,i4]) w X (fun w X' v=>∃ cB cA,v=.slice cB (bL l_ am ap aM bz).length cA/\RS ar w X' cB (bL l_ am ap aM bz) cA/\Cell w X' b1 i1 26 [.slice a2 am.length c2]/\Cell w X' b2 i2 42 [.slice a3 ap.length c3]/\Cell w X' b3 i3 43 [.slice a4 aM.length c4]/\Cell w X' b4 i4 3 [.int .i64 bz])
theorem hb31:aP Tryz.prog 31=true:=by kernel_rfl
def S12:Prop:=∀ w X (h_:aj) (ac:List aa) a1 c1 a2 c2 a3 c3,rB h_ ac->RS az w X a1 h_.ae c1->RS aI w X a2 h_.ak c2->RS ar w X a3 ac c3->Ret Tryz.prog 12 #[.agg #[.slice a1 h_.ae.length c1,.slice a2 h_.ak.length c2],.slice a3 ac.length c3] aJ w X (fun w X' v=>v=.bool (ec h_ ac))
theorem hb12:aP Tryz.prog 12=true:=by kernel_rfl
def S13:Prop:=∀ w X (objects:List al) (l_:List aH) (ac:List aa) a1 c1 a2 c2 a3 c3,xt objects l_ ac->RS az w X a1 objects c1->RS bJ w X a2 l_ c2->RS ar w X a3 ac c3->Ret Tryz.prog 13 #[.slice a1 objects.length c1,.slice a2 l_.length c2,.slice a3 ac.length c3] aJ w X (fun w X' v=>v=.bool (fq objects l_ ac))
theorem hb13:aP Tryz.prog 13=true:=by kernel_rfl
def S27:Prop:=∀ w X,Ret Tryz.prog 27 #[] aJ w X (fun w X' v=>∃ cB cA,v=.agg #[.int .i64 dm.aq,.int .i64 dm.ax,.int .i64 dm.aE,.slice cB dm.Rows.length cA]/\RS ay w X' cB dm.Rows cA)
theorem hb27:aP Tryz.prog 27=true:=by kernel_rfl
def S22:Prop:=∀ w X (object:Int) cz,Ret Tryz.prog 22 #[.int .i64 object] aJ w X (fun w X' v=>∃ cB cA iE iD,v=.agg #[.slice cB ((cr object).ae).length cA,.slice iE ((cr object).ak).length iD]/\RS az w X' cB ((cr object).ae) cA/\OS aI 63 w X' cz iE ((cr object).ak) iD)
theorem hb22:aP Tryz.prog 22=true:=by kernel_rfl
def S11:Prop:=∀ w X (h_:aj) a1 c1 a2 c2,kD h_->RS az w X a1 h_.ae c1->RS aI w X a2 h_.ak c2->Ret Tryz.prog 11 #[.agg #[.slice a1 h_.ae.length c1,.slice a2 h_.ak.length c2]] aJ w X (fun w X' v=>∃ cB cA,v=.slice cB (eV h_).length cA/\RS bJ w X' cB (eV h_) cA)
theorem hb11:aP Tryz.prog 11=true:=by kernel_rfl
def S7:Prop:=∀ w X (h_:aj) a1 c1 a2 c2,RS az w X a1 h_.ae c1->RS aI w X a2 h_.ak c2->Ret Tryz.prog 7 #[.agg #[.slice a1 h_.ae.length c1,.slice a2 h_.ak.length c2]] aJ w X (fun w X' v=>v=.int .i64 (eY h_))
theorem hb7:aP Tryz.prog 7=true:=by kernel_rfl
def S19:Prop:=∀ w X (dL:List Int) (i_:Int) a1 c1,xq dL i_->RS tI w X a1 dL c1->Ret Tryz.prog 19 #[.slice a1 dL.length c1,.int .i64 i_] aJ w X (fun w X' v=>v=.int .i64 (dV dL i_))
theorem hb19:aP Tryz.prog 19=true:=by kernel_rfl
def S6:Prop:=∀ w X (h_:aj) a1 c1 a2 c2,RS az w X a1 h_.ae c1->RS aI w X a2 h_.ak c2->Ret Tryz.prog 6 #[.agg #[.slice a1 h_.ae.length c1,.slice a2 h_.ak.length c2]] aJ w X (fun w X' v=>v=.bool (gQ h_))
theorem hb6:aP Tryz.prog 6=true:=by kernel_rfl
def S8:Prop:=∀ w X,Ret Tryz.prog 8 #[] aJ w X (fun w X' v=>v=.bool fu)
theorem hb8:aP Tryz.prog 8=true:=by kernel_rfl
end Go.Proofs.YteahldlmkheleaaGreat
