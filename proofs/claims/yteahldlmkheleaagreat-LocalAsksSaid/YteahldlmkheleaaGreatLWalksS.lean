/- Walks. -/
import Derived.Test.YteahldlmkheleaaGreatLVC
import Derived.Test.YteahldlmkheleaaGreatLReps
import Derived.Test.YteahldlmkheleaaGreatSk
import Derived.Test.YteahldlmkheleaaGreatLK
set_option linter.all false
namespace Go.Proofs.YteahldlmkheleaaGreat
open Go Go.Sv
abbrev cO (o:ae) (a:Option Addr) (c:Nat):List SV:=[I o.ar,I o.aw,I o.aC,Sl a o.Rows c]
abbrev cR (o:ba):List SV:=[I o.State,I o.Kind,I o.Next,I o.Result]
abbrev cP (o:ab):List SV:=[I o.aj,I o.Kind,I o.aE,I o.End,I o.Result]
abbrev cE (o:au):List SV:=[I o.bh,I o.aj,I o.N]
abbrev cK (o:aa):List SV:=[I o.Oper,I o.Result]
theorem bft (b:Bool):b=true∨b=false:=Bool.eq_false_or_eq_true b
abbrev wR (n:Int):Int:=IntKind.i64.wrap n
abbrev lN {α:Type} (l:List α):Int:=((l.length:Nat):Int)
def S21:Prop:=∀ w X (o_:ae) a1 c1,RS ay w X a1 o_.Rows c1->Ret Tryz.prog 21 #[.agg #[.int .i64 o_.ar,.int .i64 o_.aw,.int .i64 o_.aC,.slice a1 o_.Rows.length c1]] aJ w X (fun w X' v=>v=.bool (gR o_))
theorem hb21:aO Tryz.prog 21=true:=by kernel_rfl
def S81:Prop:=∀ w X (n_:Int) (top:Int),Ret Tryz.prog 81 #[.int .i64 n_,.int .i64 top] aJ w X (fun w X' v=>v=.bool (b0 n_ top))
theorem hb81:aO Tryz.prog 81=true:=by kernel_rfl
def S107:Prop:=∀ w X (vals:List Int) a1 c1,RS tI w X a1 vals c1->Ret Tryz.prog 107 #[.slice a1 vals.length c1] aJ w X (fun w X' v=>v=.int .i64 (gm vals))
theorem hb107:aO Tryz.prog 107=true:=by kernel_rfl
def S113:Prop:=∀ w X (x_:Int),Ret Tryz.prog 113 #[.int .i64 x_] aJ w X (fun w X' v=>v=.bool (eO x_))
theorem hb113:aO Tryz.prog 113=true:=by kernel_rfl
def S108:Prop:=∀ w X (x_:Int) (y_:Int),Ret Tryz.prog 108 #[.int .i64 x_,.int .i64 y_] aJ w X (fun w X' v=>v=.int .i64 (dn x_ y_))
theorem hb108:aO Tryz.prog 108=true:=by kernel_rfl
def S96:Prop:=∀ w X (a_:ba) (b_:ba),Ret Tryz.prog 96 #[.agg #[.int .i64 a_.State,.int .i64 a_.Kind,.int .i64 a_.Next,.int .i64 a_.Result],.agg #[.int .i64 b_.State,.int .i64 b_.Kind,.int .i64 b_.Next,.int .i64 b_.Result]] aJ w X (fun w X' v=>v=.int .i64 (gk a_ b_))
theorem hb96:aO Tryz.prog 96=true:=by kernel_rfl
def S82:Prop:=∀ w X (o_:ae) (i_:Int) a1 c1,preRow o_ i_->RS ay w X a1 o_.Rows c1->Ret Tryz.prog 82 #[.agg #[.int .i64 o_.ar,.int .i64 o_.aw,.int .i64 o_.aC,.slice a1 o_.Rows.length c1],.int .i64 i_] aJ w X (fun w X' v=>v=.int .i64 (hX o_ i_))
theorem hb82:aO Tryz.prog 82=true:=by kernel_rfl
def S53:Prop:=∀ w X (o_:ae) a1 c1,kx o_->RS ay w X a1 o_.Rows c1->Ret Tryz.prog 53 #[.agg #[.int .i64 o_.ar,.int .i64 o_.aw,.int .i64 o_.aC,.slice a1 o_.Rows.length c1]] aJ w X (fun w X' v=>v=.tuple #[.int .i64 ((bp o_).1),.int .i64 ((bp o_).2)])
theorem hb53:aO Tryz.prog 53=true:=by kernel_rfl
def S85:Prop:=∀ w X (o_:ae) (state:Int) a1 c1,yc o_ state->RS ay w X a1 o_.Rows c1->Ret Tryz.prog 85 #[.agg #[.int .i64 o_.ar,.int .i64 o_.aw,.int .i64 o_.aC,.slice a1 o_.Rows.length c1],.int .i64 state] aJ w X (fun w X' v=>v=.int .i64 (eK o_ state))
theorem hb85:aO Tryz.prog 85=true:=by kernel_rfl
def S86:Prop:=∀ w X (o_:ae) (l_:List ab) (state:Int) a1 c1 a2 c2 cG dS jp oU oT,RS ay w X a1 o_.Rows c1->RS ao w X a2 l_ c2->Ret Tryz.prog 86 #[.agg #[.int .i64 o_.ar,.int .i64 o_.aw,.int .i64 o_.aC,.slice a1 o_.Rows.length c1],.slice a2 l_.length c2,.int .i64 state] aJ w X (fun w X' v=>∃ cn cm Ih o9 o8 ut Im Il Ik,v=.func (.func 97) #[] #[.pointer (some ⟨ut,0,none⟩),.pointer (some ⟨Im,0,none⟩),.pointer (some ⟨Il,0,none⟩),.pointer (some ⟨Ik,0,none⟩)]/\RS ao w X' cn ((ep o_ l_ state).1) cm/\RS ay w X' o9 (((ep o_ l_ state).2.2.1).Rows) o8/\Cell w X' ut dS 42 [.slice cn ((ep o_ l_ state).1).length cm]/\Cell w X' Im jp 113 [.map (some Ih)]/\OM kI tI false w X' cG Ih ((ep o_ l_ state).2.1)/\Cell w X' Il oU 48 [.int .i64 (((ep o_ l_ state).2.2.1).ar),.int .i64 (((ep o_ l_ state).2.2.1).aw),.int .i64 (((ep o_ l_ state).2.2.1).aC),.slice o9 (((ep o_ l_ state).2.2.1).Rows).length o8]/\Cell w X' Ik oT 3 [.int .i64 ((ep o_ l_ state).2.2.2)])
theorem hb86:aO Tryz.prog 86=true:=by kernel_rfl
def S110:Prop:=∀ w X (r_:ba) (am:Int) (av:Int) b1 i1 b2 i2,Cell w X b1 i1 3 [.int .i64 am]->Cell w X b2 i2 3 [.int .i64 av]->dW [i1,i2]->Ret Tryz.prog 110 #[.agg #[.int .i64 r_.State,.int .i64 r_.Kind,.int .i64 r_.Next,.int .i64 r_.Result],.pointer (some ⟨b1,0,none⟩),.pointer (some ⟨b2,0,none⟩)] (pR [i1,i2]) w X (fun w X' v=>v=.bool (gq r_ am av)/\Cell w X' b1 i1 3 [.int .i64 am]/\Cell w X' b2 i2 3 [.int .i64 av])
theorem hb110:aO Tryz.prog 110=true:=by kernel_rfl
def S111_110:Prop:=∀ w X (s_:List ba) (am:Int) (av:Int) a1 c1 b1 i1 b2 i2,RS ay w X a1 s_ c1->Cell w X b1 i1 3 [.int .i64 am]->Cell w X b2 i2 3 [.int .i64 av]->dW [i1,i2]->Ret Tryz.prog 111 #[.slice a1 s_.length c1,.func (.func 110) #[] #[.pointer (some ⟨b1,0,none⟩),.pointer (some ⟨b2,0,none⟩)]] (pR [i1,i2]) w X (fun w X' v=>v=.int .i64 (bg s_ am av)/\Cell w X' b1 i1 3 [.int .i64 am]/\Cell w X' b2 i2 3 [.int .i64 av])
theorem hb111:aO Tryz.prog 111=true:=by kernel_rfl
def S103:Prop:=∀ w X (o_:ae) (state:Int) (kind:Int) a1 c1,RS ay w X a1 o_.Rows c1->Ret Tryz.prog 103 #[.agg #[.int .i64 o_.ar,.int .i64 o_.aw,.int .i64 o_.aC,.slice a1 o_.Rows.length c1],.int .i64 state,.int .i64 kind] aJ w X (fun w X' v=>v=.tuple #[.int .i64 ((cu o_ state kind).1),.int .i64 ((cu o_ state kind).2.1),.bool ((cu o_ state kind).2.2)])
theorem hb103:aO Tryz.prog 103=true:=by kernel_rfl
def S109:Prop:=∀ w X (t_:gU) (state:Int) (kind:Int) a1 c1,RS ay w X a1 t_.o.Rows c1->Ret Tryz.prog 109 #[.agg #[.int .i64 t_.o.ar,.int .i64 t_.o.aw,.int .i64 t_.o.aC,.slice a1 t_.o.Rows.length c1],.int .i64 state,.int .i64 kind] aJ w X (fun w X' v=>v=.tuple #[.int .i64 ((eQ t_ state kind).1),.int .i64 ((eQ t_ state kind).2.1),.bool ((eQ t_ state kind).2.2)])
theorem hb109:aO Tryz.prog 109=true:=by kernel_rfl
def S98:Prop:=∀ w X (o_:ae) (state:Int) (kind:Int) (result:Int) a1 c1,RS ay w X a1 o_.Rows c1->Ret Tryz.prog 98 #[.agg #[.int .i64 o_.ar,.int .i64 o_.aw,.int .i64 o_.aC,.slice a1 o_.Rows.length c1],.int .i64 state,.int .i64 kind,.int .i64 result] aJ w X (fun w X' v=>v=.tuple #[.int .i64 ((ix o_ state kind result).1),.int .i64 ((ix o_ state kind result).2)])
theorem hb98:aO Tryz.prog 98=true:=by kernel_rfl
def S97:Prop:=∀ w X (p_:aa) (am:List ab) (av:List (Int × Int)) (aN:ae) (bC:Int) a1 c1 r2 m2 a3 c3 b1 i1 b2 i2 b3 i3 b4 i4,RS ao w X a1 am c1->OM kI tI false w X m2 r2 av->RS ay w X a3 aN.Rows c3->Cell w X b1 i1 42 [.slice a1 am.length c1]->Cell w X b2 i2 113 [.map (some r2)]->Cell w X b3 i3 48 [.int .i64 aN.ar,.int .i64 aN.aw,.int .i64 aN.aC,.slice a3 aN.Rows.length c3]->Cell w X b4 i4 3 [.int .i64 bC]->dW [i1,i2,i3,i4,m2]->Ret Tryz.prog 97 #[.agg #[.int .i64 p_.Oper,.int .i64 p_.Result],.pointer (some ⟨b1,0,none⟩),.pointer (some ⟨b2,0,none⟩),.pointer (some ⟨b3,0,none⟩),.pointer (some ⟨b4,0,none⟩)] (pR [i1,i2,i3,i4,m2]) w X (fun w X' v=>v=.tuple #[.int .i64 ((db p_ am av aN bC).1),.int .i64 ((db p_ am av aN bC).2.1)]/\Cell w X' b1 i1 42 [.slice a1 am.length c1]/\Cell w X' b2 i2 113 [.map (some r2)]/\OM kI tI false w X' m2 r2 ((db p_ am av aN bC).2.2.1)/\Cell w X' b3 i3 48 [.int .i64 aN.ar,.int .i64 aN.aw,.int .i64 aN.aC,.slice a3 aN.Rows.length c3]/\Cell w X' b4 i4 3 [.int .i64 ((db p_ am av aN bC).2.2.2)])
theorem hb97:aO Tryz.prog 97=true:=by kernel_rfl
def S62:Prop:=∀ w X (o_:ae) (l_:List ab) (state:Int) (ac:List aa) a1 c1 a2 c2 a3 c3,yb o_ l_ state ac->RS ay w X a1 o_.Rows c1->RS ao w X a2 l_ c2->RS aq w X a3 ac c3->Ret Tryz.prog 62 #[.agg #[.int .i64 o_.ar,.int .i64 o_.aw,.int .i64 o_.aC,.slice a1 o_.Rows.length c1],.slice a2 l_.length c2,.int .i64 state,.slice a3 ac.length c3] aJ w X (fun w X' v=>v=.tuple #[.int .i64 ((jc o_ l_ state ac).1),.int .i64 ((jc o_ l_ state ac).2.1),.int .i64 ((jc o_ l_ state ac).2.2)])
theorem hb62:aO Tryz.prog 62=true:=by kernel_rfl
def S33:Prop:=∀ w X (o_:ae) (l_:List ab) (ac:List aa) a1 c1 a2 c2 a3 c3,lk o_ l_ ac->RS ay w X a1 o_.Rows c1->RS ao w X a2 l_ c2->RS aq w X a3 ac c3->Ret Tryz.prog 33 #[.agg #[.int .i64 o_.ar,.int .i64 o_.aw,.int .i64 o_.aC,.slice a1 o_.Rows.length c1],.slice a2 l_.length c2,.slice a3 ac.length c3] aJ w X (fun w X' v=>v=.tuple #[.int .i64 ((cg o_ l_ ac).1),.int .i64 ((cg o_ l_ ac).2.1),.int .i64 ((cg o_ l_ ac).2.2)])
theorem hb33:aO Tryz.prog 33=true:=by kernel_rfl
def S87:Prop:=∀ w X (ac:List aa) a1 c1 cG dS,RS aq w X a1 ac c1->Ret Tryz.prog 87 #[.slice a1 ac.length c1] aJ w X (fun w X' v=>∃ Ii ut,v=.func (.func 99) #[] #[.pointer (some ⟨ut,0,none⟩)]/\Cell w X' ut dS 113 [.map (some Ii)]/\OM kI tI false w X' cG Ii (fk ac))
theorem hb87:aO Tryz.prog 87=true:=by kernel_rfl
def S99:Prop:=∀ w X (i_:Int) (am:List (Int × Int)) r1 m1 b1 i1,OM kI tI false w X m1 r1 am->Cell w X b1 i1 113 [.map (some r1)]->dW [i1,m1]->Ret Tryz.prog 99 #[.int .i64 i_,.pointer (some ⟨b1,0,none⟩)] (pR [i1,m1]) w X (fun w X' v=>v=.bool (fg i_ am)/\Cell w X' b1 i1 113 [.map (some r1)]/\OM kI tI false w X' m1 r1 am)
theorem hb99:aO Tryz.prog 99=true:=by kernel_rfl
def S64:Prop:=∀ w X (l_:List ab) (ac:List aa) (pending:Bool) a1 c1 a2 c2,uP l_ ac pending->RS ao w X a1 l_ c1->RS aq w X a2 ac c2->Ret Tryz.prog 64 #[.slice a1 l_.length c1,.slice a2 ac.length c2,.bool pending] aJ w X (fun w X' v=>∃ cn cm,v=.slice cn (en l_ ac pending).length cm/\RS tI w X' cn (en l_ ac pending) cm)
theorem hb64:aO Tryz.prog 64=true:=by kernel_rfl
def S35:Prop:=∀ w X (l_:List ab) (ac:List aa) a1 c1 a2 c2,ql l_ ac->RS ao w X a1 l_ c1->RS aq w X a2 ac c2->Ret Tryz.prog 35 #[.slice a1 l_.length c1,.slice a2 ac.length c2] aJ w X (fun w X' v=>∃ cn cm,v=.slice cn (b7 l_ ac).length cm/\RS tI w X' cn (b7 l_ ac) cm)
theorem hb35:aO Tryz.prog 35=true:=by kernel_rfl
def S63:Prop:=∀ w X (a_:ab) (b_:ab),Ret Tryz.prog 63 #[.agg #[.int .i64 a_.aj,.int .i64 a_.Kind,.int .i64 a_.aE,.int .i64 a_.End,.int .i64 a_.Result],.agg #[.int .i64 b_.aj,.int .i64 b_.Kind,.int .i64 b_.aE,.int .i64 b_.End,.int .i64 b_.Result]] aJ w X (fun w X' v=>v=.bool (aZ a_ b_))
theorem hb63:aO Tryz.prog 63=true:=by kernel_rfl
def S34:Prop:=∀ w X (l_:List ab) (ac:List aa) a1 c1 a2 c2,RS ao w X a1 l_ c1->RS aq w X a2 ac c2->Ret Tryz.prog 34 #[.slice a1 l_.length c1,.slice a2 ac.length c2] aJ w X (fun w X' v=>v=.int .i64 (cA l_ ac))
theorem hb34:aO Tryz.prog 34=true:=by kernel_rfl
def S106:Prop:=∀ w X (o_:ab),Ret Tryz.prog 106 #[.agg #[.int .i64 o_.aj,.int .i64 o_.Kind,.int .i64 o_.aE,.int .i64 o_.End,.int .i64 o_.Result]] aJ w X (fun w X' v=>v=.bool (dR o_))
theorem hb106:aO Tryz.prog 106=true:=by kernel_rfl
def S95:Prop:=∀ w X (o_:ab),Ret Tryz.prog 95 #[.agg #[.int .i64 o_.aj,.int .i64 o_.Kind,.int .i64 o_.aE,.int .i64 o_.End,.int .i64 o_.Result]] aJ w X (fun w X' v=>v=.int .i64 (cQ o_))
theorem hb95:aO Tryz.prog 95=true:=by kernel_rfl
def S80:Prop:=∀ w X (l_:List ab) a1 c1,RS ao w X a1 l_ c1->Ret Tryz.prog 80 #[.slice a1 l_.length c1] aJ w X (fun w X' v=>v=.tuple #[.int .i64 ((bZ l_).1),.int .i64 ((bZ l_).2)])
theorem hb80:aO Tryz.prog 80=true:=by kernel_rfl
def S51:Prop:=∀ w X (o_:ae) (l_:List ab) (ac:List aa) a1 c1 a2 c2 a3 c3,lk o_ l_ ac->RS ay w X a1 o_.Rows c1->RS ao w X a2 l_ c2->RS aq w X a3 ac c3->Ret Tryz.prog 51 #[.agg #[.int .i64 o_.ar,.int .i64 o_.aw,.int .i64 o_.aC,.slice a1 o_.Rows.length c1],.slice a2 l_.length c2,.slice a3 ac.length c3] aJ w X (fun w X' v=>v=.tuple #[.int .i64 ((eH o_ l_ ac).1),.int .i64 ((eH o_ l_ ac).2)])
theorem hb51:aO Tryz.prog 51=true:=by kernel_rfl
def S20:Prop:=∀ w X (o_:ae) (l_:List ab) (ac:List aa) a1 c1 a2 c2 a3 c3,lk o_ l_ ac->RS ay w X a1 o_.Rows c1->RS ao w X a2 l_ c2->RS aq w X a3 ac c3->Ret Tryz.prog 20 #[.agg #[.int .i64 o_.ar,.int .i64 o_.aw,.int .i64 o_.aC,.slice a1 o_.Rows.length c1],.slice a2 l_.length c2,.slice a3 ac.length c3] aJ w X (fun w X' v=>v=.bool (c9 o_ l_ ac))
theorem hb20:aO Tryz.prog 20=true:=by kernel_rfl
def S66:Prop:=∀ w X (ac:List aa) (i_:Int) a1 c1,RS aq w X a1 ac c1->Ret Tryz.prog 66 #[.slice a1 ac.length c1,.int .i64 i_] aJ w X (fun w X' v=>v=.int .i64 (aX ac i_))
theorem hb66:aO Tryz.prog 66=true:=by kernel_rfl
def S68:Prop:=∀ w X (o_:ae) (state:Int) (kind:Int) a1 c1,RS ay w X a1 o_.Rows c1->Ret Tryz.prog 68 #[.agg #[.int .i64 o_.ar,.int .i64 o_.aw,.int .i64 o_.aC,.slice a1 o_.Rows.length c1],.int .i64 state,.int .i64 kind] aJ w X (fun w X' v=>v=.tuple #[.int .i64 ((b9 o_ state kind).1),.int .i64 ((b9 o_ state kind).2.1),.bool ((b9 o_ state kind).2.2)])
theorem hb68:aO Tryz.prog 68=true:=by kernel_rfl
def S65:Prop:=∀ w X (o_:ae) (state:Int) (kind:Int) (result:Int) a1 c1,RS ay w X a1 o_.Rows c1->Ret Tryz.prog 65 #[.agg #[.int .i64 o_.ar,.int .i64 o_.aw,.int .i64 o_.aC,.slice a1 o_.Rows.length c1],.int .i64 state,.int .i64 kind,.int .i64 result] aJ w X (fun w X' v=>v=.tuple #[.int .i64 ((cX o_ state kind result).1),.int .i64 ((cX o_ state kind result).2)])
theorem hb65:aO Tryz.prog 65=true:=by kernel_rfl
def S58:Prop:=∀ w X (o_:ae) a1 c1,RS ay w X a1 o_.Rows c1->Ret Tryz.prog 58 #[.agg #[.int .i64 o_.ar,.int .i64 o_.aw,.int .i64 o_.aC,.slice a1 o_.Rows.length c1]] aJ w X (fun w X' v=>v=.tuple #[.int .i64 ((cJ o_).1),.int .i64 ((cJ o_).2)])
theorem hb58:aO Tryz.prog 58=true:=by kernel_rfl
def S36:Prop:=∀ w X (o_:ae) (l_:List ab) (state:Int) (ac:List aa) a1 c1 a2 c2 a3 c3,RS ay w X a1 o_.Rows c1->RS ao w X a2 l_ c2->RS aq w X a3 ac c3->Ret Tryz.prog 36 #[.agg #[.int .i64 o_.ar,.int .i64 o_.aw,.int .i64 o_.aC,.slice a1 o_.Rows.length c1],.slice a2 l_.length c2,.int .i64 state,.slice a3 ac.length c3] aJ w X (fun w X' v=>v=.tuple #[.int .i64 ((bL o_ l_ state ac).1),.int .i64 ((bL o_ l_ state ac).2.1),.int .i64 ((bL o_ l_ state ac).2.2)])
theorem hb36:aO Tryz.prog 36=true:=by kernel_rfl
def S67:Prop:=∀ w X (a_:ab) (b_:ab),Ret Tryz.prog 67 #[.agg #[.int .i64 a_.aj,.int .i64 a_.Kind,.int .i64 a_.aE,.int .i64 a_.End,.int .i64 a_.Result],.agg #[.int .i64 b_.aj,.int .i64 b_.Kind,.int .i64 b_.aE,.int .i64 b_.End,.int .i64 b_.Result]] aJ w X (fun w X' v=>v=.bool (gC a_ b_))
theorem hb67:aO Tryz.prog 67=true:=by kernel_rfl
def S37:Prop:=∀ w X (l_:List ab) (ac:List aa) a1 c1 a2 c2,RS ao w X a1 l_ c1->RS aq w X a2 ac c2->Ret Tryz.prog 37 #[.slice a1 l_.length c1,.slice a2 ac.length c2] aJ w X (fun w X' v=>v=.int .i64 (eB l_ ac))
theorem hb37:aO Tryz.prog 37=true:=by kernel_rfl
def S38:Prop:=∀ w X (l_:List ab) (ac:List aa) (pending:Bool) a1 c1 a2 c2,rZ l_ ac pending->RS ao w X a1 l_ c1->RS aq w X a2 ac c2->Ret Tryz.prog 38 #[.slice a1 l_.length c1,.slice a2 ac.length c2,.bool pending] aJ w X (fun w X' v=>∃ cn cm,v=.slice cn (eL l_ ac pending).length cm/\RS tI w X' cn (eL l_ ac pending) cm)
theorem hb38:aO Tryz.prog 38=true:=by kernel_rfl
def S61:Prop:=∀ w X (o_:ae) (l_:List ab) (ac:List aa) a1 c1 a2 c2 a3 c3,RS ay w X a1 o_.Rows c1->RS ao w X a2 l_ c2->RS aq w X a3 ac c3->Ret Tryz.prog 61 #[.agg #[.int .i64 o_.ar,.int .i64 o_.aw,.int .i64 o_.aC,.slice a1 o_.Rows.length c1],.slice a2 l_.length c2,.slice a3 ac.length c3] aJ w X (fun w X' v=>v=.bool (ec o_ l_ ac))
theorem hb61:aO Tryz.prog 61=true:=by kernel_rfl
def S60:Prop:=∀ w X (o_:ae) (l_:List ab) (order:List Int) a1 c1 a2 c2 a3 c3,xZ o_ l_ order->RS ay w X a1 o_.Rows c1->RS ao w X a2 l_ c2->RS tI w X a3 order c3->Ret Tryz.prog 60 #[.agg #[.int .i64 o_.ar,.int .i64 o_.aw,.int .i64 o_.aC,.slice a1 o_.Rows.length c1],.slice a2 l_.length c2,.slice a3 order.length c3] aJ w X (fun w X' v=>∃ cn cm,v=.tuple #[.slice cn ((df o_ l_ order).1).length cm,.int .i64 ((df o_ l_ order).2)]/\RS aq w X' cn ((df o_ l_ order).1) cm)
theorem hb60:aO Tryz.prog 60=true:=by kernel_rfl
def S39:Prop:=∀ w X (n_:Int),x5 n_->Ret Tryz.prog 39 #[.int .i64 n_] aJ w X (fun w X' v=>∃ cn cm,v=.slice cn (dj n_).length cm/\RS (bP tI) w X' cn (dj n_) cm)
theorem hb39:aO Tryz.prog 39=true:=by kernel_rfl
def S30:Prop:=∀ w X (o_:ae) (l_:List ab) a1 c1 a2 c2,yn o_ l_->RS ay w X a1 o_.Rows c1->RS ao w X a2 l_ c2->Ret Tryz.prog 30 #[.agg #[.int .i64 o_.ar,.int .i64 o_.aw,.int .i64 o_.aC,.slice a1 o_.Rows.length c1],.slice a2 l_.length c2] aJ w X (fun w X' v=>∃ cn cm,v=.slice cn (eV o_ l_).length cm/\RS (bP aq) w X' cn (eV o_ l_) cm)
theorem hb30:aO Tryz.prog 30=true:=by kernel_rfl
def S114:Prop:=∀ w X (i_:Int) (am:List Bool) a1 c1 b1 i1,uQ i_ am->RS dL w X a1 am c1->Cell w X b1 i1 158 [.slice a1 am.length c1]->dW [i1]->Ret Tryz.prog 114 #[.int .i64 i_,.pointer (some ⟨b1,0,none⟩)] (pR [i1]) w X (fun w X' v=>v=.bool (fe i_ am)/\Cell w X' b1 i1 158 [.slice a1 am.length c1])
theorem hb114:aO Tryz.prog 114=true:=by kernel_rfl
def S112:Prop:=∀ w X (l_:List ab) (done:List Bool) a1 c1 a2 c2,yi l_ done->RS ao w X a1 l_ c1->RS dL w X a2 done c2->Ret Tryz.prog 112 #[.slice a1 l_.length c1,.slice a2 done.length c2] aJ w X (fun w X' v=>∃ cn cm,v=.slice cn (eW l_ done).length cm/\RS tI w X' cn (eW l_ done) cm)
theorem hb112:aO Tryz.prog 112=true:=by kernel_rfl
def S105:Prop:=∀ w X (o_:ae) (l_:List ab) (state:Int) (done:List Bool) a1 c1 a2 c2 a3 c3 cG,yd o_ l_ state done->RS ay w X a1 o_.Rows c1->RS ao w X a2 l_ c2->RS dL w X a3 done c3->Ret Tryz.prog 105 #[.agg #[.int .i64 o_.ar,.int .i64 o_.aw,.int .i64 o_.aC,.slice a1 o_.Rows.length c1],.slice a2 l_.length c2,.int .i64 state,.slice a3 done.length c3] aJ w X (fun w X' v=>∃ cn cm,v=.slice cn (bK o_ l_ state done).length cm/\OS aq 56 w X' cG cn (bK o_ l_ state done) cm)
theorem hb105:aO Tryz.prog 105=true:=by kernel_rfl
def S88:Prop:=∀ w X (o_:ae) (l_:List ab) (jC:Int) a1 c1 a2 c2,yk o_ l_ jC->RS ay w X a1 o_.Rows c1->RS ao w X a2 l_ c2->Ret Tryz.prog 88 #[.agg #[.int .i64 o_.ar,.int .i64 o_.aw,.int .i64 o_.aC,.slice a1 o_.Rows.length c1],.slice a2 l_.length c2,.int .i64 jC] aJ w X (fun w X' v=>v=.int .i64 (cy o_ l_ jC))
theorem hb88:aO Tryz.prog 88=true:=by kernel_rfl
def S104:Prop:=∀ w X (s_:List aa) a1 c1 cG,yj s_->RS aq w X a1 s_ c1->Ret Tryz.prog 104 #[.slice a1 s_.length c1] aJ w X (fun w X' v=>∃ cn cm,v=.slice cn (b5 s_).length cm/\OS aq 56 w X' cG cn (b5 s_) cm)
theorem hb104:aO Tryz.prog 104=true:=by kernel_rfl
def S101:Prop:=∀ w X (state:Int) (am:a9) a1 c1 a2 c2 a3 c3 r4 m4 b1 i1,RS ay w X a1 am.o.Rows c1->RS ao w X a2 am.l c2->RS dL w X a3 am.done c3->OMS aQ tI false w X m4 r4 am.failed->Cell w X b1 i1 161 [.int .i64 am.o.ar,.int .i64 am.o.aw,.int .i64 am.o.aC,.slice a1 am.o.Rows.length c1,.slice a2 am.l.length c2,.slice a3 am.done.length c3,.map (some r4)]->dW [i1,m4]->Ret Tryz.prog 101 #[.pointer (some ⟨b1,0,none⟩),.int .i64 state] (pR [i1,m4]) w X (fun w X' v=>v=.agg #[.int .u32 ((dE state am).done),.int .i64 ((dE state am).state)]/\Cell w X' b1 i1 161 [.int .i64 am.o.ar,.int .i64 am.o.aw,.int .i64 am.o.aC,.slice a1 am.o.Rows.length c1,.slice a2 am.l.length c2,.slice a3 am.done.length c3,.map (some r4)]/\OMS aQ tI false w X' m4 r4 am.failed)
theorem hb101:aO Tryz.prog 101=true:=by kernel_rfl
def S100:Prop:=∀ w X (am:a9) a1 c1 a2 c2 a3 c3 r4 m4 b1 i1,xV am->RS ay w X a1 am.o.Rows c1->RS ao w X a2 am.l c2->RS dL w X a3 am.done c3->OMS aQ tI false w X m4 r4 am.failed->Cell w X b1 i1 161 [.int .i64 am.o.ar,.int .i64 am.o.aw,.int .i64 am.o.aC,.slice a1 am.o.Rows.length c1,.slice a2 am.l.length c2,.slice a3 am.done.length c3,.map (some r4)]->dW [i1,m4]->Ret Tryz.prog 100 #[.pointer (some ⟨b1,0,none⟩)] (pR [i1,m4]) w X (fun w X' v=>v=.bool (dQ am)/\Cell w X' b1 i1 161 [.int .i64 am.o.ar,.int .i64 am.o.aw,.int .i64 am.o.aC,.slice a1 am.o.Rows.length c1,.slice a2 am.l.length c2,.slice a3 am.done.length c3,.map (some r4)]/\OMS aQ tI false w X' m4 r4 am.failed)
theorem hb100:aO Tryz.prog 100=true:=by kernel_rfl
def S102N (N:Nat):Prop:=∀ w X (p_:aa) (av:a9) (aN:Int) (bC:List aa) a1 c1 a2 c2 a3 c3 m3 r4 m4 a5 c5 cG b1 i1 b2 i2 b3 i3 b4 i4,xW p_ av aN bC->BX p_ av aN bC < N->RS ay w X a1 av.o.Rows c1->RS ao w X a2 av.l c2->OS dL 4 w X m3 a3 av.done c3->OMS aQ tI false w X m4 r4 av.failed->RS aq w X a5 bC c5->Cell w X b1 i1 147 [.pointer (some ⟨b2,0,none⟩)]->Cell w X b2 i2 161 [.int .i64 av.o.ar,.int .i64 av.o.aw,.int .i64 av.o.aC,.slice a1 av.o.Rows.length c1,.slice a2 av.l.length c2,.slice a3 av.done.length c3,.map (some r4)]->Cell w X b3 i3 3 [.int .i64 aN]->Cell w X b4 i4 26 [.slice a5 bC.length c5]->dW [i1,i2,i3,i4,m3,m4]->Ret Tryz.prog 102 #[.agg #[.int .i64 p_.Oper,.int .i64 p_.Result],.pointer (some ⟨b1,0,none⟩),.pointer (some ⟨b3,0,none⟩),.pointer (some ⟨b4,0,none⟩)] (pR [i1,i2,i3,i4,m3,m4]) w X (fun w X' v=>∃ cn cm iO iM o9 o8 xU xT,v=.tuple #[.slice cn ((bf p_ av aN bC).1).length cm,.bool ((bf p_ av aN bC).2.1)]/\OS aq 56 w X' cG cn ((bf p_ av aN bC).1) cm/\RS ay w X' iO ((((bf p_ av aN bC).2.2).o).Rows) iM/\RS ao w X' o9 (((bf p_ av aN bC).2.2).l) o8/\OS dL 4 w X' m3 xU (((bf p_ av aN bC).2.2).done) xT/\Cell w X' b1 i1 147 [.pointer (some ⟨b2,0,none⟩)]/\Cell w X' b2 i2 161 [.int .i64 ((((bf p_ av aN bC).2.2).o).ar),.int .i64 ((((bf p_ av aN bC).2.2).o).aw),.int .i64 ((((bf p_ av aN bC).2.2).o).aC),.slice iO ((((bf p_ av aN bC).2.2).o).Rows).length iM,.slice o9 (((bf p_ av aN bC).2.2).l).length o8,.slice xU (((bf p_ av aN bC).2.2).done).length xT,.map (some r4)]/\OMS aQ tI false w X' m4 r4 (((bf p_ av aN bC).2.2).failed)/\Cell w X' b3 i3 3 [.int .i64 aN]/\Cell w X' b4 i4 26 [.slice a5 bC.length c5])theorem hb102:aO Tryz.prog 102=true:=by kernel_rfl
def S90:Prop:=∀ w X (state:Int) (so:List aa) (am:a9) a1 c1 m1 a2 c2 a3 c3 a4 c4 m4 r5 m5 b1 i1,r8 state so am->OS aq 56 w X m1 a1 so c1->RS ay w X a2 am.o.Rows c2->RS ao w X a3 am.l c3->OS dL 4 w X m4 a4 am.done c4->OMS aQ tI false w X m5 r5 am.failed->Cell w X b1 i1 161 [.int .i64 am.o.ar,.int .i64 am.o.aw,.int .i64 am.o.aC,.slice a2 am.o.Rows.length c2,.slice a3 am.l.length c3,.slice a4 am.done.length c4,.map (some r5)]->dW [i1,m1,m4,m5]->Ret Tryz.prog 90 #[.pointer (some ⟨b1,0,none⟩),.int .i64 state,.slice a1 so.length c1] (pR [i1,m1,m4,m5]) w X (fun w X' v=>∃ cn cm iO iM o9 o8 xU xT,v=.tuple #[.slice cn ((aK state so am).1).length cm,.bool ((aK state so am).2.1)]/\OS aq 56 w X' m1 cn ((aK state so am).1) cm/\RS ay w X' iO ((((aK state so am).2.2).o).Rows) iM/\RS ao w X' o9 (((aK state so am).2.2).l) o8/\OS dL 4 w X' m4 xU (((aK state so am).2.2).done) xT/\Cell w X' b1 i1 161 [.int .i64 ((((aK state so am).2.2).o).ar),.int .i64 ((((aK state so am).2.2).o).aw),.int .i64 ((((aK state so am).2.2).o).aC),.slice iO ((((aK state so am).2.2).o).Rows).length iM,.slice o9 (((aK state so am).2.2).l).length o8,.slice xU (((aK state so am).2.2).done).length xT,.map (some r5)]/\OMS aQ tI false w X' m5 r5 (((aK state so am).2.2).failed))
def S90N (N:Nat):Prop:=∀ w X (state:Int) (so:List aa) (am:a9) a1 c1 m1 a2 c2 a3 c3 a4 c4 m4 r5 m5 b1 i1,r8 state so am->oN state so am < N->OS aq 56 w X m1 a1 so c1->RS ay w X a2 am.o.Rows c2->RS ao w X a3 am.l c3->OS dL 4 w X m4 a4 am.done c4->OMS aQ tI false w X m5 r5 am.failed->Cell w X b1 i1 161 [.int .i64 am.o.ar,.int .i64 am.o.aw,.int .i64 am.o.aC,.slice a2 am.o.Rows.length c2,.slice a3 am.l.length c3,.slice a4 am.done.length c4,.map (some r5)]->dW [i1,m1,m4,m5]->Ret Tryz.prog 90 #[.pointer (some ⟨b1,0,none⟩),.int .i64 state,.slice a1 so.length c1] (pR [i1,m1,m4,m5]) w X (fun w X' v=>∃ cn cm iO iM o9 o8 xU xT,v=.tuple #[.slice cn ((aK state so am).1).length cm,.bool ((aK state so am).2.1)]/\OS aq 56 w X' m1 cn ((aK state so am).1) cm/\RS ay w X' iO ((((aK state so am).2.2).o).Rows) iM/\RS ao w X' o9 (((aK state so am).2.2).l) o8/\OS dL 4 w X' m4 xU (((aK state so am).2.2).done) xT/\Cell w X' b1 i1 161 [.int .i64 ((((aK state so am).2.2).o).ar),.int .i64 ((((aK state so am).2.2).o).aw),.int .i64 ((((aK state so am).2.2).o).aC),.slice iO ((((aK state so am).2.2).o).Rows).length iM,.slice o9 (((aK state so am).2.2).l).length o8,.slice xU (((aK state so am).2.2).done).length xT,.map (some r5)]/\OMS aQ tI false w X' m5 r5 (((aK state so am).2.2).failed))theorem hb90:aO Tryz.prog 90=true:=by kernel_rfl
def S89:Prop:=∀ w X (o_:ae) (l_:List ab) a1 c1 a2 c2 cG dS jp,ym o_ l_->RS ay w X a1 o_.Rows c1->RS ao w X a2 l_ c2->Ret Tryz.prog 89 #[.agg #[.int .i64 o_.ar,.int .i64 o_.aw,.int .i64 o_.aC,.slice a1 o_.Rows.length c1],.slice a2 l_.length c2] aJ w X (fun w X' v=>∃ cn cm iO iM o9 o8 Ig ut,v=.pointer (some ⟨ut,0,none⟩)/\RS ay w X' cn (((bE o_ l_).o).Rows) cm/\RS ao w X' iO ((bE o_ l_).l) iM/\OS dL 4 w X' cG o9 ((bE o_ l_).done) o8/\Cell w X' ut jp 161 [.int .i64 (((bE o_ l_).o).ar),.int .i64 (((bE o_ l_).o).aw),.int .i64 (((bE o_ l_).o).aC),.slice cn (((bE o_ l_).o).Rows).length cm,.slice iO ((bE o_ l_).l).length iM,.slice o9 ((bE o_ l_).done).length o8,.map (some Ig)]/\OMS aQ tI false w X' dS Ig ((bE o_ l_).failed))
theorem hb89:aO Tryz.prog 89=true:=by kernel_rfl
def S70:Prop:=∀ w X (o_:ae) (l_:List ab) a1 c1 a2 c2 cG,xX o_ l_->RS ay w X a1 o_.Rows c1->RS ao w X a2 l_ c2->Ret Tryz.prog 70 #[.agg #[.int .i64 o_.ar,.int .i64 o_.aw,.int .i64 o_.aC,.slice a1 o_.Rows.length c1],.slice a2 l_.length c2] aJ w X (fun w X' v=>∃ cn cm,v=.tuple #[.slice cn ((bk o_ l_).1).length cm,.int .i64 ((bk o_ l_).2)]/\OS aq 56 w X' cG cn ((bk o_ l_).1) cm)
theorem hb70:aO Tryz.prog 70=true:=by kernel_rfl
def S84:Prop:=∀ w X (x_:au),Ret Tryz.prog 84 #[.agg #[.int .i64 x_.bh,.int .i64 x_.aj,.int .i64 x_.N]] aJ w X (fun w X' v=>v=.int .i64 (gh x_))
theorem hb84:aO Tryz.prog 84=true:=by kernel_rfl
def S55:Prop:=∀ w X (l_:List au) a1 c1,RS aM w X a1 l_ c1->Ret Tryz.prog 55 #[.slice a1 l_.length c1] aJ w X (fun w X' v=>v=.tuple #[.int .i64 ((bA l_).1),.int .i64 ((bA l_).2)])
theorem hb55:aO Tryz.prog 55=true:=by kernel_rfl
def S94:Prop:=∀ w X (l_:List au) (process:Int) a1 c1,RS aM w X a1 l_ c1->Ret Tryz.prog 94 #[.slice a1 l_.length c1,.int .i64 process] aJ w X (fun w X' v=>v=.int .i64 (hU l_ process))
theorem hb94:aO Tryz.prog 94=true:=by kernel_rfl
def S79:Prop:=∀ w X (l_:List au) (process:Int) a1 c1,RS aM w X a1 l_ c1->Ret Tryz.prog 79 #[.slice a1 l_.length c1,.int .i64 process] aJ w X (fun w X' v=>v=.bool (fo l_ process))
theorem hb79:aO Tryz.prog 79=true:=by kernel_rfl
def S50:Prop:=∀ w X (l_:List au) a1 c1,RS aM w X a1 l_ c1->Ret Tryz.prog 50 #[.slice a1 l_.length c1] aJ w X (fun w X' v=>v=.tuple #[.int .i64 ((eR l_).1),.int .i64 ((eR l_).2)])
theorem hb50:aO Tryz.prog 50=true:=by kernel_rfl
def S57:Prop:=∀ w X (a_:List ba) (b_:List ba) a1 c1 a2 c2,RS ay w X a1 a_ c1->RS ay w X a2 b_ c2->Ret Tryz.prog 57 #[.slice a1 a_.length c1,.slice a2 b_.length c2] aJ w X (fun w X' v=>v=.bool (ew a_ b_))
theorem hb57:aO Tryz.prog 57=true:=by kernel_rfl
def S26:Prop:=∀ w X (a_:ae) (b_:ae) a1 c1 a2 c2,RS ay w X a1 a_.Rows c1->RS ay w X a2 b_.Rows c2->Ret Tryz.prog 26 #[.agg #[.int .i64 a_.ar,.int .i64 a_.aw,.int .i64 a_.aC,.slice a1 a_.Rows.length c1],.agg #[.int .i64 b_.ar,.int .i64 b_.aw,.int .i64 b_.aC,.slice a2 b_.Rows.length c2]] aJ w X (fun w X' v=>v=.bool (iR a_ b_))
theorem hb26:aO Tryz.prog 26=true:=by kernel_rfl
def S56:Prop:=∀ w X (l_:List au) a1 c1,RS aM w X a1 l_ c1->Ret Tryz.prog 56 #[.slice a1 l_.length c1] aJ w X (fun w X' v=>∃ cn cm,v=.tuple #[.slice cn ((fD l_).1).length cm,.int .i64 ((fD l_).2)]/\RS ao w X' cn ((fD l_).1) cm)
theorem hb56:aO Tryz.prog 56=true:=by kernel_rfl
def S18:Prop:=∀ w X (l_:List au) a1 c1,RS aM w X a1 l_ c1->Ret Tryz.prog 18 #[.slice a1 l_.length c1] aJ w X (fun w X' v=>∃ cn cm,v=.tuple #[.slice cn ((eu l_).1).length cm,.int .i64 ((eu l_).2)]/\RS ao w X' cn ((eu l_).1) cm)
theorem hb18:aO Tryz.prog 18=true:=by kernel_rfl
def S25:Prop:=∀ w X (a_:List Int) (b_:List Int) a1 c1 a2 c2,RS tI w X a1 a_ c1->RS tI w X a2 b_ c2->Ret Tryz.prog 25 #[.slice a1 a_.length c1,.slice a2 b_.length c2] aJ w X (fun w X' v=>v=.bool (eS a_ b_))
theorem hb25:aO Tryz.prog 25=true:=by kernel_rfl
def S92:Prop:=∀ w X (s_:List Int) (v_:Int) a1 c1,RS tI w X a1 s_ c1->Ret Tryz.prog 92 #[.slice a1 s_.length c1,.int .i64 v_] aJ w X (fun w X' v=>v=.int .i64 (ea s_ v_))
theorem hb92:aO Tryz.prog 92=true:=by kernel_rfl
def S77:Prop:=∀ w X (s_:List Int) (v_:Int) a1 c1,RS tI w X a1 s_ c1->Ret Tryz.prog 77 #[.slice a1 s_.length c1,.int .i64 v_] aJ w X (fun w X' v=>v=.bool (cx s_ v_))
theorem hb77:aO Tryz.prog 77=true:=by kernel_rfl
def S49:Prop:=∀ w X (s_:List ba) a1 c1,yl s_->RS ay w X a1 s_ c1->Ret Tryz.prog 49 #[.slice a1 s_.length c1] aJ w X (fun w X' v=>∃ cn cm,v=.slice cn (cY s_).length cm/\RS ay w X' cn (cY s_) cm)
theorem hb49:aO Tryz.prog 49=true:=by kernel_rfl
def S76:Prop:=∀ w X (p_:Int × Int) (n_:Int),Ret Tryz.prog 76 #[.agg #[.int .i64 p_.1,.int .i64 p_.2],.int .i64 n_] aJ w X (fun w X' v=>v=.bool (eI p_ n_))
theorem hb76:aO Tryz.prog 76=true:=by kernel_rfl
def S75:Prop:=∀ w X (p_:Int × Int) (am:Int) (av:Int) (aN:List Int) a1 c1 b1 i1 b2 i2 b3 i3,RS tI w X a1 aN c1->Cell w X b1 i1 3 [.int .i64 am]->Cell w X b2 i2 3 [.int .i64 av]->Cell w X b3 i3 43 [.slice a1 aN.length c1]->dW [i1,i2,i3]->Ret Tryz.prog 75 #[.agg #[.int .i64 p_.1,.int .i64 p_.2],.pointer (some ⟨b1,0,none⟩),.pointer (some ⟨b2,0,none⟩),.pointer (some ⟨b3,0,none⟩)] (pR [i1,i2,i3]) w X (fun w X' v=>v=.bool (cj p_ am av aN)/\Cell w X' b1 i1 3 [.int .i64 am]/\Cell w X' b2 i2 3 [.int .i64 av]/\Cell w X' b3 i3 43 [.slice a1 aN.length c1])
theorem hb75:aO Tryz.prog 75=true:=by kernel_rfl
def S93_75:Prop:=∀ w X (s_:List (Int × Int)) (am:Int) (av:Int) (aN:List Int) a1 c1 a2 c2 b1 i1 b2 i2 b3 i3,RS tP2 w X a1 s_ c1->RS tI w X a2 aN c2->Cell w X b1 i1 3 [.int .i64 am]->Cell w X b2 i2 3 [.int .i64 av]->Cell w X b3 i3 43 [.slice a2 aN.length c2]->dW [i1,i2,i3]->Ret Tryz.prog 93 #[.slice a1 s_.length c1,.func (.func 75) #[] #[.pointer (some ⟨b1,0,none⟩),.pointer (some ⟨b2,0,none⟩),.pointer (some ⟨b3,0,none⟩)]] (pR [i1,i2,i3]) w X (fun w X' v=>v=.int .i64 (bm s_ am av aN)/\Cell w X' b1 i1 3 [.int .i64 am]/\Cell w X' b2 i2 3 [.int .i64 av]/\Cell w X' b3 i3 43 [.slice a2 aN.length c2])
theorem hb93:aO Tryz.prog 93=true:=by kernel_rfl
def S78_75:Prop:=∀ w X (s_:List (Int × Int)) (am:Int) (av:Int) (aN:List Int) a1 c1 a2 c2 b1 i1 b2 i2 b3 i3,RS tP2 w X a1 s_ c1->RS tI w X a2 aN c2->Cell w X b1 i1 3 [.int .i64 am]->Cell w X b2 i2 3 [.int .i64 av]->Cell w X b3 i3 43 [.slice a2 aN.length c2]->dW [i1,i2,i3]->Ret Tryz.prog 78 #[.slice a1 s_.length c1,.func (.func 75) #[] #[.pointer (some ⟨b1,0,none⟩),.pointer (some ⟨b2,0,none⟩),.pointer (some ⟨b3,0,none⟩)]] (pR [i1,i2,i3]) w X (fun w X' v=>v=.bool (bF s_ am av aN)/\Cell w X' b1 i1 3 [.int .i64 am]/\Cell w X' b2 i2 3 [.int .i64 av]/\Cell w X' b3 i3 43 [.slice a2 aN.length c2])
theorem hb78:aO Tryz.prog 78=true:=by kernel_rfl
def S74:Prop:=∀ w X (x_:Int) (am:Int) (av:List Int) (aN:List (Int × Int)) a1 c1 a2 c2 b1 i1 b2 i2 b3 i3,RS tI w X a1 av c1->RS tP2 w X a2 aN c2->Cell w X b1 i1 3 [.int .i64 am]->Cell w X b2 i2 43 [.slice a1 av.length c1]->Cell w X b3 i3 95 [.slice a2 aN.length c2]->dW [i1,i2,i3]->Ret Tryz.prog 74 #[.int .i64 x_,.pointer (some ⟨b1,0,none⟩),.pointer (some ⟨b2,0,none⟩),.pointer (some ⟨b3,0,none⟩)] (pR [i1,i2,i3]) w X (fun w X' v=>v=.bool (c6 x_ am av aN)/\Cell w X' b1 i1 3 [.int .i64 am]/\Cell w X' b2 i2 43 [.slice a1 av.length c1]/\Cell w X' b3 i3 95 [.slice a2 aN.length c2])
theorem hb74:aO Tryz.prog 74=true:=by kernel_rfl
def S44:Prop:=∀ w X (n_:Int) (pairs:List (Int × Int)) a1 c1,RS tP2 w X a1 pairs c1->Ret Tryz.prog 44 #[.int .i64 n_,.slice a1 pairs.length c1] aJ w X (fun w X' v=>∃ cn cm,v=.tuple #[.slice cn ((dc n_ pairs).1).length cm,.bool ((dc n_ pairs).2)]/\RS tI w X' cn ((dc n_ pairs).1) cm)
theorem hb44:aO Tryz.prog 44=true:=by kernel_rfl
def S47:Prop:=∀ w X (h_:ak) a1 c1 a2 c2,lh h_->RS aA w X a1 h_.ah c1->RS aP w X a2 h_.al c2->Ret Tryz.prog 47 #[.agg #[.slice a1 h_.ah.length c1,.slice a2 h_.al.length c2]] aJ w X (fun w X' v=>∃ cn cm,v=.slice cn (bl h_).length cm/\RS aM w X' cn (bl h_) cm)
theorem hb47:aO Tryz.prog 47=true:=by kernel_rfl
def S52:Prop:=∀ w X (o_:ae) a1 c1,kx o_->RS ay w X a1 o_.Rows c1->Ret Tryz.prog 52 #[.agg #[.int .i64 o_.ar,.int .i64 o_.aw,.int .i64 o_.aC,.slice a1 o_.Rows.length c1]] aJ w X (fun w X' v=>v=.bool (cM o_))
theorem hb52:aO Tryz.prog 52=true:=by kernel_rfl
def S83_52:Prop:=∀ w X (s_:List ae) a1 c1,lj s_->RS aA w X a1 s_ c1->dW []->Ret Tryz.prog 83 #[.slice a1 s_.length c1,.func (.func 52) #[] #[]] (pR []) w X (fun w X' v=>v=.int .i64 (bb s_))
theorem hb83:aO Tryz.prog 83=true:=by kernel_rfl
def S54_52:Prop:=∀ w X (s_:List ae) a1 c1,lj s_->RS aA w X a1 s_ c1->dW []->Ret Tryz.prog 54 #[.slice a1 s_.length c1,.func (.func 52) #[] #[]] (pR []) w X (fun w X' v=>v=.bool (a8 s_))
theorem hb54:aO Tryz.prog 54=true:=by kernel_rfl
def S23:Prop:=∀ w X (h_:ak) a1 c1 a2 c2,gg h_->RS aA w X a1 h_.ah c1->RS aP w X a2 h_.al c2->Ret Tryz.prog 23 #[.agg #[.slice a1 h_.ah.length c1,.slice a2 h_.al.length c2]] aJ w X (fun w X' v=>v=.tuple #[.int .i64 ((aB h_).1),.int .i64 ((aB h_).2)])
theorem hb23:aO Tryz.prog 23=true:=by kernel_rfl
def S45:Prop:=∀ w X (l_:List az) a1 c1,rY l_->RS br w X a1 l_ c1->Ret Tryz.prog 45 #[.slice a1 l_.length c1] aJ w X (fun w X' v=>∃ cn cm,v=.slice cn (bQ l_).length cm/\RS aM w X' cn (bQ l_) cm)
theorem hb45:aO Tryz.prog 45=true:=by kernel_rfl
def S59:Prop:=∀ w X (l_:List az) (at_:Int) a1 c1,tr l_ at_->RS br w X a1 l_ c1->Ret Tryz.prog 59 #[.slice a1 l_.length c1,.int .i64 at_] aJ w X (fun w X' v=>v=.int .i64 (fC l_ at_))
theorem hb59:aO Tryz.prog 59=true:=by kernel_rfl
def S28:Prop:=∀ w X (objects:List ae) (l_:List az) a1 c1 a2 c2,jl objects l_->RS aA w X a1 objects c1->RS br w X a2 l_ c2->Ret Tryz.prog 28 #[.slice a1 objects.length c1,.slice a2 l_.length c2] aJ w X (fun w X' v=>v=.tuple #[.int .i64 ((cc objects l_).1),.int .i64 ((cc objects l_).2)])
theorem hb28:aO Tryz.prog 28=true:=by kernel_rfl
def S48:Prop:=∀ w X (i_:Int) (am:ak) (av:Int) a1 c1 a2 c2 b1 i1 b2 i2,x4 i_ am av->RS aA w X a1 am.ah c1->RS aP w X a2 am.al c2->Cell w X b1 i1 25 [.slice a1 am.ah.length c1,.slice a2 am.al.length c2]->Cell w X b2 i2 3 [.int .i64 av]->dW [i1,i2]->Ret Tryz.prog 48 #[.int .i64 i_,.pointer (some ⟨b1,0,none⟩),.pointer (some ⟨b2,0,none⟩)] (pR [i1,i2]) w X (fun w X' v=>v=.bool (eN i_ am av)/\Cell w X' b1 i1 25 [.slice a1 am.ah.length c1,.slice a2 am.al.length c2]/\Cell w X' b2 i2 3 [.int .i64 av])
theorem hb48:aO Tryz.prog 48=true:=by kernel_rfl
def S46_48:Prop:=∀ w X (l_:List au) (am:ak) (av:Int) a1 c1 a2 c2 a3 c3 b1 i1 b2 i2,ya l_ am av->RS aM w X a1 l_ c1->RS aA w X a2 am.ah c2->RS aP w X a3 am.al c3->Cell w X b1 i1 25 [.slice a2 am.ah.length c2,.slice a3 am.al.length c3]->Cell w X b2 i2 3 [.int .i64 av]->dW [i1,i2]->Ret Tryz.prog 46 #[.slice a1 l_.length c1,.func (.func 48) #[] #[.pointer (some ⟨b1,0,none⟩),.pointer (some ⟨b2,0,none⟩)]] (pR [i1,i2]) w X (fun w X' v=>∃ cn cm,v=.slice cn (bO l_ am av).length cm/\RS aM w X' cn (bO l_ am av) cm/\Cell w X' b1 i1 25 [.slice a2 am.ah.length c2,.slice a3 am.al.length c3]/\Cell w X' b2 i2 3 [.int .i64 av])
theorem hb46:aO Tryz.prog 46=true:=by kernel_rfl
def S17:Prop:=∀ w X (h_:ak) (k_:Int) a1 c1 a2 c2,yg h_ k_->RS aA w X a1 h_.ah c1->RS aP w X a2 h_.al c2->Ret Tryz.prog 17 #[.agg #[.slice a1 h_.ah.length c1,.slice a2 h_.al.length c2],.int .i64 k_] aJ w X (fun w X' v=>∃ cn cm iO iM,v=.agg #[.int .i64 (((eF h_ k_).ax).ar),.int .i64 (((eF h_ k_).ax).aw),.int .i64 (((eF h_ k_).ax).aC),.slice cn (((eF h_ k_).ax).Rows).length cm,.slice iO ((eF h_ k_).al).length iM]/\RS ay w X' cn (((eF h_ k_).ax).Rows) cm/\RS aM w X' iO ((eF h_ k_).al) iM)
theorem hb17:aO Tryz.prog 17=true:=by kernel_rfl
def S29:Prop:=∀ w X (objects:List ae) (l_:List az) (k_:Int) a1 c1 a2 c2,pL objects l_ k_->RS aA w X a1 objects c1->RS br w X a2 l_ c2->Ret Tryz.prog 29 #[.slice a1 objects.length c1,.slice a2 l_.length c2,.int .i64 k_] aJ w X (fun w X' v=>∃ cn cm,v=.tuple #[.slice cn ((de objects l_ k_).1).length cm,.bool ((de objects l_ k_).2)]/\RS aM w X' cn ((de objects l_ k_).1) cm)
theorem hb29:aO Tryz.prog 29=true:=by kernel_rfl
def S24:Prop:=∀ w X (h_:ak) a1 c1 a2 c2,gg h_->RS aA w X a1 h_.ah c1->RS aP w X a2 h_.al c2->Ret Tryz.prog 24 #[.agg #[.slice a1 h_.ah.length c1,.slice a2 h_.al.length c2]] aJ w X (fun w X' v=>∃ cn cm iO iM,v=.tuple #[.slice cn ((cV h_).1).length cm,.slice iO ((cV h_).2).length iM]/\RS ao w X' cn ((cV h_).1) cm/\RS tI w X' iO ((cV h_).2) iM)
theorem hb24:aO Tryz.prog 24=true:=by kernel_rfl
def S16:Prop:=∀ w X (objects:List ae) (l_:List az) a1 c1 a2 c2,jl objects l_->RS aA w X a1 objects c1->RS br w X a2 l_ c2->Ret Tryz.prog 16 #[.slice a1 objects.length c1,.slice a2 l_.length c2] aJ w X (fun w X' v=>∃ cn cm iO iM,v=.tuple #[.slice cn ((cU objects l_).1).length cm,.slice iO ((cU objects l_).2).length iM]/\RS ao w X' cn ((cU objects l_).1) cm/\RS tI w X' iO ((cU objects l_).2) iM)
theorem hb16:aO Tryz.prog 16=true:=by kernel_rfl
def S41:Prop:=∀ w X (h_:ak) a1 c1 a2 c2,gg h_->RS aA w X a1 h_.ah c1->RS aP w X a2 h_.al c2->Ret Tryz.prog 41 #[.agg #[.slice a1 h_.ah.length c1,.slice a2 h_.al.length c2]] aJ w X (fun w X' v=>∃ cn cm iO iM,v=.tuple #[.slice cn ((cq h_).1).length cm,.slice iO ((cq h_).2.1).length iM,.int .i64 ((cq h_).2.2)]/\RS ao w X' cn ((cq h_).1) cm/\RS tI w X' iO ((cq h_).2.1) iM)
theorem hb41:aO Tryz.prog 41=true:=by kernel_rfl
def S69:Prop:=∀ w X (of:List Int) (k_:Int) a1 c1,r6 of k_->RS tI w X a1 of c1->Ret Tryz.prog 69 #[.slice a1 of.length c1,.int .i64 k_] aJ w X (fun w X' v=>∃ cn cm,v=.slice cn (bo of k_).length cm/\RS tI w X' cn (bo of k_) cm)
theorem hb69:aO Tryz.prog 69=true:=by kernel_rfl
def S72:Prop:=∀ w X (i_:Int) (am:List Int) (av:Int) a1 c1 b1 i1 b2 i2,tq i_ am av->RS tI w X a1 am c1->Cell w X b1 i1 43 [.slice a1 am.length c1]->Cell w X b2 i2 3 [.int .i64 av]->dW [i1,i2]->Ret Tryz.prog 72 #[.int .i64 i_,.pointer (some ⟨b1,0,none⟩),.pointer (some ⟨b2,0,none⟩)] (pR [i1,i2]) w X (fun w X' v=>v=.bool (dp i_ am av)/\Cell w X' b1 i1 43 [.slice a1 am.length c1]/\Cell w X' b2 i2 3 [.int .i64 av])
theorem hb72:aO Tryz.prog 72=true:=by kernel_rfl
def S71_72:Prop:=∀ w X (l_:List ab) (am:List Int) (av:Int) a1 c1 a2 c2 b1 i1 b2 i2,x7 l_ am av->RS ao w X a1 l_ c1->RS tI w X a2 am c2->Cell w X b1 i1 43 [.slice a2 am.length c2]->Cell w X b2 i2 3 [.int .i64 av]->dW [i1,i2]->Ret Tryz.prog 71 #[.slice a1 l_.length c1,.func (.func 72) #[] #[.pointer (some ⟨b1,0,none⟩),.pointer (some ⟨b2,0,none⟩)]] (pR [i1,i2]) w X (fun w X' v=>∃ cn cm,v=.slice cn (bw l_ am av).length cm/\RS ao w X' cn (bw l_ am av) cm/\Cell w X' b1 i1 43 [.slice a2 am.length c2]/\Cell w X' b2 i2 3 [.int .i64 av])
theorem hb71:aO Tryz.prog 71=true:=by kernel_rfl
def S42:Prop:=∀ w X (h_:ak) (l_:List ab) (of:List Int) a1 c1 a2 c2 a3 c3 a4 c4,x3 h_ l_ of->RS aA w X a1 h_.ah c1->RS aP w X a2 h_.al c2->RS ao w X a3 l_ c3->RS tI w X a4 of c4->Ret Tryz.prog 42 #[.agg #[.slice a1 h_.ah.length c1,.slice a2 h_.al.length c2],.slice a3 l_.length c3,.slice a4 of.length c4] aJ w X (fun w X' v=>∃ cn cm,v=.tuple #[.slice cn ((cC h_ l_ of).1).length cm,.int .i64 ((cC h_ l_ of).2)]/\RS (bP aq) w X' cn ((cC h_ l_ of).1) cm)
theorem hb42:aO Tryz.prog 42=true:=by kernel_rfl
def S91:Prop:=∀ w X (n_:Int) cG,yh n_->Ret Tryz.prog 91 #[.slice none 0 0,.int .i64 n_] aJ w X (fun w X' v=>∃ cn cm,v=.slice cn (ct n_).length cm/\OS aq 56 w X' cG cn (ct n_) cm)
theorem hb91:aO Tryz.prog 91=true:=by kernel_rfl
def S73:Prop:=∀ w X (bU:List (List aa)) a1 c1,r9 bU->RS (bP aq) w X a1 bU c1->Ret Tryz.prog 73 #[.slice a1 bU.length c1] aJ w X (fun w X' v=>∃ cn cm,v=.slice cn (cd bU).length cm/\RS aq w X' cn (cd bU) cm)
theorem hb73:aO Tryz.prog 73=true:=by kernel_rfl
def S43:Prop:=∀ w X (l_:List ab) (rows:List (List aa)) a1 c1 a2 c2,uR l_ rows->RS ao w X a1 l_ c1->RS (bP aq) w X a2 rows c2->Ret Tryz.prog 43 #[.slice a1 l_.length c1,.slice a2 rows.length c2] aJ w X (fun w X' v=>∃ cn cm iO iM,v=.tuple #[.slice cn ((cS l_ rows).1).length cm,.slice iO ((cS l_ rows).2).length iM]/\RS aq w X' cn ((cS l_ rows).1) cm/\RS tP2 w X' iO ((cS l_ rows).2) iM)
theorem hb43:aO Tryz.prog 43=true:=by kernel_rfl
def S15:Prop:=∀ w X (h_:ak) a1 c1 a2 c2,gg h_->RS aA w X a1 h_.ah c1->RS aP w X a2 h_.al c2->Ret Tryz.prog 15 #[.agg #[.slice a1 h_.ah.length c1,.slice a2 h_.al.length c2]] aJ w X (fun w X' v=>∃ cn cm,v=.tuple #[.slice cn ((cI h_).1).length cm,.int .i64 ((cI h_).2)]/\RS aq w X' cn ((cI h_).1) cm)
theorem hb15:aO Tryz.prog 15=true:=by kernel_rfl
def S9:Prop:=∀ w X (h_:ak) a1 c1 a2 c2,gg h_->RS aA w X a1 h_.ah c1->RS aP w X a2 h_.al c2->Ret Tryz.prog 9 #[.agg #[.slice a1 h_.ah.length c1,.slice a2 h_.al.length c2]] aJ w X (fun w X' v=>v=.tuple #[.bool ((dx h_).1),.int .i64 ((dx h_).2)])
theorem hb9:aO Tryz.prog 9=true:=by kernel_rfl
def S32:Prop:=∀ w X (i_:Int) (am:List aa) (av:List ab) (aN:List Int) (bC:Int) a1 c1 a2 c2 a3 c3 b1 i1 b2 i2 b3 i3 b4 i4,yf i_ am av aN bC->RS aq w X a1 am c1->RS ao w X a2 av c2->RS tI w X a3 aN c3->Cell w X b1 i1 26 [.slice a1 am.length c1]->Cell w X b2 i2 42 [.slice a2 av.length c2]->Cell w X b3 i3 43 [.slice a3 aN.length c3]->Cell w X b4 i4 3 [.int .i64 bC]->dW [i1,i2,i3,i4]->Ret Tryz.prog 32 #[.int .i64 i_,.pointer (some ⟨b1,0,none⟩),.pointer (some ⟨b2,0,none⟩),.pointer (some ⟨b3,0,none⟩),.pointer (some ⟨b4,0,none⟩)] (pR [i1,i2,i3,i4]) w X (fun w X' v=>v=.bool (dI i_ am av aN bC)/\Cell w X' b1 i1 26 [.slice a1 am.length c1]/\Cell w X' b2 i2 42 [.slice a2 av.length c2]/\Cell w X' b3 i3 43 [.slice a3 aN.length c3]/\Cell w X' b4 i4 3 [.int .i64 bC])
theorem hb32:aO Tryz.prog 32=true:=by kernel_rfl
def S31_32:Prop:=∀ w X (l_:List aa) (am:List aa) (av:List ab) (aN:List Int) (bC:Int) a1 c1 a2 c2 a3 c3 a4 c4 b1 i1 b2 i2 b3 i3 b4 i4,ye l_ am av aN bC->RS aq w X a1 l_ c1->RS aq w X a2 am c2->RS ao w X a3 av c3->RS tI w X a4 aN c4->Cell w X b1 i1 26 [.slice a2 am.length c2]->Cell w X b2 i2 42 [.slice a3 av.length c3]->Cell w X b3 i3 43 [.slice a4 aN.length c4]->Cell w X b4 i4 3 [.int .i64 bC]->dW [i1,i2,i3,i4]->Ret Tryz.prog 31 #[.slice a1 l_.length c1,.func (.func 32) #[] #[.pointer (some ⟨b1,0,none⟩),.pointer (some ⟨b2,0,none⟩),.pointer (some ⟨b3,0,none⟩),.pointer (some ⟨b4,0,none⟩)]] (pR [i1,i2,i3,i4]) w X (fun w X' v=>∃ cn cm,v=.slice cn (bN l_ am av aN bC).length cm/\RS aq w X' cn (bN l_ am av aN bC) cm/\Cell w X' b1 i1 26 [.slice a2 am.length c2]/\Cell w X' b2 i2 42 [.slice a3 av.length c3]/\Cell w X' b3 i3 43 [.slice a4 aN.length c4]/\Cell w X' b4 i4 3 [.int .i64 bC])
theorem hb31:aO Tryz.prog 31=true:=by kernel_rfl
def S12:Prop:=∀ w X (h_:ak) (ac:List aa) a1 c1 a2 c2 a3 c3,r7 h_ ac->RS aA w X a1 h_.ah c1->RS aP w X a2 h_.al c2->RS aq w X a3 ac c3->Ret Tryz.prog 12 #[.agg #[.slice a1 h_.ah.length c1,.slice a2 h_.al.length c2],.slice a3 ac.length c3] aJ w X (fun w X' v=>v=.bool (dT h_ ac))
theorem hb12:aO Tryz.prog 12=true:=by kernel_rfl
def S10:Prop:=∀ w X (objects:List ae) (l_:List az) a1 c1 a2 c2,qm objects l_->RS aA w X a1 objects c1->RS br w X a2 l_ c2->Ret Tryz.prog 10 #[.slice a1 objects.length c1,.slice a2 l_.length c2] aJ w X (fun w X' v=>v=.tuple #[.bool ((gO objects l_).1),.int .i64 ((gO objects l_).2)])
theorem hb10:aO Tryz.prog 10=true:=by kernel_rfl
def S13:Prop:=∀ w X (objects:List ae) (l_:List az) (ac:List aa) a1 c1 a2 c2 a3 c3,xY objects l_ ac->RS aA w X a1 objects c1->RS br w X a2 l_ c2->RS aq w X a3 ac c3->Ret Tryz.prog 13 #[.slice a1 objects.length c1,.slice a2 l_.length c2,.slice a3 ac.length c3] aJ w X (fun w X' v=>v=.bool (fc objects l_ ac))
theorem hb13:aO Tryz.prog 13=true:=by kernel_rfl
def S27:Prop:=∀ w X,Ret Tryz.prog 27 #[] aJ w X (fun w X' v=>∃ cn cm,v=.agg #[.int .i64 du.ar,.int .i64 du.aw,.int .i64 du.aC,.slice cn du.Rows.length cm]/\RS ay w X' cn du.Rows cm)
theorem hb27:aO Tryz.prog 27=true:=by kernel_rfl
def S22:Prop:=∀ w X (object:Int) cG,Ret Tryz.prog 22 #[.int .i64 object] aJ w X (fun w X' v=>∃ cn cm iO iM,v=.agg #[.slice cn ((cz object).ah).length cm,.slice iO ((cz object).al).length iM]/\RS aA w X' cn ((cz object).ah) cm/\OS aP 63 w X' cG iO ((cz object).al) iM)
theorem hb22:aO Tryz.prog 22=true:=by kernel_rfl
def S11:Prop:=∀ w X (h_:ak) a1 c1 a2 c2,lh h_->RS aA w X a1 h_.ah c1->RS aP w X a2 h_.al c2->Ret Tryz.prog 11 #[.agg #[.slice a1 h_.ah.length c1,.slice a2 h_.al.length c2]] aJ w X (fun w X' v=>∃ cn cm,v=.slice cn (dg h_).length cm/\RS br w X' cn (dg h_) cm)
theorem hb11:aO Tryz.prog 11=true:=by kernel_rfl
def S7:Prop:=∀ w X (h_:ak) a1 c1 a2 c2,RS aA w X a1 h_.ah c1->RS aP w X a2 h_.al c2->Ret Tryz.prog 7 #[.agg #[.slice a1 h_.ah.length c1,.slice a2 h_.al.length c2]] aJ w X (fun w X' v=>v=.int .i64 (ff h_))
theorem hb7:aO Tryz.prog 7=true:=by kernel_rfl
def S6:Prop:=∀ w X (h_:ak) a1 c1 a2 c2,RS aA w X a1 h_.ah c1->RS aP w X a2 h_.al c2->Ret Tryz.prog 6 #[.agg #[.slice a1 h_.ah.length c1,.slice a2 h_.al.length c2]] aJ w X (fun w X' v=>v=.bool (gQ h_))
theorem hb6:aO Tryz.prog 6=true:=by kernel_rfl
def S8:Prop:=∀ w X,Ret Tryz.prog 8 #[] aJ w X (fun w X' v=>v=.bool gE)
theorem hb8:aO Tryz.prog 8=true:=by kernel_rfl
end Go.Proofs.YteahldlmkheleaaGreat
