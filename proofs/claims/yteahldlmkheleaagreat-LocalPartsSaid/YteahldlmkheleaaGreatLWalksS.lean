import Derived.Test.YteahldlmkheleaaGreatLVC
import Derived.Test.YteahldlmkheleaaGreatLReps
import Derived.Test.YteahldlmkheleaaGreatSk
import Derived.Test.YteahldlmkheleaaGreatLK
set_option linter.all false
namespace Go.Proofs.YteahldlmkheleaaGreat
open Go Go.Sv
abbrev cO (o:ah) (a:Option Addr) (c:Nat):List SV:=[I o.ar,I o.aw,I o.aE,Sl a o.Rows c]
abbrev cR (o:a8):List SV:=[I o.State,I o.Kind,I o.Next,I o.Result]
abbrev cP (o:ab):List SV:=[I o.aj,I o.Kind,I o.aF,I o.End,I o.Result]
abbrev cE (o:av):List SV:=[I o.bk,I o.aj,I o.N]
abbrev cK (o:aa):List SV:=[I o.Oper,I o.Result]
theorem bft (b:Bool):b=true∨b=false:=Bool.eq_false_or_eq_true b
abbrev wR (n:Int):Int:=IntKind.i64.wrap n
abbrev lN {α:Type} (l:List α):Int:=((l.length:Nat):Int)
def S21:Prop:=∀ w X (o_:ah) a1 c1,RS az w X a1 o_.Rows c1->Ret Tryz.prog 21 #[.agg #[.int .i64 o_.ar,.int .i64 o_.aw,.int .i64 o_.aE,.slice a1 o_.Rows.length c1]] aI w X (fun w X' v=>v=.bool (gI o_))
theorem hb21:aN Tryz.prog 21=true:=by kernel_rfl
def S81:Prop:=∀ w X (n_:Int) (top:Int),Ret Tryz.prog 81 #[.int .i64 n_,.int .i64 top] aI w X (fun w X' v=>v=.bool (bV n_ top))
theorem hb81:aN Tryz.prog 81=true:=by kernel_rfl
def S107:Prop:=∀ w X (vals:List Int) a1 c1,RS tI w X a1 vals c1->Ret Tryz.prog 107 #[.slice a1 vals.length c1] aI w X (fun w X' v=>v=.int .i64 (gd vals))
theorem hb107:aN Tryz.prog 107=true:=by kernel_rfl
def S113:Prop:=∀ w X (x_:Int),Ret Tryz.prog 113 #[.int .i64 x_] aI w X (fun w X' v=>v=.bool (eH x_))
theorem hb113:aN Tryz.prog 113=true:=by kernel_rfl
def S108:Prop:=∀ w X (x_:Int) (y_:Int),Ret Tryz.prog 108 #[.int .i64 x_,.int .i64 y_] aI w X (fun w X' v=>v=.int .i64 (dk x_ y_))
theorem hb108:aN Tryz.prog 108=true:=by kernel_rfl
def S96:Prop:=∀ w X (a_:a8) (b_:a8),Ret Tryz.prog 96 #[.agg #[.int .i64 a_.State,.int .i64 a_.Kind,.int .i64 a_.Next,.int .i64 a_.Result],.agg #[.int .i64 b_.State,.int .i64 b_.Kind,.int .i64 b_.Next,.int .i64 b_.Result]] aI w X (fun w X' v=>v=.int .i64 (fX a_ b_))
theorem hb96:aN Tryz.prog 96=true:=by kernel_rfl
def S82:Prop:=∀ w X (o_:ah) (i_:Int) a1 c1,preRow o_ i_->RS az w X a1 o_.Rows c1->Ret Tryz.prog 82 #[.agg #[.int .i64 o_.ar,.int .i64 o_.aw,.int .i64 o_.aE,.slice a1 o_.Rows.length c1],.int .i64 i_] aI w X (fun w X' v=>v=.int .i64 (g7 o_ i_))
theorem hb82:aN Tryz.prog 82=true:=by kernel_rfl
def S53:Prop:=∀ w X (o_:ah) a1 c1,jW o_->RS az w X a1 o_.Rows c1->Ret Tryz.prog 53 #[.agg #[.int .i64 o_.ar,.int .i64 o_.aw,.int .i64 o_.aE,.slice a1 o_.Rows.length c1]] aI w X (fun w X' v=>v=.tuple #[.int .i64 ((br o_).1),.int .i64 ((br o_).2)])
theorem hb53:aN Tryz.prog 53=true:=by kernel_rfl
def S85:Prop:=∀ w X (o_:ah) (state:Int) a1 c1,xd o_ state->RS az w X a1 o_.Rows c1->Ret Tryz.prog 85 #[.agg #[.int .i64 o_.ar,.int .i64 o_.aw,.int .i64 o_.aE,.slice a1 o_.Rows.length c1],.int .i64 state] aI w X (fun w X' v=>v=.int .i64 (fg o_ state))
theorem hb85:aN Tryz.prog 85=true:=by kernel_rfl
def S86:Prop:=∀ w X (o_:ah) (l_:List ab) (state:Int) a1 c1 a2 c2 cD dK i7 og oe,RS az w X a1 o_.Rows c1->RS aq w X a2 l_ c2->Ret Tryz.prog 86 #[.agg #[.int .i64 o_.ar,.int .i64 o_.aw,.int .i64 o_.aE,.slice a1 o_.Rows.length c1],.slice a2 l_.length c2,.int .i64 state] aI w X (fun w X' v=>∃ co cn G9 oE oD tU He Hd Hc,v=.func (.func 97) #[] #[.pointer (some ⟨tU,0,none⟩),.pointer (some ⟨He,0,none⟩),.pointer (some ⟨Hd,0,none⟩),.pointer (some ⟨Hc,0,none⟩)]/\RS aq w X' co ((dZ o_ l_ state).1) cn/\RS az w X' oE (((dZ o_ l_ state).2.2.1).Rows) oD/\Cell w X' tU dK 42 [.slice co ((dZ o_ l_ state).1).length cn]/\Cell w X' He i7 113 [.map (some G9)]/\OM kI tI false w X' cD G9 ((dZ o_ l_ state).2.1)/\Cell w X' Hd og 48 [.int .i64 (((dZ o_ l_ state).2.2.1).ar),.int .i64 (((dZ o_ l_ state).2.2.1).aw),.int .i64 (((dZ o_ l_ state).2.2.1).aE),.slice oE (((dZ o_ l_ state).2.2.1).Rows).length oD]/\Cell w X' Hc oe 3 [.int .i64 ((dZ o_ l_ state).2.2.2)])
theorem hb86:aN Tryz.prog 86=true:=by kernel_rfl
def S110:Prop:=∀ w X (r_:a8) (al:Int) (ap:Int) b1 i1 b2 i2,Cell w X b1 i1 3 [.int .i64 al]->Cell w X b2 i2 3 [.int .i64 ap]->dP [i1,i2]->Ret Tryz.prog 110 #[.agg #[.int .i64 r_.State,.int .i64 r_.Kind,.int .i64 r_.Next,.int .i64 r_.Result],.pointer (some ⟨b1,0,none⟩),.pointer (some ⟨b2,0,none⟩)] (pR [i1,i2]) w X (fun w X' v=>v=.bool (gh r_ al ap)/\Cell w X' b1 i1 3 [.int .i64 al]/\Cell w X' b2 i2 3 [.int .i64 ap])
theorem hb110:aN Tryz.prog 110=true:=by kernel_rfl
def S111_110:Prop:=∀ w X (s_:List a8) (al:Int) (ap:Int) a1 c1 b1 i1 b2 i2,RS az w X a1 s_ c1->Cell w X b1 i1 3 [.int .i64 al]->Cell w X b2 i2 3 [.int .i64 ap]->dP [i1,i2]->Ret Tryz.prog 111 #[.slice a1 s_.length c1,.func (.func 110) #[] #[.pointer (some ⟨b1,0,none⟩),.pointer (some ⟨b2,0,none⟩)]] (pR [i1,i2]) w X (fun w X' v=>v=.int .i64 (bg s_ al ap)/\Cell w X' b1 i1 3 [.int .i64 al]/\Cell w X' b2 i2 3 [.int .i64 ap])
theorem hb111:aN Tryz.prog 111=true:=by kernel_rfl
def S103:Prop:=∀ w X (o_:ah) (state:Int) (kind:Int) a1 c1,RS az w X a1 o_.Rows c1->Ret Tryz.prog 103 #[.agg #[.int .i64 o_.ar,.int .i64 o_.aw,.int .i64 o_.aE,.slice a1 o_.Rows.length c1],.int .i64 state,.int .i64 kind] aI w X (fun w X' v=>v=.tuple #[.int .i64 ((cm o_ state kind).1),.int .i64 ((cm o_ state kind).2.1),.bool ((cm o_ state kind).2.2)])
theorem hb103:aN Tryz.prog 103=true:=by kernel_rfl
def S109:Prop:=∀ w X (t_:gQ) (state:Int) (kind:Int) a1 c1,RS az w X a1 t_.o.Rows c1->Ret Tryz.prog 109 #[.agg #[.int .i64 t_.o.ar,.int .i64 t_.o.aw,.int .i64 t_.o.aE,.slice a1 t_.o.Rows.length c1],.int .i64 state,.int .i64 kind] aI w X (fun w X' v=>v=.tuple #[.int .i64 ((eI t_ state kind).1),.int .i64 ((eI t_ state kind).2.1),.bool ((eI t_ state kind).2.2)])
theorem hb109:aN Tryz.prog 109=true:=by kernel_rfl
def S98:Prop:=∀ w X (o_:ah) (state:Int) (kind:Int) (result:Int) a1 c1,RS az w X a1 o_.Rows c1->Ret Tryz.prog 98 #[.agg #[.int .i64 o_.ar,.int .i64 o_.aw,.int .i64 o_.aE,.slice a1 o_.Rows.length c1],.int .i64 state,.int .i64 kind,.int .i64 result] aI w X (fun w X' v=>v=.tuple #[.int .i64 ((im o_ state kind result).1),.int .i64 ((im o_ state kind result).2)])
theorem hb98:aN Tryz.prog 98=true:=by kernel_rfl
def S97:Prop:=∀ w X (p_:aa) (al:List ab) (ap:List (Int × Int)) (aL:ah) (bz:Int) a1 c1 r2 m2 a3 c3 b1 i1 b2 i2 b3 i3 b4 i4,RS aq w X a1 al c1->OM kI tI false w X m2 r2 ap->RS az w X a3 aL.Rows c3->Cell w X b1 i1 42 [.slice a1 al.length c1]->Cell w X b2 i2 113 [.map (some r2)]->Cell w X b3 i3 48 [.int .i64 aL.ar,.int .i64 aL.aw,.int .i64 aL.aE,.slice a3 aL.Rows.length c3]->Cell w X b4 i4 3 [.int .i64 bz]->dP [i1,i2,i3,i4,m2]->Ret Tryz.prog 97 #[.agg #[.int .i64 p_.Oper,.int .i64 p_.Result],.pointer (some ⟨b1,0,none⟩),.pointer (some ⟨b2,0,none⟩),.pointer (some ⟨b3,0,none⟩),.pointer (some ⟨b4,0,none⟩)] (pR [i1,i2,i3,i4,m2]) w X (fun w X' v=>v=.tuple #[.int .i64 ((dc p_ al ap aL bz).1),.int .i64 ((dc p_ al ap aL bz).2.1)]/\Cell w X' b1 i1 42 [.slice a1 al.length c1]/\Cell w X' b2 i2 113 [.map (some r2)]/\OM kI tI false w X' m2 r2 ((dc p_ al ap aL bz).2.2.1)/\Cell w X' b3 i3 48 [.int .i64 aL.ar,.int .i64 aL.aw,.int .i64 aL.aE,.slice a3 aL.Rows.length c3]/\Cell w X' b4 i4 3 [.int .i64 ((dc p_ al ap aL bz).2.2.2)])
theorem hb97:aN Tryz.prog 97=true:=by kernel_rfl
def S62:Prop:=∀ w X (o_:ah) (l_:List ab) (state:Int) (ac:List aa) a1 c1 a2 c2 a3 c3,xc o_ l_ state ac->RS az w X a1 o_.Rows c1->RS aq w X a2 l_ c2->RS au w X a3 ac c3->Ret Tryz.prog 62 #[.agg #[.int .i64 o_.ar,.int .i64 o_.aw,.int .i64 o_.aE,.slice a1 o_.Rows.length c1],.slice a2 l_.length c2,.int .i64 state,.slice a3 ac.length c3] aI w X (fun w X' v=>v=.tuple #[.int .i64 ((iO o_ l_ state ac).1),.int .i64 ((iO o_ l_ state ac).2.1),.int .i64 ((iO o_ l_ state ac).2.2)])
theorem hb62:aN Tryz.prog 62=true:=by kernel_rfl
def S33:Prop:=∀ w X (o_:ah) (l_:List ab) (ac:List aa) a1 c1 a2 c2 a3 c3,kE o_ l_ ac->RS az w X a1 o_.Rows c1->RS aq w X a2 l_ c2->RS au w X a3 ac c3->Ret Tryz.prog 33 #[.agg #[.int .i64 o_.ar,.int .i64 o_.aw,.int .i64 o_.aE,.slice a1 o_.Rows.length c1],.slice a2 l_.length c2,.slice a3 ac.length c3] aI w X (fun w X' v=>v=.tuple #[.int .i64 ((cC o_ l_ ac).1),.int .i64 ((cC o_ l_ ac).2.1),.int .i64 ((cC o_ l_ ac).2.2)])
theorem hb33:aN Tryz.prog 33=true:=by kernel_rfl
def S87:Prop:=∀ w X (ac:List aa) a1 c1 cD dK,RS au w X a1 ac c1->Ret Tryz.prog 87 #[.slice a1 ac.length c1] aI w X (fun w X' v=>∃ Ha tU,v=.func (.func 99) #[] #[.pointer (some ⟨tU,0,none⟩)]/\Cell w X' tU dK 113 [.map (some Ha)]/\OM kI tI false w X' cD Ha (eW ac))
theorem hb87:aN Tryz.prog 87=true:=by kernel_rfl
def S99:Prop:=∀ w X (i_:Int) (al:List (Int × Int)) r1 m1 b1 i1,OM kI tI false w X m1 r1 al->Cell w X b1 i1 113 [.map (some r1)]->dP [i1,m1]->Ret Tryz.prog 99 #[.int .i64 i_,.pointer (some ⟨b1,0,none⟩)] (pR [i1,m1]) w X (fun w X' v=>v=.bool (eU i_ al)/\Cell w X' b1 i1 113 [.map (some r1)]/\OM kI tI false w X' m1 r1 al)
theorem hb99:aN Tryz.prog 99=true:=by kernel_rfl
def S64:Prop:=∀ w X (l_:List ab) (ac:List aa) (pending:Bool) a1 c1 a2 c2,ua l_ ac pending->RS aq w X a1 l_ c1->RS au w X a2 ac c2->Ret Tryz.prog 64 #[.slice a1 l_.length c1,.slice a2 ac.length c2,.bool pending] aI w X (fun w X' v=>∃ co cn,v=.slice co (dY l_ ac pending).length cn/\RS tI w X' co (dY l_ ac pending) cn)
theorem hb64:aN Tryz.prog 64=true:=by kernel_rfl
def S35:Prop:=∀ w X (l_:List ab) (ac:List aa) a1 c1 a2 c2,pU l_ ac->RS aq w X a1 l_ c1->RS au w X a2 ac c2->Ret Tryz.prog 35 #[.slice a1 l_.length c1,.slice a2 ac.length c2] aI w X (fun w X' v=>∃ co cn,v=.slice co (bZ l_ ac).length cn/\RS tI w X' co (bZ l_ ac) cn)
theorem hb35:aN Tryz.prog 35=true:=by kernel_rfl
def S63:Prop:=∀ w X (a_:ab) (b_:ab),Ret Tryz.prog 63 #[.agg #[.int .i64 a_.aj,.int .i64 a_.Kind,.int .i64 a_.aF,.int .i64 a_.End,.int .i64 a_.Result],.agg #[.int .i64 b_.aj,.int .i64 b_.Kind,.int .i64 b_.aF,.int .i64 b_.End,.int .i64 b_.Result]] aI w X (fun w X' v=>v=.bool (bh a_ b_))
theorem hb63:aN Tryz.prog 63=true:=by kernel_rfl
def S34:Prop:=∀ w X (l_:List ab) (ac:List aa) a1 c1 a2 c2,RS aq w X a1 l_ c1->RS au w X a2 ac c2->Ret Tryz.prog 34 #[.slice a1 l_.length c1,.slice a2 ac.length c2] aI w X (fun w X' v=>v=.int .i64 (cH l_ ac))
theorem hb34:aN Tryz.prog 34=true:=by kernel_rfl
def S106:Prop:=∀ w X (o_:ab),Ret Tryz.prog 106 #[.agg #[.int .i64 o_.aj,.int .i64 o_.Kind,.int .i64 o_.aF,.int .i64 o_.End,.int .i64 o_.Result]] aI w X (fun w X' v=>v=.bool (en o_))
theorem hb106:aN Tryz.prog 106=true:=by kernel_rfl
def S95:Prop:=∀ w X (o_:ab),Ret Tryz.prog 95 #[.agg #[.int .i64 o_.aj,.int .i64 o_.Kind,.int .i64 o_.aF,.int .i64 o_.End,.int .i64 o_.Result]] aI w X (fun w X' v=>v=.int .i64 (df o_))
theorem hb95:aN Tryz.prog 95=true:=by kernel_rfl
def S80:Prop:=∀ w X (l_:List ab) a1 c1,RS aq w X a1 l_ c1->Ret Tryz.prog 80 #[.slice a1 l_.length c1] aI w X (fun w X' v=>v=.tuple #[.int .i64 ((cQ l_).1),.int .i64 ((cQ l_).2)])
theorem hb80:aN Tryz.prog 80=true:=by kernel_rfl
def S51:Prop:=∀ w X (o_:ah) (l_:List ab) (ac:List aa) a1 c1 a2 c2 a3 c3,kE o_ l_ ac->RS az w X a1 o_.Rows c1->RS aq w X a2 l_ c2->RS au w X a3 ac c3->Ret Tryz.prog 51 #[.agg #[.int .i64 o_.ar,.int .i64 o_.aw,.int .i64 o_.aE,.slice a1 o_.Rows.length c1],.slice a2 l_.length c2,.slice a3 ac.length c3] aI w X (fun w X' v=>v=.tuple #[.int .i64 ((eE o_ l_ ac).1),.int .i64 ((eE o_ l_ ac).2)])
theorem hb51:aN Tryz.prog 51=true:=by kernel_rfl
def S20:Prop:=∀ w X (o_:ah) (l_:List ab) (ac:List aa) a1 c1 a2 c2 a3 c3,kE o_ l_ ac->RS az w X a1 o_.Rows c1->RS aq w X a2 l_ c2->RS au w X a3 ac c3->Ret Tryz.prog 20 #[.agg #[.int .i64 o_.ar,.int .i64 o_.aw,.int .i64 o_.aE,.slice a1 o_.Rows.length c1],.slice a2 l_.length c2,.slice a3 ac.length c3] aI w X (fun w X' v=>v=.bool (dh o_ l_ ac))
theorem hb20:aN Tryz.prog 20=true:=by kernel_rfl
def S66:Prop:=∀ w X (ac:List aa) (i_:Int) a1 c1,RS au w X a1 ac c1->Ret Tryz.prog 66 #[.slice a1 ac.length c1,.int .i64 i_] aI w X (fun w X' v=>v=.int .i64 (cc ac i_))
theorem hb66:aN Tryz.prog 66=true:=by kernel_rfl
def S68:Prop:=∀ w X (o_:ah) (state:Int) (kind:Int) a1 c1,RS az w X a1 o_.Rows c1->Ret Tryz.prog 68 #[.agg #[.int .i64 o_.ar,.int .i64 o_.aw,.int .i64 o_.aE,.slice a1 o_.Rows.length c1],.int .i64 state,.int .i64 kind] aI w X (fun w X' v=>v=.tuple #[.int .i64 ((bq o_ state kind).1),.int .i64 ((bq o_ state kind).2.1),.bool ((bq o_ state kind).2.2)])
theorem hb68:aN Tryz.prog 68=true:=by kernel_rfl
def S65:Prop:=∀ w X (o_:ah) (state:Int) (kind:Int) (result:Int) a1 c1,RS az w X a1 o_.Rows c1->Ret Tryz.prog 65 #[.agg #[.int .i64 o_.ar,.int .i64 o_.aw,.int .i64 o_.aE,.slice a1 o_.Rows.length c1],.int .i64 state,.int .i64 kind,.int .i64 result] aI w X (fun w X' v=>v=.tuple #[.int .i64 ((cX o_ state kind result).1),.int .i64 ((cX o_ state kind result).2)])
theorem hb65:aN Tryz.prog 65=true:=by kernel_rfl
def S58:Prop:=∀ w X (o_:ah) a1 c1,RS az w X a1 o_.Rows c1->Ret Tryz.prog 58 #[.agg #[.int .i64 o_.ar,.int .i64 o_.aw,.int .i64 o_.aE,.slice a1 o_.Rows.length c1]] aI w X (fun w X' v=>v=.tuple #[.int .i64 ((cI o_).1),.int .i64 ((cI o_).2)])
theorem hb58:aN Tryz.prog 58=true:=by kernel_rfl
def S36:Prop:=∀ w X (o_:ah) (l_:List ab) (state:Int) (ac:List aa) a1 c1 a2 c2 a3 c3,RS az w X a1 o_.Rows c1->RS aq w X a2 l_ c2->RS au w X a3 ac c3->Ret Tryz.prog 36 #[.agg #[.int .i64 o_.ar,.int .i64 o_.aw,.int .i64 o_.aE,.slice a1 o_.Rows.length c1],.slice a2 l_.length c2,.int .i64 state,.slice a3 ac.length c3] aI w X (fun w X' v=>v=.tuple #[.int .i64 ((cN o_ l_ state ac).1),.int .i64 ((cN o_ l_ state ac).2.1),.int .i64 ((cN o_ l_ state ac).2.2)])
theorem hb36:aN Tryz.prog 36=true:=by kernel_rfl
def S67:Prop:=∀ w X (a_:ab) (b_:ab),Ret Tryz.prog 67 #[.agg #[.int .i64 a_.aj,.int .i64 a_.Kind,.int .i64 a_.aF,.int .i64 a_.End,.int .i64 a_.Result],.agg #[.int .i64 b_.aj,.int .i64 b_.Kind,.int .i64 b_.aF,.int .i64 b_.End,.int .i64 b_.Result]] aI w X (fun w X' v=>v=.bool (iP a_ b_))
theorem hb67:aN Tryz.prog 67=true:=by kernel_rfl
def S37:Prop:=∀ w X (l_:List ab) (ac:List aa) a1 c1 a2 c2,RS aq w X a1 l_ c1->RS au w X a2 ac c2->Ret Tryz.prog 37 #[.slice a1 l_.length c1,.slice a2 ac.length c2] aI w X (fun w X' v=>v=.int .i64 (ep l_ ac))
theorem hb37:aN Tryz.prog 37=true:=by kernel_rfl
def S38:Prop:=∀ w X (l_:List ab) (ac:List aa) (pending:Bool) a1 c1 a2 c2,rp l_ ac pending->RS aq w X a1 l_ c1->RS au w X a2 ac c2->Ret Tryz.prog 38 #[.slice a1 l_.length c1,.slice a2 ac.length c2,.bool pending] aI w X (fun w X' v=>∃ co cn,v=.slice co (eF l_ ac pending).length cn/\RS tI w X' co (eF l_ ac pending) cn)
theorem hb38:aN Tryz.prog 38=true:=by kernel_rfl
def S39:Prop:=∀ w X (n_:Int),w8 n_->Ret Tryz.prog 39 #[.int .i64 n_] aI w X (fun w X' v=>∃ co cn,v=.slice co (c7 n_).length cn/\RS (b7 tI) w X' co (c7 n_) cn)
theorem hb39:aN Tryz.prog 39=true:=by kernel_rfl
def S114:Prop:=∀ w X (i_:Int) (al:List Bool) a1 c1 b1 i1,ud i_ al->RS dE w X a1 al c1->Cell w X b1 i1 158 [.slice a1 al.length c1]->dP [i1]->Ret Tryz.prog 114 #[.int .i64 i_,.pointer (some ⟨b1,0,none⟩)] (pR [i1]) w X (fun w X' v=>v=.bool (eS i_ al)/\Cell w X' b1 i1 158 [.slice a1 al.length c1])
theorem hb114:aN Tryz.prog 114=true:=by kernel_rfl
def S112:Prop:=∀ w X (l_:List ab) (done:List Bool) a1 c1 a2 c2,xj l_ done->RS aq w X a1 l_ c1->RS dE w X a2 done c2->Ret Tryz.prog 112 #[.slice a1 l_.length c1,.slice a2 done.length c2] aI w X (fun w X' v=>∃ co cn,v=.slice co (eO l_ done).length cn/\RS tI w X' co (eO l_ done) cn)
theorem hb112:aN Tryz.prog 112=true:=by kernel_rfl
def S105:Prop:=∀ w X (o_:ah) (l_:List ab) (state:Int) (done:List Bool) a1 c1 a2 c2 a3 c3 cD,xe o_ l_ state done->RS az w X a1 o_.Rows c1->RS aq w X a2 l_ c2->RS dE w X a3 done c3->Ret Tryz.prog 105 #[.agg #[.int .i64 o_.ar,.int .i64 o_.aw,.int .i64 o_.aE,.slice a1 o_.Rows.length c1],.slice a2 l_.length c2,.int .i64 state,.slice a3 done.length c3] aI w X (fun w X' v=>∃ co cn,v=.slice co (bG o_ l_ state done).length cn/\OS au 56 w X' cD co (bG o_ l_ state done) cn)
theorem hb105:aN Tryz.prog 105=true:=by kernel_rfl
def S88:Prop:=∀ w X (o_:ah) (l_:List ab) (jn:Int) a1 c1 a2 c2,xl o_ l_ jn->RS az w X a1 o_.Rows c1->RS aq w X a2 l_ c2->Ret Tryz.prog 88 #[.agg #[.int .i64 o_.ar,.int .i64 o_.aw,.int .i64 o_.aE,.slice a1 o_.Rows.length c1],.slice a2 l_.length c2,.int .i64 jn] aI w X (fun w X' v=>v=.int .i64 (cu o_ l_ jn))
theorem hb88:aN Tryz.prog 88=true:=by kernel_rfl
def S104:Prop:=∀ w X (s_:List aa) a1 c1 cD,xk s_->RS au w X a1 s_ c1->Ret Tryz.prog 104 #[.slice a1 s_.length c1] aI w X (fun w X' v=>∃ co cn,v=.slice co (bW s_).length cn/\OS au 56 w X' cD co (bW s_) cn)
theorem hb104:aN Tryz.prog 104=true:=by kernel_rfl
def S101:Prop:=∀ w X (state:Int) (al:aX) a1 c1 a2 c2 a3 c3 r4 m4 b1 i1,RS az w X a1 al.o.Rows c1->RS aq w X a2 al.l c2->RS dE w X a3 al.done c3->OMS aQ tI false w X m4 r4 al.failed->Cell w X b1 i1 161 [.int .i64 al.o.ar,.int .i64 al.o.aw,.int .i64 al.o.aE,.slice a1 al.o.Rows.length c1,.slice a2 al.l.length c2,.slice a3 al.done.length c3,.map (some r4)]->dP [i1,m4]->Ret Tryz.prog 101 #[.pointer (some ⟨b1,0,none⟩),.int .i64 state] (pR [i1,m4]) w X (fun w X' v=>v=.agg #[.int .u32 ((dy state al).done),.int .i64 ((dy state al).state)]/\Cell w X' b1 i1 161 [.int .i64 al.o.ar,.int .i64 al.o.aw,.int .i64 al.o.aE,.slice a1 al.o.Rows.length c1,.slice a2 al.l.length c2,.slice a3 al.done.length c3,.map (some r4)]/\OMS aQ tI false w X' m4 r4 al.failed)
theorem hb101:aN Tryz.prog 101=true:=by kernel_rfl
def S100:Prop:=∀ w X (al:aX) a1 c1 a2 c2 a3 c3 r4 m4 b1 i1,wW al->RS az w X a1 al.o.Rows c1->RS aq w X a2 al.l c2->RS dE w X a3 al.done c3->OMS aQ tI false w X m4 r4 al.failed->Cell w X b1 i1 161 [.int .i64 al.o.ar,.int .i64 al.o.aw,.int .i64 al.o.aE,.slice a1 al.o.Rows.length c1,.slice a2 al.l.length c2,.slice a3 al.done.length c3,.map (some r4)]->dP [i1,m4]->Ret Tryz.prog 100 #[.pointer (some ⟨b1,0,none⟩)] (pR [i1,m4]) w X (fun w X' v=>v=.bool (dJ al)/\Cell w X' b1 i1 161 [.int .i64 al.o.ar,.int .i64 al.o.aw,.int .i64 al.o.aE,.slice a1 al.o.Rows.length c1,.slice a2 al.l.length c2,.slice a3 al.done.length c3,.map (some r4)]/\OMS aQ tI false w X' m4 r4 al.failed)
theorem hb100:aN Tryz.prog 100=true:=by kernel_rfl
def S102N (N:Nat):Prop:=∀ w X (p_:aa) (ap:aX) (aL:Int) (bz:List aa) a1 c1 a2 c2 a3 c3 m3 r4 m4 a5 c5 cD b1 i1 b2 i2 b3 i3 b4 i4,wX p_ ap aL bz->AS p_ ap aL bz < N->RS az w X a1 ap.o.Rows c1->RS aq w X a2 ap.l c2->OS dE 4 w X m3 a3 ap.done c3->OMS aQ tI false w X m4 r4 ap.failed->RS au w X a5 bz c5->Cell w X b1 i1 147 [.pointer (some ⟨b2,0,none⟩)]->Cell w X b2 i2 161 [.int .i64 ap.o.ar,.int .i64 ap.o.aw,.int .i64 ap.o.aE,.slice a1 ap.o.Rows.length c1,.slice a2 ap.l.length c2,.slice a3 ap.done.length c3,.map (some r4)]->Cell w X b3 i3 3 [.int .i64 aL]->Cell w X b4 i4 26 [.slice a5 bz.length c5]->dP [i1,i2,i3,i4,m3,m4]->Ret Tryz.prog 102 #[.agg #[.int .i64 p_.Oper,.int .i64 p_.Result],.pointer (some ⟨b1,0,none⟩),.pointer (some ⟨b3,0,none⟩),.pointer (some ⟨b4,0,none⟩)] (pR [i1,i2,i3,i4,m3,m4]) w X (fun w X' v=>∃ co cn iA iz oE oD wV wU,v=.tuple #[.slice co ((bf p_ ap aL bz).1).length cn,.bool ((bf p_ ap aL bz).2.1)]/\OS au 56 w X' cD co ((bf p_ ap aL bz).1) cn/\RS az w X' iA ((((bf p_ ap aL bz).2.2).o).Rows) iz/\RS aq w X' oE (((bf p_ ap aL bz).2.2).l) oD/\OS dE 4 w X' m3 wV (((bf p_ ap aL bz).2.2).done) wU/\Cell w X' b1 i1 147 [.pointer (some ⟨b2,0,none⟩)]/\Cell w X' b2 i2 161 [.int .i64 ((((bf p_ ap aL bz).2.2).o).ar),.int .i64 ((((bf p_ ap aL bz).2.2).o).aw),.int .i64 ((((bf p_ ap aL bz).2.2).o).aE),.slice iA ((((bf p_ ap aL bz).2.2).o).Rows).length iz,.slice oE (((bf p_ ap aL bz).2.2).l).length oD,.slice wV (((bf p_ ap aL bz).2.2).done).length wU,.map (some r4)]/\OMS aQ tI false w X' m4 r4 (((bf p_ ap aL bz).2.2).failed)/\Cell w X' b3 i3 3 [.int .i64 aL]/\Cell w X' b4 i4 26 [.slice a5 bz.length c5])theorem hb102:aN Tryz.prog 102=true:=by kernel_rfl
def S90:Prop:=∀ w X (state:Int) (so:List aa) (al:aX) a1 c1 m1 a2 c2 a3 c3 a4 c4 m4 r5 m5 b1 i1,rr state so al->OS au 56 w X m1 a1 so c1->RS az w X a2 al.o.Rows c2->RS aq w X a3 al.l c3->OS dE 4 w X m4 a4 al.done c4->OMS aQ tI false w X m5 r5 al.failed->Cell w X b1 i1 161 [.int .i64 al.o.ar,.int .i64 al.o.aw,.int .i64 al.o.aE,.slice a2 al.o.Rows.length c2,.slice a3 al.l.length c3,.slice a4 al.done.length c4,.map (some r5)]->dP [i1,m1,m4,m5]->Ret Tryz.prog 90 #[.pointer (some ⟨b1,0,none⟩),.int .i64 state,.slice a1 so.length c1] (pR [i1,m1,m4,m5]) w X (fun w X' v=>∃ co cn iA iz oE oD wV wU,v=.tuple #[.slice co ((aH state so al).1).length cn,.bool ((aH state so al).2.1)]/\OS au 56 w X' m1 co ((aH state so al).1) cn/\RS az w X' iA ((((aH state so al).2.2).o).Rows) iz/\RS aq w X' oE (((aH state so al).2.2).l) oD/\OS dE 4 w X' m4 wV (((aH state so al).2.2).done) wU/\Cell w X' b1 i1 161 [.int .i64 ((((aH state so al).2.2).o).ar),.int .i64 ((((aH state so al).2.2).o).aw),.int .i64 ((((aH state so al).2.2).o).aE),.slice iA ((((aH state so al).2.2).o).Rows).length iz,.slice oE (((aH state so al).2.2).l).length oD,.slice wV (((aH state so al).2.2).done).length wU,.map (some r5)]/\OMS aQ tI false w X' m5 r5 (((aH state so al).2.2).failed))
def S90N (N:Nat):Prop:=∀ w X (state:Int) (so:List aa) (al:aX) a1 c1 m1 a2 c2 a3 c3 a4 c4 m4 r5 m5 b1 i1,rr state so al->n7 state so al < N->OS au 56 w X m1 a1 so c1->RS az w X a2 al.o.Rows c2->RS aq w X a3 al.l c3->OS dE 4 w X m4 a4 al.done c4->OMS aQ tI false w X m5 r5 al.failed->Cell w X b1 i1 161 [.int .i64 al.o.ar,.int .i64 al.o.aw,.int .i64 al.o.aE,.slice a2 al.o.Rows.length c2,.slice a3 al.l.length c3,.slice a4 al.done.length c4,.map (some r5)]->dP [i1,m1,m4,m5]->Ret Tryz.prog 90 #[.pointer (some ⟨b1,0,none⟩),.int .i64 state,.slice a1 so.length c1] (pR [i1,m1,m4,m5]) w X (fun w X' v=>∃ co cn iA iz oE oD wV wU,v=.tuple #[.slice co ((aH state so al).1).length cn,.bool ((aH state so al).2.1)]/\OS au 56 w X' m1 co ((aH state so al).1) cn/\RS az w X' iA ((((aH state so al).2.2).o).Rows) iz/\RS aq w X' oE (((aH state so al).2.2).l) oD/\OS dE 4 w X' m4 wV (((aH state so al).2.2).done) wU/\Cell w X' b1 i1 161 [.int .i64 ((((aH state so al).2.2).o).ar),.int .i64 ((((aH state so al).2.2).o).aw),.int .i64 ((((aH state so al).2.2).o).aE),.slice iA ((((aH state so al).2.2).o).Rows).length iz,.slice oE (((aH state so al).2.2).l).length oD,.slice wV (((aH state so al).2.2).done).length wU,.map (some r5)]/\OMS aQ tI false w X' m5 r5 (((aH state so al).2.2).failed))theorem hb90:aN Tryz.prog 90=true:=by kernel_rfl
def S89:Prop:=∀ w X (o_:ah) (l_:List ab) a1 c1 a2 c2 cD dK i7,xn o_ l_->RS az w X a1 o_.Rows c1->RS aq w X a2 l_ c2->Ret Tryz.prog 89 #[.agg #[.int .i64 o_.ar,.int .i64 o_.aw,.int .i64 o_.aE,.slice a1 o_.Rows.length c1],.slice a2 l_.length c2] aI w X (fun w X' v=>∃ co cn iA iz oE oD G8 tU,v=.pointer (some ⟨tU,0,none⟩)/\RS az w X' co (((bB o_ l_).o).Rows) cn/\RS aq w X' iA ((bB o_ l_).l) iz/\OS dE 4 w X' cD oE ((bB o_ l_).done) oD/\Cell w X' tU i7 161 [.int .i64 (((bB o_ l_).o).ar),.int .i64 (((bB o_ l_).o).aw),.int .i64 (((bB o_ l_).o).aE),.slice co (((bB o_ l_).o).Rows).length cn,.slice iA ((bB o_ l_).l).length iz,.slice oE ((bB o_ l_).done).length oD,.map (some G8)]/\OMS aQ tI false w X' dK G8 ((bB o_ l_).failed))
theorem hb89:aN Tryz.prog 89=true:=by kernel_rfl
def S70:Prop:=∀ w X (o_:ah) (l_:List ab) a1 c1 a2 c2 cD,wY o_ l_->RS az w X a1 o_.Rows c1->RS aq w X a2 l_ c2->Ret Tryz.prog 70 #[.agg #[.int .i64 o_.ar,.int .i64 o_.aw,.int .i64 o_.aE,.slice a1 o_.Rows.length c1],.slice a2 l_.length c2] aI w X (fun w X' v=>∃ co cn,v=.tuple #[.slice co ((bj o_ l_).1).length cn,.int .i64 ((bj o_ l_).2)]/\OS au 56 w X' cD co ((bj o_ l_).1) cn)
theorem hb70:aN Tryz.prog 70=true:=by kernel_rfl
def S84:Prop:=∀ w X (x_:av),Ret Tryz.prog 84 #[.agg #[.int .i64 x_.bk,.int .i64 x_.aj,.int .i64 x_.N]] aI w X (fun w X' v=>v=.int .i64 (fT x_))
theorem hb84:aN Tryz.prog 84=true:=by kernel_rfl
def S55:Prop:=∀ w X (l_:List av) a1 c1,RS aO w X a1 l_ c1->Ret Tryz.prog 55 #[.slice a1 l_.length c1] aI w X (fun w X' v=>v=.tuple #[.int .i64 ((bP l_).1),.int .i64 ((bP l_).2)])
theorem hb55:aN Tryz.prog 55=true:=by kernel_rfl
def S94:Prop:=∀ w X (l_:List av) (process:Int) a1 c1,RS aO w X a1 l_ c1->Ret Tryz.prog 94 #[.slice a1 l_.length c1,.int .i64 process] aI w X (fun w X' v=>v=.int .i64 (gY l_ process))
theorem hb94:aN Tryz.prog 94=true:=by kernel_rfl
def S79:Prop:=∀ w X (l_:List av) (process:Int) a1 c1,RS aO w X a1 l_ c1->Ret Tryz.prog 79 #[.slice a1 l_.length c1,.int .i64 process] aI w X (fun w X' v=>v=.bool (eY l_ process))
theorem hb79:aN Tryz.prog 79=true:=by kernel_rfl
def S50:Prop:=∀ w X (l_:List av) a1 c1,RS aO w X a1 l_ c1->Ret Tryz.prog 50 #[.slice a1 l_.length c1] aI w X (fun w X' v=>v=.tuple #[.int .i64 ((eJ l_).1),.int .i64 ((eJ l_).2)])
theorem hb50:aN Tryz.prog 50=true:=by kernel_rfl
def S57:Prop:=∀ w X (a_:List a8) (b_:List a8) a1 c1 a2 c2,RS az w X a1 a_ c1->RS az w X a2 b_ c2->Ret Tryz.prog 57 #[.slice a1 a_.length c1,.slice a2 b_.length c2] aI w X (fun w X' v=>v=.bool (ea a_ b_))
theorem hb57:aN Tryz.prog 57=true:=by kernel_rfl
def S26:Prop:=∀ w X (a_:ah) (b_:ah) a1 c1 a2 c2,RS az w X a1 a_.Rows c1->RS az w X a2 b_.Rows c2->Ret Tryz.prog 26 #[.agg #[.int .i64 a_.ar,.int .i64 a_.aw,.int .i64 a_.aE,.slice a1 a_.Rows.length c1],.agg #[.int .i64 b_.ar,.int .i64 b_.aw,.int .i64 b_.aE,.slice a2 b_.Rows.length c2]] aI w X (fun w X' v=>v=.bool (iC a_ b_))
theorem hb26:aN Tryz.prog 26=true:=by kernel_rfl
def S56:Prop:=∀ w X (l_:List av) a1 c1,RS aO w X a1 l_ c1->Ret Tryz.prog 56 #[.slice a1 l_.length c1] aI w X (fun w X' v=>∃ co cn,v=.tuple #[.slice co ((gl l_).1).length cn,.int .i64 ((gl l_).2)]/\RS aq w X' co ((gl l_).1) cn)
theorem hb56:aN Tryz.prog 56=true:=by kernel_rfl
def S18:Prop:=∀ w X (l_:List av) a1 c1,RS aO w X a1 l_ c1->Ret Tryz.prog 18 #[.slice a1 l_.length c1] aI w X (fun w X' v=>∃ co cn,v=.tuple #[.slice co ((iq l_).1).length cn,.int .i64 ((iq l_).2)]/\RS aq w X' co ((iq l_).1) cn)
theorem hb18:aN Tryz.prog 18=true:=by kernel_rfl
def S25:Prop:=∀ w X (a_:List Int) (b_:List Int) a1 c1 a2 c2,RS tI w X a1 a_ c1->RS tI w X a2 b_ c2->Ret Tryz.prog 25 #[.slice a1 a_.length c1,.slice a2 b_.length c2] aI w X (fun w X' v=>v=.bool (eK a_ b_))
theorem hb25:aN Tryz.prog 25=true:=by kernel_rfl
def S92:Prop:=∀ w X (s_:List Int) (v_:Int) a1 c1,RS tI w X a1 s_ c1->Ret Tryz.prog 92 #[.slice a1 s_.length c1,.int .i64 v_] aI w X (fun w X' v=>v=.int .i64 (dV s_ v_))
theorem hb92:aN Tryz.prog 92=true:=by kernel_rfl
def S77:Prop:=∀ w X (s_:List Int) (v_:Int) a1 c1,RS tI w X a1 s_ c1->Ret Tryz.prog 77 #[.slice a1 s_.length c1,.int .i64 v_] aI w X (fun w X' v=>v=.bool (ct s_ v_))
theorem hb77:aN Tryz.prog 77=true:=by kernel_rfl
def S49:Prop:=∀ w X (s_:List a8) a1 c1,xm s_->RS az w X a1 s_ c1->Ret Tryz.prog 49 #[.slice a1 s_.length c1] aI w X (fun w X' v=>∃ co cn,v=.slice co (cY s_).length cn/\RS az w X' co (cY s_) cn)
theorem hb49:aN Tryz.prog 49=true:=by kernel_rfl
def S76:Prop:=∀ w X (p_:Int × Int) (n_:Int),Ret Tryz.prog 76 #[.agg #[.int .i64 p_.1,.int .i64 p_.2],.int .i64 n_] aI w X (fun w X' v=>v=.bool (dR p_ n_))
theorem hb76:aN Tryz.prog 76=true:=by kernel_rfl
def S75:Prop:=∀ w X (p_:Int × Int) (al:Int) (ap:Int) (aL:List Int) a1 c1 b1 i1 b2 i2 b3 i3,RS tI w X a1 aL c1->Cell w X b1 i1 3 [.int .i64 al]->Cell w X b2 i2 3 [.int .i64 ap]->Cell w X b3 i3 43 [.slice a1 aL.length c1]->dP [i1,i2,i3]->Ret Tryz.prog 75 #[.agg #[.int .i64 p_.1,.int .i64 p_.2],.pointer (some ⟨b1,0,none⟩),.pointer (some ⟨b2,0,none⟩),.pointer (some ⟨b3,0,none⟩)] (pR [i1,i2,i3]) w X (fun w X' v=>v=.bool (ca p_ al ap aL)/\Cell w X' b1 i1 3 [.int .i64 al]/\Cell w X' b2 i2 3 [.int .i64 ap]/\Cell w X' b3 i3 43 [.slice a1 aL.length c1])
theorem hb75:aN Tryz.prog 75=true:=by kernel_rfl
def S93_75:Prop:=∀ w X (s_:List (Int × Int)) (al:Int) (ap:Int) (aL:List Int) a1 c1 a2 c2 b1 i1 b2 i2 b3 i3,RS tP2 w X a1 s_ c1->RS tI w X a2 aL c2->Cell w X b1 i1 3 [.int .i64 al]->Cell w X b2 i2 3 [.int .i64 ap]->Cell w X b3 i3 43 [.slice a2 aL.length c2]->dP [i1,i2,i3]->Ret Tryz.prog 93 #[.slice a1 s_.length c1,.func (.func 75) #[] #[.pointer (some ⟨b1,0,none⟩),.pointer (some ⟨b2,0,none⟩),.pointer (some ⟨b3,0,none⟩)]] (pR [i1,i2,i3]) w X (fun w X' v=>v=.int .i64 (bm s_ al ap aL)/\Cell w X' b1 i1 3 [.int .i64 al]/\Cell w X' b2 i2 3 [.int .i64 ap]/\Cell w X' b3 i3 43 [.slice a2 aL.length c2])
theorem hb93:aN Tryz.prog 93=true:=by kernel_rfl
def S78_75:Prop:=∀ w X (s_:List (Int × Int)) (al:Int) (ap:Int) (aL:List Int) a1 c1 a2 c2 b1 i1 b2 i2 b3 i3,RS tP2 w X a1 s_ c1->RS tI w X a2 aL c2->Cell w X b1 i1 3 [.int .i64 al]->Cell w X b2 i2 3 [.int .i64 ap]->Cell w X b3 i3 43 [.slice a2 aL.length c2]->dP [i1,i2,i3]->Ret Tryz.prog 78 #[.slice a1 s_.length c1,.func (.func 75) #[] #[.pointer (some ⟨b1,0,none⟩),.pointer (some ⟨b2,0,none⟩),.pointer (some ⟨b3,0,none⟩)]] (pR [i1,i2,i3]) w X (fun w X' v=>v=.bool (bD s_ al ap aL)/\Cell w X' b1 i1 3 [.int .i64 al]/\Cell w X' b2 i2 3 [.int .i64 ap]/\Cell w X' b3 i3 43 [.slice a2 aL.length c2])
theorem hb78:aN Tryz.prog 78=true:=by kernel_rfl
def S74:Prop:=∀ w X (x_:Int) (al:Int) (ap:List Int) (aL:List (Int × Int)) a1 c1 a2 c2 b1 i1 b2 i2 b3 i3,RS tI w X a1 ap c1->RS tP2 w X a2 aL c2->Cell w X b1 i1 3 [.int .i64 al]->Cell w X b2 i2 43 [.slice a1 ap.length c1]->Cell w X b3 i3 95 [.slice a2 aL.length c2]->dP [i1,i2,i3]->Ret Tryz.prog 74 #[.int .i64 x_,.pointer (some ⟨b1,0,none⟩),.pointer (some ⟨b2,0,none⟩),.pointer (some ⟨b3,0,none⟩)] (pR [i1,i2,i3]) w X (fun w X' v=>v=.bool (c6 x_ al ap aL)/\Cell w X' b1 i1 3 [.int .i64 al]/\Cell w X' b2 i2 43 [.slice a1 ap.length c1]/\Cell w X' b3 i3 95 [.slice a2 aL.length c2])
theorem hb74:aN Tryz.prog 74=true:=by kernel_rfl
def S44:Prop:=∀ w X (n_:Int) (pairs:List (Int × Int)) a1 c1,RS tP2 w X a1 pairs c1->Ret Tryz.prog 44 #[.int .i64 n_,.slice a1 pairs.length c1] aI w X (fun w X' v=>∃ co cn,v=.tuple #[.slice co ((de n_ pairs).1).length cn,.bool ((de n_ pairs).2)]/\RS tI w X' co ((de n_ pairs).1) cn)
theorem hb44:aN Tryz.prog 44=true:=by kernel_rfl
def S47:Prop:=∀ w X (h_:ak) a1 c1 a2 c2,lq h_->RS ay w X a1 h_.ae c1->RS aM w X a2 h_.ao c2->Ret Tryz.prog 47 #[.agg #[.slice a1 h_.ae.length c1,.slice a2 h_.ao.length c2]] aI w X (fun w X' v=>∃ co cn,v=.slice co (bN h_).length cn/\RS aO w X' co (bN h_) cn)
theorem hb47:aN Tryz.prog 47=true:=by kernel_rfl
def S52:Prop:=∀ w X (o_:ah) a1 c1,jW o_->RS az w X a1 o_.Rows c1->Ret Tryz.prog 52 #[.agg #[.int .i64 o_.ar,.int .i64 o_.aw,.int .i64 o_.aE,.slice a1 o_.Rows.length c1]] aI w X (fun w X' v=>v=.bool (cM o_))
theorem hb52:aN Tryz.prog 52=true:=by kernel_rfl
def S83_52:Prop:=∀ w X (s_:List ah) a1 c1,lr s_->RS ay w X a1 s_ c1->dP []->Ret Tryz.prog 83 #[.slice a1 s_.length c1,.func (.func 52) #[] #[]] (pR []) w X (fun w X' v=>v=.int .i64 (a9 s_))
theorem hb83:aN Tryz.prog 83=true:=by kernel_rfl
def S54_52:Prop:=∀ w X (s_:List ah) a1 c1,lr s_->RS ay w X a1 s_ c1->dP []->Ret Tryz.prog 54 #[.slice a1 s_.length c1,.func (.func 52) #[] #[]] (pR []) w X (fun w X' v=>v=.bool (aW s_))
theorem hb54:aN Tryz.prog 54=true:=by kernel_rfl
def S23:Prop:=∀ w X (h_:ak) a1 c1 a2 c2,fQ h_->RS ay w X a1 h_.ae c1->RS aM w X a2 h_.ao c2->Ret Tryz.prog 23 #[.agg #[.slice a1 h_.ae.length c1,.slice a2 h_.ao.length c2]] aI w X (fun w X' v=>v=.tuple #[.int .i64 ((aB h_).1),.int .i64 ((aB h_).2)])
theorem hb23:aN Tryz.prog 23=true:=by kernel_rfl
def S45:Prop:=∀ w X (l_:List aD) a1 c1,rn l_->RS bA w X a1 l_ c1->Ret Tryz.prog 45 #[.slice a1 l_.length c1] aI w X (fun w X' v=>∃ co cn,v=.slice co (cl l_).length cn/\RS aO w X' co (cl l_) cn)
theorem hb45:aN Tryz.prog 45=true:=by kernel_rfl
def S59:Prop:=∀ w X (l_:List aD) (at_:Int) a1 c1,sC l_ at_->RS bA w X a1 l_ c1->Ret Tryz.prog 59 #[.slice a1 l_.length c1,.int .i64 at_] aI w X (fun w X' v=>v=.int .i64 (fh l_ at_))
theorem hb59:aN Tryz.prog 59=true:=by kernel_rfl
def S28:Prop:=∀ w X (objects:List ah) (l_:List aD) a1 c1 a2 c2,km objects l_->RS ay w X a1 objects c1->RS bA w X a2 l_ c2->Ret Tryz.prog 28 #[.slice a1 objects.length c1,.slice a2 l_.length c2] aI w X (fun w X' v=>v=.tuple #[.int .i64 ((dz objects l_).1),.int .i64 ((dz objects l_).2)])
theorem hb28:aN Tryz.prog 28=true:=by kernel_rfl
def S48:Prop:=∀ w X (i_:Int) (al:ak) (ap:Int) a1 c1 a2 c2 b1 i1 b2 i2,w7 i_ al ap->RS ay w X a1 al.ae c1->RS aM w X a2 al.ao c2->Cell w X b1 i1 25 [.slice a1 al.ae.length c1,.slice a2 al.ao.length c2]->Cell w X b2 i2 3 [.int .i64 ap]->dP [i1,i2]->Ret Tryz.prog 48 #[.int .i64 i_,.pointer (some ⟨b1,0,none⟩),.pointer (some ⟨b2,0,none⟩)] (pR [i1,i2]) w X (fun w X' v=>v=.bool (eG i_ al ap)/\Cell w X' b1 i1 25 [.slice a1 al.ae.length c1,.slice a2 al.ao.length c2]/\Cell w X' b2 i2 3 [.int .i64 ap])
theorem hb48:aN Tryz.prog 48=true:=by kernel_rfl
def S46_48:Prop:=∀ w X (l_:List av) (al:ak) (ap:Int) a1 c1 a2 c2 a3 c3 b1 i1 b2 i2,xa l_ al ap->RS aO w X a1 l_ c1->RS ay w X a2 al.ae c2->RS aM w X a3 al.ao c3->Cell w X b1 i1 25 [.slice a2 al.ae.length c2,.slice a3 al.ao.length c3]->Cell w X b2 i2 3 [.int .i64 ap]->dP [i1,i2]->Ret Tryz.prog 46 #[.slice a1 l_.length c1,.func (.func 48) #[] #[.pointer (some ⟨b1,0,none⟩),.pointer (some ⟨b2,0,none⟩)]] (pR [i1,i2]) w X (fun w X' v=>∃ co cn,v=.slice co (bM l_ al ap).length cn/\RS aO w X' co (bM l_ al ap) cn/\Cell w X' b1 i1 25 [.slice a2 al.ae.length c2,.slice a3 al.ao.length c3]/\Cell w X' b2 i2 3 [.int .i64 ap])
theorem hb46:aN Tryz.prog 46=true:=by kernel_rfl
def S17:Prop:=∀ w X (h_:ak) (k_:Int) a1 c1 a2 c2,xh h_ k_->RS ay w X a1 h_.ae c1->RS aM w X a2 h_.ao c2->Ret Tryz.prog 17 #[.agg #[.slice a1 h_.ae.length c1,.slice a2 h_.ao.length c2],.int .i64 k_] aI w X (fun w X' v=>∃ co cn iA iz,v=.agg #[.int .i64 (((eB h_ k_).ax).ar),.int .i64 (((eB h_ k_).ax).aw),.int .i64 (((eB h_ k_).ax).aE),.slice co (((eB h_ k_).ax).Rows).length cn,.slice iA ((eB h_ k_).ao).length iz]/\RS az w X' co (((eB h_ k_).ax).Rows) cn/\RS aO w X' iA ((eB h_ k_).ao) iz)
theorem hb17:aN Tryz.prog 17=true:=by kernel_rfl
def S24:Prop:=∀ w X (h_:ak) a1 c1 a2 c2,fQ h_->RS ay w X a1 h_.ae c1->RS aM w X a2 h_.ao c2->Ret Tryz.prog 24 #[.agg #[.slice a1 h_.ae.length c1,.slice a2 h_.ao.length c2]] aI w X (fun w X' v=>∃ co cn iA iz,v=.tuple #[.slice co ((cA h_).1).length cn,.slice iA ((cA h_).2).length iz]/\RS aq w X' co ((cA h_).1) cn/\RS tI w X' iA ((cA h_).2) iz)
theorem hb24:aN Tryz.prog 24=true:=by kernel_rfl
def S16:Prop:=∀ w X (objects:List ah) (l_:List aD) a1 c1 a2 c2,km objects l_->RS ay w X a1 objects c1->RS bA w X a2 l_ c2->Ret Tryz.prog 16 #[.slice a1 objects.length c1,.slice a2 l_.length c2] aI w X (fun w X' v=>∃ co cn iA iz,v=.tuple #[.slice co ((bb objects l_).1).length cn,.slice iA ((bb objects l_).2).length iz]/\RS aq w X' co ((bb objects l_).1) cn/\RS tI w X' iA ((bb objects l_).2) iz)
theorem hb16:aN Tryz.prog 16=true:=by kernel_rfl
def S41:Prop:=∀ w X (h_:ak) a1 c1 a2 c2,fQ h_->RS ay w X a1 h_.ae c1->RS aM w X a2 h_.ao c2->Ret Tryz.prog 41 #[.agg #[.slice a1 h_.ae.length c1,.slice a2 h_.ao.length c2]] aI w X (fun w X' v=>∃ co cn iA iz,v=.tuple #[.slice co ((cd h_).1).length cn,.slice iA ((cd h_).2.1).length iz,.int .i64 ((cd h_).2.2)]/\RS aq w X' co ((cd h_).1) cn/\RS tI w X' iA ((cd h_).2.1) iz)
theorem hb41:aN Tryz.prog 41=true:=by kernel_rfl
def S69:Prop:=∀ w X (of:List Int) (k_:Int) a1 c1,rq of k_->RS tI w X a1 of c1->Ret Tryz.prog 69 #[.slice a1 of.length c1,.int .i64 k_] aI w X (fun w X' v=>∃ co cn,v=.slice co (aP of k_).length cn/\RS tI w X' co (aP of k_) cn)
theorem hb69:aN Tryz.prog 69=true:=by kernel_rfl
def S72:Prop:=∀ w X (i_:Int) (al:List Int) (ap:Int) a1 c1 b1 i1 b2 i2,sB i_ al ap->RS tI w X a1 al c1->Cell w X b1 i1 43 [.slice a1 al.length c1]->Cell w X b2 i2 3 [.int .i64 ap]->dP [i1,i2]->Ret Tryz.prog 72 #[.int .i64 i_,.pointer (some ⟨b1,0,none⟩),.pointer (some ⟨b2,0,none⟩)] (pR [i1,i2]) w X (fun w X' v=>v=.bool (dC i_ al ap)/\Cell w X' b1 i1 43 [.slice a1 al.length c1]/\Cell w X' b2 i2 3 [.int .i64 ap])
theorem hb72:aN Tryz.prog 72=true:=by kernel_rfl
def S71_72:Prop:=∀ w X (l_:List ab) (al:List Int) (ap:Int) a1 c1 a2 c2 b1 i1 b2 i2,w9 l_ al ap->RS aq w X a1 l_ c1->RS tI w X a2 al c2->Cell w X b1 i1 43 [.slice a2 al.length c2]->Cell w X b2 i2 3 [.int .i64 ap]->dP [i1,i2]->Ret Tryz.prog 71 #[.slice a1 l_.length c1,.func (.func 72) #[] #[.pointer (some ⟨b1,0,none⟩),.pointer (some ⟨b2,0,none⟩)]] (pR [i1,i2]) w X (fun w X' v=>∃ co cn,v=.slice co (bC l_ al ap).length cn/\RS aq w X' co (bC l_ al ap) cn/\Cell w X' b1 i1 43 [.slice a2 al.length c2]/\Cell w X' b2 i2 3 [.int .i64 ap])
theorem hb71:aN Tryz.prog 71=true:=by kernel_rfl
def S42:Prop:=∀ w X (h_:ak) (l_:List ab) (of:List Int) a1 c1 a2 c2 a3 c3 a4 c4,w6 h_ l_ of->RS ay w X a1 h_.ae c1->RS aM w X a2 h_.ao c2->RS aq w X a3 l_ c3->RS tI w X a4 of c4->Ret Tryz.prog 42 #[.agg #[.slice a1 h_.ae.length c1,.slice a2 h_.ao.length c2],.slice a3 l_.length c3,.slice a4 of.length c4] aI w X (fun w X' v=>∃ co cn,v=.tuple #[.slice co ((cz h_ l_ of).1).length cn,.int .i64 ((cz h_ l_ of).2)]/\RS (b7 au) w X' co ((cz h_ l_ of).1) cn)
theorem hb42:aN Tryz.prog 42=true:=by kernel_rfl
def S91:Prop:=∀ w X (n_:Int) cD,xi n_->Ret Tryz.prog 91 #[.slice none 0 0,.int .i64 n_] aI w X (fun w X' v=>∃ co cn,v=.slice co (cj n_).length cn/\OS au 56 w X' cD co (cj n_) cn)
theorem hb91:aN Tryz.prog 91=true:=by kernel_rfl
def S73:Prop:=∀ w X (bR:List (List aa)) a1 c1,ru bR->RS (b7 au) w X a1 bR c1->Ret Tryz.prog 73 #[.slice a1 bR.length c1] aI w X (fun w X' v=>∃ co cn,v=.slice co (b8 bR).length cn/\RS au w X' co (b8 bR) cn)
theorem hb73:aN Tryz.prog 73=true:=by kernel_rfl
def S43:Prop:=∀ w X (l_:List ab) (rows:List (List aa)) a1 c1 a2 c2,ue l_ rows->RS aq w X a1 l_ c1->RS (b7 au) w X a2 rows c2->Ret Tryz.prog 43 #[.slice a1 l_.length c1,.slice a2 rows.length c2] aI w X (fun w X' v=>∃ co cn iA iz,v=.tuple #[.slice co ((b9 l_ rows).1).length cn,.slice iA ((b9 l_ rows).2).length iz]/\RS au w X' co ((b9 l_ rows).1) cn/\RS tP2 w X' iA ((b9 l_ rows).2) iz)
theorem hb43:aN Tryz.prog 43=true:=by kernel_rfl
def S15:Prop:=∀ w X (h_:ak) a1 c1 a2 c2,fQ h_->RS ay w X a1 h_.ae c1->RS aM w X a2 h_.ao c2->Ret Tryz.prog 15 #[.agg #[.slice a1 h_.ae.length c1,.slice a2 h_.ao.length c2]] aI w X (fun w X' v=>∃ co cn,v=.tuple #[.slice co ((cG h_).1).length cn,.int .i64 ((cG h_).2)]/\RS au w X' co ((cG h_).1) cn)
theorem hb15:aN Tryz.prog 15=true:=by kernel_rfl
def S9:Prop:=∀ w X (h_:ak) a1 c1 a2 c2,fQ h_->RS ay w X a1 h_.ae c1->RS aM w X a2 h_.ao c2->Ret Tryz.prog 9 #[.agg #[.slice a1 h_.ae.length c1,.slice a2 h_.ao.length c2]] aI w X (fun w X' v=>v=.tuple #[.bool ((dv h_).1),.int .i64 ((dv h_).2)])
theorem hb9:aN Tryz.prog 9=true:=by kernel_rfl
def S32:Prop:=∀ w X (i_:Int) (al:List aa) (ap:List ab) (aL:List Int) (bz:Int) a1 c1 a2 c2 a3 c3 b1 i1 b2 i2 b3 i3 b4 i4,xg i_ al ap aL bz->RS au w X a1 al c1->RS aq w X a2 ap c2->RS tI w X a3 aL c3->Cell w X b1 i1 26 [.slice a1 al.length c1]->Cell w X b2 i2 42 [.slice a2 ap.length c2]->Cell w X b3 i3 43 [.slice a3 aL.length c3]->Cell w X b4 i4 3 [.int .i64 bz]->dP [i1,i2,i3,i4]->Ret Tryz.prog 32 #[.int .i64 i_,.pointer (some ⟨b1,0,none⟩),.pointer (some ⟨b2,0,none⟩),.pointer (some ⟨b3,0,none⟩),.pointer (some ⟨b4,0,none⟩)] (pR [i1,i2,i3,i4]) w X (fun w X' v=>v=.bool (dD i_ al ap aL bz)/\Cell w X' b1 i1 26 [.slice a1 al.length c1]/\Cell w X' b2 i2 42 [.slice a2 ap.length c2]/\Cell w X' b3 i3 43 [.slice a3 aL.length c3]/\Cell w X' b4 i4 3 [.int .i64 bz])
theorem hb32:aN Tryz.prog 32=true:=by kernel_rfl
def S31_32:Prop:=∀ w X (l_:List aa) (al:List aa) (ap:List ab) (aL:List Int) (bz:Int) a1 c1 a2 c2 a3 c3 a4 c4 b1 i1 b2 i2 b3 i3 b4 i4,xf l_ al ap aL bz->RS au w X a1 l_ c1->RS au w X a2 al c2->RS aq w X a3 ap c3->RS tI w X a4 aL c4->Cell w X b1 i1 26 [.slice a2 al.length c2]->Cell w X b2 i2 42 [.slice a3 ap.length c3]->Cell w X b3 i3 43 [.slice a4 aL.length c4]->Cell w X b4 i4 3 [.int .i64 bz]->dP [i1,i2,i3,i4]->Ret Tryz.prog 31 #[.slice a1 l_.length c1,.func (.func 32) #[] #[.pointer (some ⟨b1,0,none⟩),.pointer (some ⟨b2,0,none⟩),.pointer (some ⟨b3,0,none⟩),.pointer (some ⟨b4,0,none⟩)]] (pR [i1,i2,i3,i4]) w X (fun w X' v=>∃ co cn,v=.slice co (bL l_ al ap aL bz).length cn/\RS au w X' co (bL l_ al ap aL bz) cn/\Cell w X' b1 i1 26 [.slice a2 al.length c2]/\Cell w X' b2 i2 42 [.slice a3 ap.length c3]/\Cell w X' b3 i3 43 [.slice a4 aL.length c4]/\Cell w X' b4 i4 3 [.int .i64 bz])
theorem hb31:aN Tryz.prog 31=true:=by kernel_rfl
def S12:Prop:=∀ w X (h_:ak) (ac:List aa) a1 c1 a2 c2 a3 c3,ub h_ ac->RS ay w X a1 h_.ae c1->RS aM w X a2 h_.ao c2->RS au w X a3 ac c3->Ret Tryz.prog 12 #[.agg #[.slice a1 h_.ae.length c1,.slice a2 h_.ao.length c2],.slice a3 ac.length c3] aI w X (fun w X' v=>v=.bool (fS h_ ac))
theorem hb12:aN Tryz.prog 12=true:=by kernel_rfl
def S40:Prop:=∀ w X (objects:List ah) (ops:List ab) (of:List Int) (order:List Int) a1 c1 a2 c2 a3 c3 a4 c4,uc objects ops of order->RS ay w X a1 objects c1->RS aq w X a2 ops c2->RS tI w X a3 of c3->RS tI w X a4 order c4->Ret Tryz.prog 40 #[.slice a1 objects.length c1,.slice a2 ops.length c2,.slice a3 of.length c3,.slice a4 order.length c4] aI w X (fun w X' v=>∃ co cn,v=.tuple #[.slice co ((c9 objects ops of order).1).length cn,.bool ((c9 objects ops of order).2)]/\RS au w X' co ((c9 objects ops of order).1) cn)
theorem hb40:aN Tryz.prog 40=true:=by kernel_rfl
def S13:Prop:=∀ w X (objects:List ah) (l_:List aD) (ac:List aa) a1 c1 a2 c2 a3 c3,wZ objects l_ ac->RS ay w X a1 objects c1->RS bA w X a2 l_ c2->RS au w X a3 ac c3->Ret Tryz.prog 13 #[.slice a1 objects.length c1,.slice a2 l_.length c2,.slice a3 ac.length c3] aI w X (fun w X' v=>v=.bool (dW objects l_ ac))
theorem hb13:aN Tryz.prog 13=true:=by kernel_rfl
def S14:Prop:=∀ w X (objects:List ah) (l_:List aD) a1 c1 a2 c2,pV objects l_->RS ay w X a1 objects c1->RS bA w X a2 l_ c2->Ret Tryz.prog 14 #[.slice a1 objects.length c1,.slice a2 l_.length c2] aI w X (fun w X' v=>v=.bool (fq objects l_))
theorem hb14:aN Tryz.prog 14=true:=by kernel_rfl
def S27:Prop:=∀ w X,Ret Tryz.prog 27 #[] aI w X (fun w X' v=>∃ co cn,v=.agg #[.int .i64 dr.ar,.int .i64 dr.aw,.int .i64 dr.aE,.slice co dr.Rows.length cn]/\RS az w X' co dr.Rows cn)
theorem hb27:aN Tryz.prog 27=true:=by kernel_rfl
def S22:Prop:=∀ w X (object:Int) cD,Ret Tryz.prog 22 #[.int .i64 object] aI w X (fun w X' v=>∃ co cn iA iz,v=.agg #[.slice co ((cv object).ae).length cn,.slice iA ((cv object).ao).length iz]/\RS ay w X' co ((cv object).ae) cn/\OS aM 63 w X' cD iA ((cv object).ao) iz)
theorem hb22:aN Tryz.prog 22=true:=by kernel_rfl
def S11:Prop:=∀ w X (h_:ak) a1 c1 a2 c2,lq h_->RS ay w X a1 h_.ae c1->RS aM w X a2 h_.ao c2->Ret Tryz.prog 11 #[.agg #[.slice a1 h_.ae.length c1,.slice a2 h_.ao.length c2]] aI w X (fun w X' v=>∃ co cn,v=.slice co (eu h_).length cn/\RS bA w X' co (eu h_) cn)
theorem hb11:aN Tryz.prog 11=true:=by kernel_rfl
def S7:Prop:=∀ w X (h_:ak) a1 c1 a2 c2,RS ay w X a1 h_.ae c1->RS aM w X a2 h_.ao c2->Ret Tryz.prog 7 #[.agg #[.slice a1 h_.ae.length c1,.slice a2 h_.ao.length c2]] aI w X (fun w X' v=>v=.int .i64 (eT h_))
theorem hb7:aN Tryz.prog 7=true:=by kernel_rfl
def S6:Prop:=∀ w X (h_:ak) a1 c1 a2 c2,RS ay w X a1 h_.ae c1->RS aM w X a2 h_.ao c2->Ret Tryz.prog 6 #[.agg #[.slice a1 h_.ae.length c1,.slice a2 h_.ao.length c2]] aI w X (fun w X' v=>v=.bool (gH h_))
theorem hb6:aN Tryz.prog 6=true:=by kernel_rfl
def S8:Prop:=∀ w X,Ret Tryz.prog 8 #[] aI w X (fun w X' v=>v=.bool fk)
theorem hb8:aN Tryz.prog 8=true:=by kernel_rfl
end Go.Proofs.YteahldlmkheleaaGreat
