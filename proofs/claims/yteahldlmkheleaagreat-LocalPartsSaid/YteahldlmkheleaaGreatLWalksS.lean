/- Walks of the functions: each returns what its condition asks. -/
import Derived.Test.YteahldlmkheleaaGreatLVC
import Derived.Test.YteahldlmkheleaaGreatLReps
import Derived.Test.YteahldlmkheleaaGreatSk
import Derived.Test.YteahldlmkheleaaGreatLK
set_option linter.all false
namespace Go.Proofs.YteahldlmkheleaaGreat
open Go Go.Sv
abbrev cO (o:aj) (a:Option Addr) (c:Nat):List SV:=[I o.au,I o.az,I o.aH,Sl a o.Rows c]
abbrev cR (o:bb):List SV:=[I o.State,I o.Kind,I o.Next,I o.Result]
abbrev cP (o:ab):List SV:=[I o.ak,I o.Kind,I o.aI,I o.End,I o.Result]
abbrev cE (o:aw):List SV:=[I o.bo,I o.ak,I o.N]
abbrev cK (o:aa):List SV:=[I o.Oper,I o.Result]
theorem bft (b:Bool):b=true∨b=false:=Bool.eq_false_or_eq_true b
abbrev wR (n:Int):Int:=IntKind.i64.wrap n
abbrev lN {α:Type} (l:List α):Int:=((l.length:Nat):Int)
def S21:Prop:=∀ w X (o_:aj) a1 c1,RS aC w X a1 o_.Rows c1->Ret Tryz.prog 21 #[.agg #[.int .i64 o_.au,.int .i64 o_.az,.int .i64 o_.aH,.slice a1 o_.Rows.length c1]] aL w X (fun w X' v=>v=.bool (hU o_))
theorem hb21:aQ Tryz.prog 21=true:=by kernel_rfl
def S81:Prop:=∀ w X (n_:Int) (top:Int),Ret Tryz.prog 81 #[.int .i64 n_,.int .i64 top] aL w X (fun w X' v=>v=.bool (b6 n_ top))
theorem hb81:aQ Tryz.prog 81=true:=by kernel_rfl
def S107:Prop:=∀ w X (vals:List Int) a1 c1,RS tI w X a1 vals c1->Ret Tryz.prog 107 #[.slice a1 vals.length c1] aL w X (fun w X' v=>v=.int .i64 (gA vals))
theorem hb107:aQ Tryz.prog 107=true:=by kernel_rfl
def S113:Prop:=∀ w X (x_:Int),Ret Tryz.prog 113 #[.int .i64 x_] aL w X (fun w X' v=>v=.bool (eY x_))
theorem hb113:aQ Tryz.prog 113=true:=by kernel_rfl
def S108:Prop:=∀ w X (x_:Int) (y_:Int),Ret Tryz.prog 108 #[.int .i64 x_,.int .i64 y_] aL w X (fun w X' v=>v=.int .i64 (dw x_ y_))
theorem hb108:aQ Tryz.prog 108=true:=by kernel_rfl
def S96:Prop:=∀ w X (a_:bb) (b_:bb),Ret Tryz.prog 96 #[.agg #[.int .i64 a_.State,.int .i64 a_.Kind,.int .i64 a_.Next,.int .i64 a_.Result],.agg #[.int .i64 b_.State,.int .i64 b_.Kind,.int .i64 b_.Next,.int .i64 b_.Result]] aL w X (fun w X' v=>v=.int .i64 (gv a_ b_))
theorem hb96:aQ Tryz.prog 96=true:=by kernel_rfl
def S82:Prop:=∀ w X (o_:aj) (i_:Int) a1 c1,preRow o_ i_->RS aC w X a1 o_.Rows c1->Ret Tryz.prog 82 #[.agg #[.int .i64 o_.au,.int .i64 o_.az,.int .i64 o_.aH,.slice a1 o_.Rows.length c1],.int .i64 i_] aL w X (fun w X' v=>v=.int .i64 (ix o_ i_))
theorem hb82:aQ Tryz.prog 82=true:=by kernel_rfl
def S53:Prop:=∀ w X (o_:aj) a1 c1,kL o_->RS aC w X a1 o_.Rows c1->Ret Tryz.prog 53 #[.agg #[.int .i64 o_.au,.int .i64 o_.az,.int .i64 o_.aH,.slice a1 o_.Rows.length c1]] aL w X (fun w X' v=>v=.tuple #[.int .i64 ((bB o_).1),.int .i64 ((bB o_).2)])
theorem hb53:aQ Tryz.prog 53=true:=by kernel_rfl
def S85:Prop:=∀ w X (o_:aj) (state:Int) a1 c1,yw o_ state->RS aC w X a1 o_.Rows c1->Ret Tryz.prog 85 #[.agg #[.int .i64 o_.au,.int .i64 o_.az,.int .i64 o_.aH,.slice a1 o_.Rows.length c1],.int .i64 state] aL w X (fun w X' v=>v=.int .i64 (fF o_ state))
theorem hb85:aQ Tryz.prog 85=true:=by kernel_rfl
def S86:Prop:=∀ w X (o_:aj) (l_:List ab) (state:Int) a1 c1 a2 c2 cU dV jI pa o9,RS aC w X a1 o_.Rows c1->RS ar w X a2 l_ c2->Ret Tryz.prog 86 #[.agg #[.int .i64 o_.au,.int .i64 o_.az,.int .i64 o_.aH,.slice a1 o_.Rows.length c1],.slice a2 l_.length c2,.int .i64 state] aL w X (fun w X' v=>∃ cz cy Iv pC pB u5 IA Iz Iy,v=.func (.func 97) #[] #[.pointer (some ⟨u5,0,none⟩),.pointer (some ⟨IA,0,none⟩),.pointer (some ⟨Iz,0,none⟩),.pointer (some ⟨Iy,0,none⟩)]/\RS ar w X' cz ((eD o_ l_ state).1) cy/\RS aC w X' pC (((eD o_ l_ state).2.2.1).Rows) pB/\Cell w X' u5 dV 42 [.slice cz ((eD o_ l_ state).1).length cy]/\Cell w X' IA jI 113 [.map (some Iv)]/\OM kI tI false w X' cU Iv ((eD o_ l_ state).2.1)/\Cell w X' Iz pa 48 [.int .i64 (((eD o_ l_ state).2.2.1).au),.int .i64 (((eD o_ l_ state).2.2.1).az),.int .i64 (((eD o_ l_ state).2.2.1).aH),.slice pC (((eD o_ l_ state).2.2.1).Rows).length pB]/\Cell w X' Iy o9 3 [.int .i64 ((eD o_ l_ state).2.2.2)])
theorem hb86:aQ Tryz.prog 86=true:=by kernel_rfl
def S110:Prop:=∀ w X (r_:bb) (ao:Int) (ay:Int) b1 i1 b2 i2,Cell w X b1 i1 3 [.int .i64 ao]->Cell w X b2 i2 3 [.int .i64 ay]->dZ [i1,i2]->Ret Tryz.prog 110 #[.agg #[.int .i64 r_.State,.int .i64 r_.Kind,.int .i64 r_.Next,.int .i64 r_.Result],.pointer (some ⟨b1,0,none⟩),.pointer (some ⟨b2,0,none⟩)] (pR [i1,i2]) w X (fun w X' v=>v=.bool (gE r_ ao ay)/\Cell w X' b1 i1 3 [.int .i64 ao]/\Cell w X' b2 i2 3 [.int .i64 ay])
theorem hb110:aQ Tryz.prog 110=true:=by kernel_rfl
def S111_110:Prop:=∀ w X (s_:List bb) (ao:Int) (ay:Int) a1 c1 b1 i1 b2 i2,RS aC w X a1 s_ c1->Cell w X b1 i1 3 [.int .i64 ao]->Cell w X b2 i2 3 [.int .i64 ay]->dZ [i1,i2]->Ret Tryz.prog 111 #[.slice a1 s_.length c1,.func (.func 110) #[] #[.pointer (some ⟨b1,0,none⟩),.pointer (some ⟨b2,0,none⟩)]] (pR [i1,i2]) w X (fun w X' v=>v=.int .i64 (bk s_ ao ay)/\Cell w X' b1 i1 3 [.int .i64 ao]/\Cell w X' b2 i2 3 [.int .i64 ay])
theorem hb111:aQ Tryz.prog 111=true:=by kernel_rfl
def S103:Prop:=∀ w X (o_:aj) (state:Int) (kind:Int) a1 c1,RS aC w X a1 o_.Rows c1->Ret Tryz.prog 103 #[.agg #[.int .i64 o_.au,.int .i64 o_.az,.int .i64 o_.aH,.slice a1 o_.Rows.length c1],.int .i64 state,.int .i64 kind] aL w X (fun w X' v=>v=.tuple #[.int .i64 ((cw o_ state kind).1),.int .i64 ((cw o_ state kind).2.1),.bool ((cw o_ state kind).2.2)])
theorem hb103:aQ Tryz.prog 103=true:=by kernel_rfl
def S109:Prop:=∀ w X (t_:ie) (state:Int) (kind:Int) a1 c1,RS aC w X a1 t_.o.Rows c1->Ret Tryz.prog 109 #[.agg #[.int .i64 t_.o.au,.int .i64 t_.o.az,.int .i64 t_.o.aH,.slice a1 t_.o.Rows.length c1],.int .i64 state,.int .i64 kind] aL w X (fun w X' v=>v=.tuple #[.int .i64 ((eZ t_ state kind).1),.int .i64 ((eZ t_ state kind).2.1),.bool ((eZ t_ state kind).2.2)])
theorem hb109:aQ Tryz.prog 109=true:=by kernel_rfl
def S98:Prop:=∀ w X (o_:aj) (state:Int) (kind:Int) (result:Int) a1 c1,RS aC w X a1 o_.Rows c1->Ret Tryz.prog 98 #[.agg #[.int .i64 o_.au,.int .i64 o_.az,.int .i64 o_.aH,.slice a1 o_.Rows.length c1],.int .i64 state,.int .i64 kind,.int .i64 result] aL w X (fun w X' v=>v=.tuple #[.int .i64 ((iR o_ state kind result).1),.int .i64 ((iR o_ state kind result).2)])
theorem hb98:aQ Tryz.prog 98=true:=by kernel_rfl
def S97:Prop:=∀ w X (p_:aa) (ao:List ab) (ay:List (Int × Int)) (aO:aj) (bF:Int) a1 c1 r2 m2 a3 c3 b1 i1 b2 i2 b3 i3 b4 i4,RS ar w X a1 ao c1->OM kI tI false w X m2 r2 ay->RS aC w X a3 aO.Rows c3->Cell w X b1 i1 42 [.slice a1 ao.length c1]->Cell w X b2 i2 113 [.map (some r2)]->Cell w X b3 i3 48 [.int .i64 aO.au,.int .i64 aO.az,.int .i64 aO.aH,.slice a3 aO.Rows.length c3]->Cell w X b4 i4 3 [.int .i64 bF]->dZ [i1,i2,i3,i4,m2]->Ret Tryz.prog 97 #[.agg #[.int .i64 p_.Oper,.int .i64 p_.Result],.pointer (some ⟨b1,0,none⟩),.pointer (some ⟨b2,0,none⟩),.pointer (some ⟨b3,0,none⟩),.pointer (some ⟨b4,0,none⟩)] (pR [i1,i2,i3,i4,m2]) w X (fun w X' v=>v=.tuple #[.int .i64 ((dn p_ ao ay aO bF).1),.int .i64 ((dn p_ ao ay aO bF).2.1)]/\Cell w X' b1 i1 42 [.slice a1 ao.length c1]/\Cell w X' b2 i2 113 [.map (some r2)]/\OM kI tI false w X' m2 r2 ((dn p_ ao ay aO bF).2.2.1)/\Cell w X' b3 i3 48 [.int .i64 aO.au,.int .i64 aO.az,.int .i64 aO.aH,.slice a3 aO.Rows.length c3]/\Cell w X' b4 i4 3 [.int .i64 ((dn p_ ao ay aO bF).2.2.2)])
theorem hb97:aQ Tryz.prog 97=true:=by kernel_rfl
def S62:Prop:=∀ w X (o_:aj) (l_:List ab) (state:Int) (ah:List aa) a1 c1 a2 c2 a3 c3,yv o_ l_ state ah->RS aC w X a1 o_.Rows c1->RS ar w X a2 l_ c2->RS av w X a3 ah c3->Ret Tryz.prog 62 #[.agg #[.int .i64 o_.au,.int .i64 o_.az,.int .i64 o_.aH,.slice a1 o_.Rows.length c1],.slice a2 l_.length c2,.int .i64 state,.slice a3 ah.length c3] aL w X (fun w X' v=>v=.tuple #[.int .i64 ((jq o_ l_ state ah).1),.int .i64 ((jq o_ l_ state ah).2.1),.int .i64 ((jq o_ l_ state ah).2.2)])
theorem hb62:aQ Tryz.prog 62=true:=by kernel_rfl
def S33:Prop:=∀ w X (o_:aj) (l_:List ab) (ah:List aa) a1 c1 a2 c2 a3 c3,lq o_ l_ ah->RS aC w X a1 o_.Rows c1->RS ar w X a2 l_ c2->RS av w X a3 ah c3->Ret Tryz.prog 33 #[.agg #[.int .i64 o_.au,.int .i64 o_.az,.int .i64 o_.aH,.slice a1 o_.Rows.length c1],.slice a2 l_.length c2,.slice a3 ah.length c3] aL w X (fun w X' v=>v=.tuple #[.int .i64 ((cS o_ l_ ah).1),.int .i64 ((cS o_ l_ ah).2.1),.int .i64 ((cS o_ l_ ah).2.2)])
theorem hb33:aQ Tryz.prog 33=true:=by kernel_rfl
def S87:Prop:=∀ w X (ah:List aa) a1 c1 cU dV,RS av w X a1 ah c1->Ret Tryz.prog 87 #[.slice a1 ah.length c1] aL w X (fun w X' v=>∃ Iw u5,v=.func (.func 99) #[] #[.pointer (some ⟨u5,0,none⟩)]/\Cell w X' u5 dV 113 [.map (some Iw)]/\OM kI tI false w X' cU Iw (fo ah))
theorem hb87:aQ Tryz.prog 87=true:=by kernel_rfl
def S99:Prop:=∀ w X (i_:Int) (ao:List (Int × Int)) r1 m1 b1 i1,OM kI tI false w X m1 r1 ao->Cell w X b1 i1 113 [.map (some r1)]->dZ [i1,m1]->Ret Tryz.prog 99 #[.int .i64 i_,.pointer (some ⟨b1,0,none⟩)] (pR [i1,m1]) w X (fun w X' v=>v=.bool (fk i_ ao)/\Cell w X' b1 i1 113 [.map (some r1)]/\OM kI tI false w X' m1 r1 ao)
theorem hb99:aQ Tryz.prog 99=true:=by kernel_rfl
def S64:Prop:=∀ w X (l_:List ab) (ah:List aa) (pending:Bool) a1 c1 a2 c2,vg l_ ah pending->RS ar w X a1 l_ c1->RS av w X a2 ah c2->Ret Tryz.prog 64 #[.slice a1 l_.length c1,.slice a2 ah.length c2,.bool pending] aL w X (fun w X' v=>∃ cz cy,v=.slice cz (eC l_ ah pending).length cy/\RS tI w X' cz (eC l_ ah pending) cy)
theorem hb64:aQ Tryz.prog 64=true:=by kernel_rfl
def S35:Prop:=∀ w X (l_:List ab) (ah:List aa) a1 c1 a2 c2,qK l_ ah->RS ar w X a1 l_ c1->RS av w X a2 ah c2->Ret Tryz.prog 35 #[.slice a1 l_.length c1,.slice a2 ah.length c2] aL w X (fun w X' v=>∃ cz cy,v=.slice cz (b9 l_ ah).length cy/\RS tI w X' cz (b9 l_ ah) cy)
theorem hb35:aQ Tryz.prog 35=true:=by kernel_rfl
def S63:Prop:=∀ w X (a_:ab) (b_:ab),Ret Tryz.prog 63 #[.agg #[.int .i64 a_.ak,.int .i64 a_.Kind,.int .i64 a_.aI,.int .i64 a_.End,.int .i64 a_.Result],.agg #[.int .i64 b_.ak,.int .i64 b_.Kind,.int .i64 b_.aI,.int .i64 b_.End,.int .i64 b_.Result]] aL w X (fun w X' v=>v=.bool (bl a_ b_))
theorem hb63:aQ Tryz.prog 63=true:=by kernel_rfl
def S34:Prop:=∀ w X (l_:List ab) (ah:List aa) a1 c1 a2 c2,RS ar w X a1 l_ c1->RS av w X a2 ah c2->Ret Tryz.prog 34 #[.slice a1 l_.length c1,.slice a2 ah.length c2] aL w X (fun w X' v=>v=.int .i64 (cW l_ ah))
theorem hb34:aQ Tryz.prog 34=true:=by kernel_rfl
def S106:Prop:=∀ w X (o_:ab),Ret Tryz.prog 106 #[.agg #[.int .i64 o_.ak,.int .i64 o_.Kind,.int .i64 o_.aI,.int .i64 o_.End,.int .i64 o_.Result]] aL w X (fun w X' v=>v=.bool (eG o_))
theorem hb106:aQ Tryz.prog 106=true:=by kernel_rfl
def S95:Prop:=∀ w X (o_:ab),Ret Tryz.prog 95 #[.agg #[.int .i64 o_.ak,.int .i64 o_.Kind,.int .i64 o_.aI,.int .i64 o_.End,.int .i64 o_.Result]] aL w X (fun w X' v=>v=.int .i64 (dq o_))
theorem hb95:aQ Tryz.prog 95=true:=by kernel_rfl
def S80:Prop:=∀ w X (l_:List ab) a1 c1,RS ar w X a1 l_ c1->Ret Tryz.prog 80 #[.slice a1 l_.length c1] aL w X (fun w X' v=>v=.tuple #[.int .i64 ((c7 l_).1),.int .i64 ((c7 l_).2)])
theorem hb80:aQ Tryz.prog 80=true:=by kernel_rfl
def S51:Prop:=∀ w X (o_:aj) (l_:List ab) (ah:List aa) a1 c1 a2 c2 a3 c3,lq o_ l_ ah->RS aC w X a1 o_.Rows c1->RS ar w X a2 l_ c2->RS av w X a3 ah c3->Ret Tryz.prog 51 #[.agg #[.int .i64 o_.au,.int .i64 o_.az,.int .i64 o_.aH,.slice a1 o_.Rows.length c1],.slice a2 l_.length c2,.slice a3 ah.length c3] aL w X (fun w X' v=>v=.tuple #[.int .i64 ((eV o_ l_ ah).1),.int .i64 ((eV o_ l_ ah).2)])
theorem hb51:aQ Tryz.prog 51=true:=by kernel_rfl
def S20:Prop:=∀ w X (o_:aj) (l_:List ab) (ah:List aa) a1 c1 a2 c2 a3 c3,lq o_ l_ ah->RS aC w X a1 o_.Rows c1->RS ar w X a2 l_ c2->RS av w X a3 ah c3->Ret Tryz.prog 20 #[.agg #[.int .i64 o_.au,.int .i64 o_.az,.int .i64 o_.aH,.slice a1 o_.Rows.length c1],.slice a2 l_.length c2,.slice a3 ah.length c3] aL w X (fun w X' v=>v=.bool (dt o_ l_ ah))
theorem hb20:aQ Tryz.prog 20=true:=by kernel_rfl
def S66:Prop:=∀ w X (ah:List aa) (i_:Int) a1 c1,RS av w X a1 ah c1->Ret Tryz.prog 66 #[.slice a1 ah.length c1,.int .i64 i_] aL w X (fun w X' v=>v=.int .i64 (cn ah i_))
theorem hb66:aQ Tryz.prog 66=true:=by kernel_rfl
def S68:Prop:=∀ w X (o_:aj) (state:Int) (kind:Int) a1 c1,RS aC w X a1 o_.Rows c1->Ret Tryz.prog 68 #[.agg #[.int .i64 o_.au,.int .i64 o_.az,.int .i64 o_.aH,.slice a1 o_.Rows.length c1],.int .i64 state,.int .i64 kind] aL w X (fun w X' v=>v=.tuple #[.int .i64 ((bA o_ state kind).1),.int .i64 ((bA o_ state kind).2.1),.bool ((bA o_ state kind).2.2)])
theorem hb68:aQ Tryz.prog 68=true:=by kernel_rfl
def S65:Prop:=∀ w X (o_:aj) (state:Int) (kind:Int) (result:Int) a1 c1,RS aC w X a1 o_.Rows c1->Ret Tryz.prog 65 #[.agg #[.int .i64 o_.au,.int .i64 o_.az,.int .i64 o_.aH,.slice a1 o_.Rows.length c1],.int .i64 state,.int .i64 kind,.int .i64 result] aL w X (fun w X' v=>v=.tuple #[.int .i64 ((dc o_ state kind result).1),.int .i64 ((dc o_ state kind result).2)])
theorem hb65:aQ Tryz.prog 65=true:=by kernel_rfl
def S58:Prop:=∀ w X (o_:aj) a1 c1,RS aC w X a1 o_.Rows c1->Ret Tryz.prog 58 #[.agg #[.int .i64 o_.au,.int .i64 o_.az,.int .i64 o_.aH,.slice a1 o_.Rows.length c1]] aL w X (fun w X' v=>v=.tuple #[.int .i64 ((cX o_).1),.int .i64 ((cX o_).2)])
theorem hb58:aQ Tryz.prog 58=true:=by kernel_rfl
def S36:Prop:=∀ w X (o_:aj) (l_:List ab) (state:Int) (ah:List aa) a1 c1 a2 c2 a3 c3,RS aC w X a1 o_.Rows c1->RS ar w X a2 l_ c2->RS av w X a3 ah c3->Ret Tryz.prog 36 #[.agg #[.int .i64 o_.au,.int .i64 o_.az,.int .i64 o_.aH,.slice a1 o_.Rows.length c1],.slice a2 l_.length c2,.int .i64 state,.slice a3 ah.length c3] aL w X (fun w X' v=>v=.tuple #[.int .i64 ((c6 o_ l_ state ah).1),.int .i64 ((c6 o_ l_ state ah).2.1),.int .i64 ((c6 o_ l_ state ah).2.2)])
theorem hb36:aQ Tryz.prog 36=true:=by kernel_rfl
def S67:Prop:=∀ w X (a_:ab) (b_:ab),Ret Tryz.prog 67 #[.agg #[.int .i64 a_.ak,.int .i64 a_.Kind,.int .i64 a_.aI,.int .i64 a_.End,.int .i64 a_.Result],.agg #[.int .i64 b_.ak,.int .i64 b_.Kind,.int .i64 b_.aI,.int .i64 b_.End,.int .i64 b_.Result]] aL w X (fun w X' v=>v=.bool (jr a_ b_))
theorem hb67:aQ Tryz.prog 67=true:=by kernel_rfl
def S37:Prop:=∀ w X (l_:List ab) (ah:List aa) a1 c1 a2 c2,RS ar w X a1 l_ c1->RS av w X a2 ah c2->Ret Tryz.prog 37 #[.slice a1 l_.length c1,.slice a2 ah.length c2] aL w X (fun w X' v=>v=.int .i64 (eK l_ ah))
theorem hb37:aQ Tryz.prog 37=true:=by kernel_rfl
def S38:Prop:=∀ w X (l_:List ab) (ah:List aa) (pending:Bool) a1 c1 a2 c2,su l_ ah pending->RS ar w X a1 l_ c1->RS av w X a2 ah c2->Ret Tryz.prog 38 #[.slice a1 l_.length c1,.slice a2 ah.length c2,.bool pending] aL w X (fun w X' v=>∃ cz cy,v=.slice cz (eW l_ ah pending).length cy/\RS tI w X' cz (eW l_ ah pending) cy)
theorem hb38:aQ Tryz.prog 38=true:=by kernel_rfl
def S39:Prop:=∀ w X (n_:Int),yq n_->Ret Tryz.prog 39 #[.int .i64 n_] aL w X (fun w X' v=>∃ cz cy,v=.slice cz (dh n_).length cy/\RS (cd tI) w X' cz (dh n_) cy)
theorem hb39:aQ Tryz.prog 39=true:=by kernel_rfl
def S114:Prop:=∀ w X (i_:Int) (ao:List Bool) a1 c1 b1 i1,vj i_ ao->RS dP w X a1 ao c1->Cell w X b1 i1 158 [.slice a1 ao.length c1]->dZ [i1]->Ret Tryz.prog 114 #[.int .i64 i_,.pointer (some ⟨b1,0,none⟩)] (pR [i1]) w X (fun w X' v=>v=.bool (fh i_ ao)/\Cell w X' b1 i1 158 [.slice a1 ao.length c1])
theorem hb114:aQ Tryz.prog 114=true:=by kernel_rfl
def S112:Prop:=∀ w X (l_:List ab) (done:List Bool) a1 c1 a2 c2,yC l_ done->RS ar w X a1 l_ c1->RS dP w X a2 done c2->Ret Tryz.prog 112 #[.slice a1 l_.length c1,.slice a2 done.length c2] aL w X (fun w X' v=>∃ cz cy,v=.slice cz (fc l_ done).length cy/\RS tI w X' cz (fc l_ done) cy)
theorem hb112:aQ Tryz.prog 112=true:=by kernel_rfl
def S105:Prop:=∀ w X (o_:aj) (l_:List ab) (state:Int) (done:List Bool) a1 c1 a2 c2 a3 c3 cU,yx o_ l_ state done->RS aC w X a1 o_.Rows c1->RS ar w X a2 l_ c2->RS dP w X a3 done c3->Ret Tryz.prog 105 #[.agg #[.int .i64 o_.au,.int .i64 o_.az,.int .i64 o_.aH,.slice a1 o_.Rows.length c1],.slice a2 l_.length c2,.int .i64 state,.slice a3 done.length c3] aL w X (fun w X' v=>∃ cz cy,v=.slice cz (bM o_ l_ state done).length cy/\OS av 56 w X' cU cz (bM o_ l_ state done) cy)
theorem hb105:aQ Tryz.prog 105=true:=by kernel_rfl
def S88:Prop:=∀ w X (o_:aj) (l_:List ab) (jT:Int) a1 c1 a2 c2,yE o_ l_ jT->RS aC w X a1 o_.Rows c1->RS ar w X a2 l_ c2->Ret Tryz.prog 88 #[.agg #[.int .i64 o_.au,.int .i64 o_.az,.int .i64 o_.aH,.slice a1 o_.Rows.length c1],.slice a2 l_.length c2,.int .i64 jT] aL w X (fun w X' v=>v=.int .i64 (cD o_ l_ jT))
theorem hb88:aQ Tryz.prog 88=true:=by kernel_rfl
def S104:Prop:=∀ w X (s_:List aa) a1 c1 cU,yD s_->RS av w X a1 s_ c1->Ret Tryz.prog 104 #[.slice a1 s_.length c1] aL w X (fun w X' v=>∃ cz cy,v=.slice cz (b7 s_).length cy/\OS av 56 w X' cU cz (b7 s_) cy)
theorem hb104:aQ Tryz.prog 104=true:=by kernel_rfl
def S101:Prop:=∀ w X (state:Int) (ao:a8) a1 c1 a2 c2 a3 c3 r4 m4 b1 i1,RS aC w X a1 ao.o.Rows c1->RS ar w X a2 ao.l c2->RS dP w X a3 ao.done c3->OMS aU tI false w X m4 r4 ao.failed->Cell w X b1 i1 161 [.int .i64 ao.o.au,.int .i64 ao.o.az,.int .i64 ao.o.aH,.slice a1 ao.o.Rows.length c1,.slice a2 ao.l.length c2,.slice a3 ao.done.length c3,.map (some r4)]->dZ [i1,m4]->Ret Tryz.prog 101 #[.pointer (some ⟨b1,0,none⟩),.int .i64 state] (pR [i1,m4]) w X (fun w X' v=>v=.agg #[.int .u32 ((dI state ao).done),.int .i64 ((dI state ao).state)]/\Cell w X' b1 i1 161 [.int .i64 ao.o.au,.int .i64 ao.o.az,.int .i64 ao.o.aH,.slice a1 ao.o.Rows.length c1,.slice a2 ao.l.length c2,.slice a3 ao.done.length c3,.map (some r4)]/\OMS aU tI false w X' m4 r4 ao.failed)
theorem hb101:aQ Tryz.prog 101=true:=by kernel_rfl
def S100:Prop:=∀ w X (ao:a8) a1 c1 a2 c2 a3 c3 r4 m4 b1 i1,yk ao->RS aC w X a1 ao.o.Rows c1->RS ar w X a2 ao.l c2->RS dP w X a3 ao.done c3->OMS aU tI false w X m4 r4 ao.failed->Cell w X b1 i1 161 [.int .i64 ao.o.au,.int .i64 ao.o.az,.int .i64 ao.o.aH,.slice a1 ao.o.Rows.length c1,.slice a2 ao.l.length c2,.slice a3 ao.done.length c3,.map (some r4)]->dZ [i1,m4]->Ret Tryz.prog 100 #[.pointer (some ⟨b1,0,none⟩)] (pR [i1,m4]) w X (fun w X' v=>v=.bool (dU ao)/\Cell w X' b1 i1 161 [.int .i64 ao.o.au,.int .i64 ao.o.az,.int .i64 ao.o.aH,.slice a1 ao.o.Rows.length c1,.slice a2 ao.l.length c2,.slice a3 ao.done.length c3,.map (some r4)]/\OMS aU tI false w X' m4 r4 ao.failed)
theorem hb100:aQ Tryz.prog 100=true:=by kernel_rfl
def S102N (N:Nat):Prop:=∀ w X (p_:aa) (ay:a8) (aO:Int) (bF:List aa) a1 c1 a2 c2 a3 c3 m3 r4 m4 a5 c5 cU b1 i1 b2 i2 b3 i3 b4 i4,yl p_ ay aO bF->B7 p_ ay aO bF < N->RS aC w X a1 ay.o.Rows c1->RS ar w X a2 ay.l c2->OS dP 4 w X m3 a3 ay.done c3->OMS aU tI false w X m4 r4 ay.failed->RS av w X a5 bF c5->Cell w X b1 i1 147 [.pointer (some ⟨b2,0,none⟩)]->Cell w X b2 i2 161 [.int .i64 ay.o.au,.int .i64 ay.o.az,.int .i64 ay.o.aH,.slice a1 ay.o.Rows.length c1,.slice a2 ay.l.length c2,.slice a3 ay.done.length c3,.map (some r4)]->Cell w X b3 i3 3 [.int .i64 aO]->Cell w X b4 i4 26 [.slice a5 bF.length c5]->dZ [i1,i2,i3,i4,m3,m4]->Ret Tryz.prog 102 #[.agg #[.int .i64 p_.Oper,.int .i64 p_.Result],.pointer (some ⟨b1,0,none⟩),.pointer (some ⟨b3,0,none⟩),.pointer (some ⟨b4,0,none⟩)] (pR [i1,i2,i3,i4,m3,m4]) w X (fun w X' v=>∃ cz cy jd jc pC pB yj yi,v=.tuple #[.slice cz ((bj p_ ay aO bF).1).length cy,.bool ((bj p_ ay aO bF).2.1)]/\OS av 56 w X' cU cz ((bj p_ ay aO bF).1) cy/\RS aC w X' jd ((((bj p_ ay aO bF).2.2).o).Rows) jc/\RS ar w X' pC (((bj p_ ay aO bF).2.2).l) pB/\OS dP 4 w X' m3 yj (((bj p_ ay aO bF).2.2).done) yi/\Cell w X' b1 i1 147 [.pointer (some ⟨b2,0,none⟩)]/\Cell w X' b2 i2 161 [.int .i64 ((((bj p_ ay aO bF).2.2).o).au),.int .i64 ((((bj p_ ay aO bF).2.2).o).az),.int .i64 ((((bj p_ ay aO bF).2.2).o).aH),.slice jd ((((bj p_ ay aO bF).2.2).o).Rows).length jc,.slice pC (((bj p_ ay aO bF).2.2).l).length pB,.slice yj (((bj p_ ay aO bF).2.2).done).length yi,.map (some r4)]/\OMS aU tI false w X' m4 r4 (((bj p_ ay aO bF).2.2).failed)/\Cell w X' b3 i3 3 [.int .i64 aO]/\Cell w X' b4 i4 26 [.slice a5 bF.length c5])theorem hb102:aQ Tryz.prog 102=true:=by kernel_rfl
def S90:Prop:=∀ w X (state:Int) (so:List aa) (ao:a8) a1 c1 m1 a2 c2 a3 c3 a4 c4 m4 r5 m5 b1 i1,sx state so ao->OS av 56 w X m1 a1 so c1->RS aC w X a2 ao.o.Rows c2->RS ar w X a3 ao.l c3->OS dP 4 w X m4 a4 ao.done c4->OMS aU tI false w X m5 r5 ao.failed->Cell w X b1 i1 161 [.int .i64 ao.o.au,.int .i64 ao.o.az,.int .i64 ao.o.aH,.slice a2 ao.o.Rows.length c2,.slice a3 ao.l.length c3,.slice a4 ao.done.length c4,.map (some r5)]->dZ [i1,m1,m4,m5]->Ret Tryz.prog 90 #[.pointer (some ⟨b1,0,none⟩),.int .i64 state,.slice a1 so.length c1] (pR [i1,m1,m4,m5]) w X (fun w X' v=>∃ cz cy jd jc pC pB yj yi,v=.tuple #[.slice cz ((aK state so ao).1).length cy,.bool ((aK state so ao).2.1)]/\OS av 56 w X' m1 cz ((aK state so ao).1) cy/\RS aC w X' jd ((((aK state so ao).2.2).o).Rows) jc/\RS ar w X' pC (((aK state so ao).2.2).l) pB/\OS dP 4 w X' m4 yj (((aK state so ao).2.2).done) yi/\Cell w X' b1 i1 161 [.int .i64 ((((aK state so ao).2.2).o).au),.int .i64 ((((aK state so ao).2.2).o).az),.int .i64 ((((aK state so ao).2.2).o).aH),.slice jd ((((aK state so ao).2.2).o).Rows).length jc,.slice pC (((aK state so ao).2.2).l).length pB,.slice yj (((aK state so ao).2.2).done).length yi,.map (some r5)]/\OMS aU tI false w X' m5 r5 (((aK state so ao).2.2).failed))
def S90N (N:Nat):Prop:=∀ w X (state:Int) (so:List aa) (ao:a8) a1 c1 m1 a2 c2 a3 c3 a4 c4 m4 r5 m5 b1 i1,sx state so ao->o3 state so ao < N->OS av 56 w X m1 a1 so c1->RS aC w X a2 ao.o.Rows c2->RS ar w X a3 ao.l c3->OS dP 4 w X m4 a4 ao.done c4->OMS aU tI false w X m5 r5 ao.failed->Cell w X b1 i1 161 [.int .i64 ao.o.au,.int .i64 ao.o.az,.int .i64 ao.o.aH,.slice a2 ao.o.Rows.length c2,.slice a3 ao.l.length c3,.slice a4 ao.done.length c4,.map (some r5)]->dZ [i1,m1,m4,m5]->Ret Tryz.prog 90 #[.pointer (some ⟨b1,0,none⟩),.int .i64 state,.slice a1 so.length c1] (pR [i1,m1,m4,m5]) w X (fun w X' v=>∃ cz cy jd jc pC pB yj yi,v=.tuple #[.slice cz ((aK state so ao).1).length cy,.bool ((aK state so ao).2.1)]/\OS av 56 w X' m1 cz ((aK state so ao).1) cy/\RS aC w X' jd ((((aK state so ao).2.2).o).Rows) jc/\RS ar w X' pC (((aK state so ao).2.2).l) pB/\OS dP 4 w X' m4 yj (((aK state so ao).2.2).done) yi/\Cell w X' b1 i1 161 [.int .i64 ((((aK state so ao).2.2).o).au),.int .i64 ((((aK state so ao).2.2).o).az),.int .i64 ((((aK state so ao).2.2).o).aH),.slice jd ((((aK state so ao).2.2).o).Rows).length jc,.slice pC (((aK state so ao).2.2).l).length pB,.slice yj (((aK state so ao).2.2).done).length yi,.map (some r5)]/\OMS aU tI false w X' m5 r5 (((aK state so ao).2.2).failed))theorem hb90:aQ Tryz.prog 90=true:=by kernel_rfl
def S89:Prop:=∀ w X (o_:aj) (l_:List ab) a1 c1 a2 c2 cU dV jI,yG o_ l_->RS aC w X a1 o_.Rows c1->RS ar w X a2 l_ c2->Ret Tryz.prog 89 #[.agg #[.int .i64 o_.au,.int .i64 o_.az,.int .i64 o_.aH,.slice a1 o_.Rows.length c1],.slice a2 l_.length c2] aL w X (fun w X' v=>∃ cz cy jd jc pC pB Iu u5,v=.pointer (some ⟨u5,0,none⟩)/\RS aC w X' cz (((bH o_ l_).o).Rows) cy/\RS ar w X' jd ((bH o_ l_).l) jc/\OS dP 4 w X' cU pC ((bH o_ l_).done) pB/\Cell w X' u5 jI 161 [.int .i64 (((bH o_ l_).o).au),.int .i64 (((bH o_ l_).o).az),.int .i64 (((bH o_ l_).o).aH),.slice cz (((bH o_ l_).o).Rows).length cy,.slice jd ((bH o_ l_).l).length jc,.slice pC ((bH o_ l_).done).length pB,.map (some Iu)]/\OMS aU tI false w X' dV Iu ((bH o_ l_).failed))
theorem hb89:aQ Tryz.prog 89=true:=by kernel_rfl
def S70:Prop:=∀ w X (o_:aj) (l_:List ab) a1 c1 a2 c2 cU,ym o_ l_->RS aC w X a1 o_.Rows c1->RS ar w X a2 l_ c2->Ret Tryz.prog 70 #[.agg #[.int .i64 o_.au,.int .i64 o_.az,.int .i64 o_.aH,.slice a1 o_.Rows.length c1],.slice a2 l_.length c2] aL w X (fun w X' v=>∃ cz cy,v=.tuple #[.slice cz ((bn o_ l_).1).length cy,.int .i64 ((bn o_ l_).2)]/\OS av 56 w X' cU cz ((bn o_ l_).1) cy)
theorem hb70:aQ Tryz.prog 70=true:=by kernel_rfl
def S84:Prop:=∀ w X (x_:aw),Ret Tryz.prog 84 #[.agg #[.int .i64 x_.bo,.int .i64 x_.ak,.int .i64 x_.N]] aL w X (fun w X' v=>v=.int .i64 (gp x_))
theorem hb84:aQ Tryz.prog 84=true:=by kernel_rfl
def S55:Prop:=∀ w X (l_:List aw) a1 c1,RS aR w X a1 l_ c1->Ret Tryz.prog 55 #[.slice a1 l_.length c1] aL w X (fun w X' v=>v=.tuple #[.int .i64 ((bV l_).1),.int .i64 ((bV l_).2)])
theorem hb55:aQ Tryz.prog 55=true:=by kernel_rfl
def S94:Prop:=∀ w X (l_:List aw) (process:Int) a1 c1,RS aR w X a1 l_ c1->Ret Tryz.prog 94 #[.slice a1 l_.length c1,.int .i64 process] aL w X (fun w X' v=>v=.int .i64 (iv l_ process))
theorem hb94:aQ Tryz.prog 94=true:=by kernel_rfl
def S79:Prop:=∀ w X (l_:List aw) (process:Int) a1 c1,RS aR w X a1 l_ c1->Ret Tryz.prog 79 #[.slice a1 l_.length c1,.int .i64 process] aL w X (fun w X' v=>v=.bool (fq l_ process))
theorem hb79:aQ Tryz.prog 79=true:=by kernel_rfl
def S50:Prop:=∀ w X (l_:List aw) a1 c1,RS aR w X a1 l_ c1->Ret Tryz.prog 50 #[.slice a1 l_.length c1] aL w X (fun w X' v=>v=.tuple #[.int .i64 ((e6 l_).1),.int .i64 ((e6 l_).2)])
theorem hb50:aQ Tryz.prog 50=true:=by kernel_rfl
def S57:Prop:=∀ w X (a_:List bb) (b_:List bb) a1 c1 a2 c2,RS aC w X a1 a_ c1->RS aC w X a2 b_ c2->Ret Tryz.prog 57 #[.slice a1 a_.length c1,.slice a2 b_.length c2] aL w X (fun w X' v=>v=.bool (eE a_ b_))
theorem hb57:aQ Tryz.prog 57=true:=by kernel_rfl
def S26:Prop:=∀ w X (a_:aj) (b_:aj) a1 c1 a2 c2,RS aC w X a1 a_.Rows c1->RS aC w X a2 b_.Rows c2->Ret Tryz.prog 26 #[.agg #[.int .i64 a_.au,.int .i64 a_.az,.int .i64 a_.aH,.slice a1 a_.Rows.length c1],.agg #[.int .i64 b_.au,.int .i64 b_.az,.int .i64 b_.aH,.slice a2 b_.Rows.length c2]] aL w X (fun w X' v=>v=.bool (jf a_ b_))
theorem hb26:aQ Tryz.prog 26=true:=by kernel_rfl
def S56:Prop:=∀ w X (l_:List aw) a1 c1,RS aR w X a1 l_ c1->Ret Tryz.prog 56 #[.slice a1 l_.length c1] aL w X (fun w X' v=>∃ cz cy,v=.tuple #[.slice cz ((gL l_).1).length cy,.int .i64 ((gL l_).2)]/\RS ar w X' cz ((gL l_).1) cy)
theorem hb56:aQ Tryz.prog 56=true:=by kernel_rfl
def S18:Prop:=∀ w X (l_:List aw) a1 c1,RS aR w X a1 l_ c1->Ret Tryz.prog 18 #[.slice a1 l_.length c1] aL w X (fun w X' v=>∃ cz cy,v=.tuple #[.slice cz ((iS l_).1).length cy,.int .i64 ((iS l_).2)]/\RS ar w X' cz ((iS l_).1) cy)
theorem hb18:aQ Tryz.prog 18=true:=by kernel_rfl
def S25:Prop:=∀ w X (a_:List Int) (b_:List Int) a1 c1 a2 c2,RS tI w X a1 a_ c1->RS tI w X a2 b_ c2->Ret Tryz.prog 25 #[.slice a1 a_.length c1,.slice a2 b_.length c2] aL w X (fun w X' v=>v=.bool (e7 a_ b_))
theorem hb25:aQ Tryz.prog 25=true:=by kernel_rfl
def S92:Prop:=∀ w X (s_:List Int) (v_:Int) a1 c1,RS tI w X a1 s_ c1->Ret Tryz.prog 92 #[.slice a1 s_.length c1,.int .i64 v_] aL w X (fun w X' v=>v=.int .i64 (ew s_ v_))
theorem hb92:aQ Tryz.prog 92=true:=by kernel_rfl
def S77:Prop:=∀ w X (s_:List Int) (v_:Int) a1 c1,RS tI w X a1 s_ c1->Ret Tryz.prog 77 #[.slice a1 s_.length c1,.int .i64 v_] aL w X (fun w X' v=>v=.bool (cC s_ v_))
theorem hb77:aQ Tryz.prog 77=true:=by kernel_rfl
def S49:Prop:=∀ w X (s_:List bb) a1 c1,yF s_->RS aC w X a1 s_ c1->Ret Tryz.prog 49 #[.slice a1 s_.length c1] aL w X (fun w X' v=>∃ cz cy,v=.slice cz (de s_).length cy/\RS aC w X' cz (de s_) cy)
theorem hb49:aQ Tryz.prog 49=true:=by kernel_rfl
def S76:Prop:=∀ w X (p_:Int × Int) (n_:Int),Ret Tryz.prog 76 #[.agg #[.int .i64 p_.1,.int .i64 p_.2],.int .i64 n_] aL w X (fun w X' v=>v=.bool (ec p_ n_))
theorem hb76:aQ Tryz.prog 76=true:=by kernel_rfl
def S75:Prop:=∀ w X (p_:Int × Int) (ao:Int) (ay:Int) (aO:List Int) a1 c1 b1 i1 b2 i2 b3 i3,RS tI w X a1 aO c1->Cell w X b1 i1 3 [.int .i64 ao]->Cell w X b2 i2 3 [.int .i64 ay]->Cell w X b3 i3 43 [.slice a1 aO.length c1]->dZ [i1,i2,i3]->Ret Tryz.prog 75 #[.agg #[.int .i64 p_.1,.int .i64 p_.2],.pointer (some ⟨b1,0,none⟩),.pointer (some ⟨b2,0,none⟩),.pointer (some ⟨b3,0,none⟩)] (pR [i1,i2,i3]) w X (fun w X' v=>v=.bool (cl p_ ao ay aO)/\Cell w X' b1 i1 3 [.int .i64 ao]/\Cell w X' b2 i2 3 [.int .i64 ay]/\Cell w X' b3 i3 43 [.slice a1 aO.length c1])
theorem hb75:aQ Tryz.prog 75=true:=by kernel_rfl
def S93_75:Prop:=∀ w X (s_:List (Int × Int)) (ao:Int) (ay:Int) (aO:List Int) a1 c1 a2 c2 b1 i1 b2 i2 b3 i3,RS tP2 w X a1 s_ c1->RS tI w X a2 aO c2->Cell w X b1 i1 3 [.int .i64 ao]->Cell w X b2 i2 3 [.int .i64 ay]->Cell w X b3 i3 43 [.slice a2 aO.length c2]->dZ [i1,i2,i3]->Ret Tryz.prog 93 #[.slice a1 s_.length c1,.func (.func 75) #[] #[.pointer (some ⟨b1,0,none⟩),.pointer (some ⟨b2,0,none⟩),.pointer (some ⟨b3,0,none⟩)]] (pR [i1,i2,i3]) w X (fun w X' v=>v=.int .i64 (br s_ ao ay aO)/\Cell w X' b1 i1 3 [.int .i64 ao]/\Cell w X' b2 i2 3 [.int .i64 ay]/\Cell w X' b3 i3 43 [.slice a2 aO.length c2])
theorem hb93:aQ Tryz.prog 93=true:=by kernel_rfl
def S78_75:Prop:=∀ w X (s_:List (Int × Int)) (ao:Int) (ay:Int) (aO:List Int) a1 c1 a2 c2 b1 i1 b2 i2 b3 i3,RS tP2 w X a1 s_ c1->RS tI w X a2 aO c2->Cell w X b1 i1 3 [.int .i64 ao]->Cell w X b2 i2 3 [.int .i64 ay]->Cell w X b3 i3 43 [.slice a2 aO.length c2]->dZ [i1,i2,i3]->Ret Tryz.prog 78 #[.slice a1 s_.length c1,.func (.func 75) #[] #[.pointer (some ⟨b1,0,none⟩),.pointer (some ⟨b2,0,none⟩),.pointer (some ⟨b3,0,none⟩)]] (pR [i1,i2,i3]) w X (fun w X' v=>v=.bool (bJ s_ ao ay aO)/\Cell w X' b1 i1 3 [.int .i64 ao]/\Cell w X' b2 i2 3 [.int .i64 ay]/\Cell w X' b3 i3 43 [.slice a2 aO.length c2])
theorem hb78:aQ Tryz.prog 78=true:=by kernel_rfl
def S74:Prop:=∀ w X (x_:Int) (ao:Int) (ay:List Int) (aO:List (Int × Int)) a1 c1 a2 c2 b1 i1 b2 i2 b3 i3,RS tI w X a1 ay c1->RS tP2 w X a2 aO c2->Cell w X b1 i1 3 [.int .i64 ao]->Cell w X b2 i2 43 [.slice a1 ay.length c1]->Cell w X b3 i3 95 [.slice a2 aO.length c2]->dZ [i1,i2,i3]->Ret Tryz.prog 74 #[.int .i64 x_,.pointer (some ⟨b1,0,none⟩),.pointer (some ⟨b2,0,none⟩),.pointer (some ⟨b3,0,none⟩)] (pR [i1,i2,i3]) w X (fun w X' v=>v=.bool (dg x_ ao ay aO)/\Cell w X' b1 i1 3 [.int .i64 ao]/\Cell w X' b2 i2 43 [.slice a1 ay.length c1]/\Cell w X' b3 i3 95 [.slice a2 aO.length c2])
theorem hb74:aQ Tryz.prog 74=true:=by kernel_rfl
def S44:Prop:=∀ w X (n_:Int) (pairs:List (Int × Int)) a1 c1,RS tP2 w X a1 pairs c1->Ret Tryz.prog 44 #[.int .i64 n_,.slice a1 pairs.length c1] aL w X (fun w X' v=>∃ cz cy,v=.tuple #[.slice cz ((dp n_ pairs).1).length cy,.bool ((dp n_ pairs).2)]/\RS tI w X' cz ((dp n_ pairs).1) cy)
theorem hb44:aQ Tryz.prog 44=true:=by kernel_rfl
def S47:Prop:=∀ w X (h_:al) a1 c1 a2 c2,l5 h_->RS aB w X a1 h_.ae c1->RS aP w X a2 h_.aq c2->Ret Tryz.prog 47 #[.agg #[.slice a1 h_.ae.length c1,.slice a2 h_.aq.length c2]] aL w X (fun w X' v=>∃ cz cy,v=.slice cz (bT h_).length cy/\RS aR w X' cz (bT h_) cy)
theorem hb47:aQ Tryz.prog 47=true:=by kernel_rfl
def S52:Prop:=∀ w X (o_:aj) a1 c1,kL o_->RS aC w X a1 o_.Rows c1->Ret Tryz.prog 52 #[.agg #[.int .i64 o_.au,.int .i64 o_.az,.int .i64 o_.aH,.slice a1 o_.Rows.length c1]] aL w X (fun w X' v=>v=.bool (cZ o_))
theorem hb52:aQ Tryz.prog 52=true:=by kernel_rfl
def S83_52:Prop:=∀ w X (s_:List aj) a1 c1,l6 s_->RS aB w X a1 s_ c1->dZ []->Ret Tryz.prog 83 #[.slice a1 s_.length c1,.func (.func 52) #[] #[]] (pR []) w X (fun w X' v=>v=.int .i64 (bc s_))
theorem hb83:aQ Tryz.prog 83=true:=by kernel_rfl
def S54_52:Prop:=∀ w X (s_:List aj) a1 c1,l6 s_->RS aB w X a1 s_ c1->dZ []->Ret Tryz.prog 54 #[.slice a1 s_.length c1,.func (.func 52) #[] #[]] (pR []) w X (fun w X' v=>v=.bool (aZ s_))
theorem hb54:aQ Tryz.prog 54=true:=by kernel_rfl
def S23:Prop:=∀ w X (h_:al) a1 c1 a2 c2,gl h_->RS aB w X a1 h_.ae c1->RS aP w X a2 h_.aq c2->Ret Tryz.prog 23 #[.agg #[.slice a1 h_.ae.length c1,.slice a2 h_.aq.length c2]] aL w X (fun w X' v=>v=.tuple #[.int .i64 ((aE h_).1),.int .i64 ((aE h_).2)])
theorem hb23:aQ Tryz.prog 23=true:=by kernel_rfl
def S45:Prop:=∀ w X (l_:List aG) a1 c1,ss l_->RS bG w X a1 l_ c1->Ret Tryz.prog 45 #[.slice a1 l_.length c1] aL w X (fun w X' v=>∃ cz cy,v=.slice cz (cv l_).length cy/\RS aR w X' cz (cv l_) cy)
theorem hb45:aQ Tryz.prog 45=true:=by kernel_rfl
def S59:Prop:=∀ w X (l_:List aG) (at_:Int) a1 c1,tL l_ at_->RS bG w X a1 l_ c1->Ret Tryz.prog 59 #[.slice a1 l_.length c1,.int .i64 at_] aL w X (fun w X' v=>v=.int .i64 (fG l_ at_))
theorem hb59:aQ Tryz.prog 59=true:=by kernel_rfl
def S28:Prop:=∀ w X (objects:List aj) (l_:List aG) a1 c1 a2 c2,k5 objects l_->RS aB w X a1 objects c1->RS bG w X a2 l_ c2->Ret Tryz.prog 28 #[.slice a1 objects.length c1,.slice a2 l_.length c2] aL w X (fun w X' v=>v=.tuple #[.int .i64 ((dJ objects l_).1),.int .i64 ((dJ objects l_).2)])
theorem hb28:aQ Tryz.prog 28=true:=by kernel_rfl
def S48:Prop:=∀ w X (i_:Int) (ao:al) (ay:Int) a1 c1 a2 c2 b1 i1 b2 i2,yp i_ ao ay->RS aB w X a1 ao.ae c1->RS aP w X a2 ao.aq c2->Cell w X b1 i1 25 [.slice a1 ao.ae.length c1,.slice a2 ao.aq.length c2]->Cell w X b2 i2 3 [.int .i64 ay]->dZ [i1,i2]->Ret Tryz.prog 48 #[.int .i64 i_,.pointer (some ⟨b1,0,none⟩),.pointer (some ⟨b2,0,none⟩)] (pR [i1,i2]) w X (fun w X' v=>v=.bool (eX i_ ao ay)/\Cell w X' b1 i1 25 [.slice a1 ao.ae.length c1,.slice a2 ao.aq.length c2]/\Cell w X' b2 i2 3 [.int .i64 ay])
theorem hb48:aQ Tryz.prog 48=true:=by kernel_rfl
def S46_48:Prop:=∀ w X (l_:List aw) (ao:al) (ay:Int) a1 c1 a2 c2 a3 c3 b1 i1 b2 i2,yu l_ ao ay->RS aR w X a1 l_ c1->RS aB w X a2 ao.ae c2->RS aP w X a3 ao.aq c3->Cell w X b1 i1 25 [.slice a2 ao.ae.length c2,.slice a3 ao.aq.length c3]->Cell w X b2 i2 3 [.int .i64 ay]->dZ [i1,i2]->Ret Tryz.prog 46 #[.slice a1 l_.length c1,.func (.func 48) #[] #[.pointer (some ⟨b1,0,none⟩),.pointer (some ⟨b2,0,none⟩)]] (pR [i1,i2]) w X (fun w X' v=>∃ cz cy,v=.slice cz (bS l_ ao ay).length cy/\RS aR w X' cz (bS l_ ao ay) cy/\Cell w X' b1 i1 25 [.slice a2 ao.ae.length c2,.slice a3 ao.aq.length c3]/\Cell w X' b2 i2 3 [.int .i64 ay])
theorem hb46:aQ Tryz.prog 46=true:=by kernel_rfl
def S17:Prop:=∀ w X (h_:al) (k_:Int) a1 c1 a2 c2,yA h_ k_->RS aB w X a1 h_.ae c1->RS aP w X a2 h_.aq c2->Ret Tryz.prog 17 #[.agg #[.slice a1 h_.ae.length c1,.slice a2 h_.aq.length c2],.int .i64 k_] aL w X (fun w X' v=>∃ cz cy jd jc,v=.agg #[.int .i64 (((eS h_ k_).aA).au),.int .i64 (((eS h_ k_).aA).az),.int .i64 (((eS h_ k_).aA).aH),.slice cz (((eS h_ k_).aA).Rows).length cy,.slice jd ((eS h_ k_).aq).length jc]/\RS aC w X' cz (((eS h_ k_).aA).Rows) cy/\RS aR w X' jd ((eS h_ k_).aq) jc)
theorem hb17:aQ Tryz.prog 17=true:=by kernel_rfl
def S24:Prop:=∀ w X (h_:al) a1 c1 a2 c2,gl h_->RS aB w X a1 h_.ae c1->RS aP w X a2 h_.aq c2->Ret Tryz.prog 24 #[.agg #[.slice a1 h_.ae.length c1,.slice a2 h_.aq.length c2]] aL w X (fun w X' v=>∃ cz cy jd jc,v=.tuple #[.slice cz ((cN h_).1).length cy,.slice jd ((cN h_).2).length jc]/\RS ar w X' cz ((cN h_).1) cy/\RS tI w X' jd ((cN h_).2) jc)
theorem hb24:aQ Tryz.prog 24=true:=by kernel_rfl
def S16:Prop:=∀ w X (objects:List aj) (l_:List aG) a1 c1 a2 c2,k5 objects l_->RS aB w X a1 objects c1->RS bG w X a2 l_ c2->Ret Tryz.prog 16 #[.slice a1 objects.length c1,.slice a2 l_.length c2] aL w X (fun w X' v=>∃ cz cy jd jc,v=.tuple #[.slice cz ((bf objects l_).1).length cy,.slice jd ((bf objects l_).2).length jc]/\RS ar w X' cz ((bf objects l_).1) cy/\RS tI w X' jd ((bf objects l_).2) jc)
theorem hb16:aQ Tryz.prog 16=true:=by kernel_rfl
def S41:Prop:=∀ w X (h_:al) a1 c1 a2 c2,gl h_->RS aB w X a1 h_.ae c1->RS aP w X a2 h_.aq c2->Ret Tryz.prog 41 #[.agg #[.slice a1 h_.ae.length c1,.slice a2 h_.aq.length c2]] aL w X (fun w X' v=>∃ cz cy jd jc,v=.tuple #[.slice cz ((cq h_).1).length cy,.slice jd ((cq h_).2.1).length jc,.int .i64 ((cq h_).2.2)]/\RS ar w X' cz ((cq h_).1) cy/\RS tI w X' jd ((cq h_).2.1) jc)
theorem hb41:aQ Tryz.prog 41=true:=by kernel_rfl
def S69:Prop:=∀ w X (of:List Int) (k_:Int) a1 c1,sw of k_->RS tI w X a1 of c1->Ret Tryz.prog 69 #[.slice a1 of.length c1,.int .i64 k_] aL w X (fun w X' v=>∃ cz cy,v=.slice cz (aS of k_).length cy/\RS tI w X' cz (aS of k_) cy)
theorem hb69:aQ Tryz.prog 69=true:=by kernel_rfl
def S72:Prop:=∀ w X (i_:Int) (ao:List Int) (ay:Int) a1 c1 b1 i1 b2 i2,tK i_ ao ay->RS tI w X a1 ao c1->Cell w X b1 i1 43 [.slice a1 ao.length c1]->Cell w X b2 i2 3 [.int .i64 ay]->dZ [i1,i2]->Ret Tryz.prog 72 #[.int .i64 i_,.pointer (some ⟨b1,0,none⟩),.pointer (some ⟨b2,0,none⟩)] (pR [i1,i2]) w X (fun w X' v=>v=.bool (dM i_ ao ay)/\Cell w X' b1 i1 43 [.slice a1 ao.length c1]/\Cell w X' b2 i2 3 [.int .i64 ay])
theorem hb72:aQ Tryz.prog 72=true:=by kernel_rfl
def S71_72:Prop:=∀ w X (l_:List ab) (ao:List Int) (ay:Int) a1 c1 a2 c2 b1 i1 b2 i2,yr l_ ao ay->RS ar w X a1 l_ c1->RS tI w X a2 ao c2->Cell w X b1 i1 43 [.slice a2 ao.length c2]->Cell w X b2 i2 3 [.int .i64 ay]->dZ [i1,i2]->Ret Tryz.prog 71 #[.slice a1 l_.length c1,.func (.func 72) #[] #[.pointer (some ⟨b1,0,none⟩),.pointer (some ⟨b2,0,none⟩)]] (pR [i1,i2]) w X (fun w X' v=>∃ cz cy,v=.slice cz (bI l_ ao ay).length cy/\RS ar w X' cz (bI l_ ao ay) cy/\Cell w X' b1 i1 43 [.slice a2 ao.length c2]/\Cell w X' b2 i2 3 [.int .i64 ay])
theorem hb71:aQ Tryz.prog 71=true:=by kernel_rfl
def S42:Prop:=∀ w X (h_:al) (l_:List ab) (of:List Int) a1 c1 a2 c2 a3 c3 a4 c4,yo h_ l_ of->RS aB w X a1 h_.ae c1->RS aP w X a2 h_.aq c2->RS ar w X a3 l_ c3->RS tI w X a4 of c4->Ret Tryz.prog 42 #[.agg #[.slice a1 h_.ae.length c1,.slice a2 h_.aq.length c2],.slice a3 l_.length c3,.slice a4 of.length c4] aL w X (fun w X' v=>∃ cz cy,v=.tuple #[.slice cz ((cM h_ l_ of).1).length cy,.int .i64 ((cM h_ l_ of).2)]/\RS (cd av) w X' cz ((cM h_ l_ of).1) cy)
theorem hb42:aQ Tryz.prog 42=true:=by kernel_rfl
def S91:Prop:=∀ w X (n_:Int) cU,yB n_->Ret Tryz.prog 91 #[.slice none 0 0,.int .i64 n_] aL w X (fun w X' v=>∃ cz cy,v=.slice cz (cu n_).length cy/\OS av 56 w X' cU cz (cu n_) cy)
theorem hb91:aQ Tryz.prog 91=true:=by kernel_rfl
def S73:Prop:=∀ w X (bX:List (List aa)) a1 c1,sA bX->RS (cd av) w X a1 bX c1->Ret Tryz.prog 73 #[.slice a1 bX.length c1] aL w X (fun w X' v=>∃ cz cy,v=.slice cz (cg bX).length cy/\RS av w X' cz (cg bX) cy)
theorem hb73:aQ Tryz.prog 73=true:=by kernel_rfl
def S43:Prop:=∀ w X (l_:List ab) (rows:List (List aa)) a1 c1 a2 c2,vk l_ rows->RS ar w X a1 l_ c1->RS (cd av) w X a2 rows c2->Ret Tryz.prog 43 #[.slice a1 l_.length c1,.slice a2 rows.length c2] aL w X (fun w X' v=>∃ cz cy jd jc,v=.tuple #[.slice cz ((cj l_ rows).1).length cy,.slice jd ((cj l_ rows).2).length jc]/\RS av w X' cz ((cj l_ rows).1) cy/\RS tP2 w X' jd ((cj l_ rows).2) jc)
theorem hb43:aQ Tryz.prog 43=true:=by kernel_rfl
def S15:Prop:=∀ w X (h_:al) a1 c1 a2 c2,gl h_->RS aB w X a1 h_.ae c1->RS aP w X a2 h_.aq c2->Ret Tryz.prog 15 #[.agg #[.slice a1 h_.ae.length c1,.slice a2 h_.aq.length c2]] aL w X (fun w X' v=>∃ cz cy,v=.tuple #[.slice cz ((cV h_).1).length cy,.int .i64 ((cV h_).2)]/\RS av w X' cz ((cV h_).1) cy)
theorem hb15:aQ Tryz.prog 15=true:=by kernel_rfl
def S9:Prop:=∀ w X (h_:al) a1 c1 a2 c2,gl h_->RS aB w X a1 h_.ae c1->RS aP w X a2 h_.aq c2->Ret Tryz.prog 9 #[.agg #[.slice a1 h_.ae.length c1,.slice a2 h_.aq.length c2]] aL w X (fun w X' v=>v=.tuple #[.bool ((dF h_).1),.int .i64 ((dF h_).2)])
theorem hb9:aQ Tryz.prog 9=true:=by kernel_rfl
def S32:Prop:=∀ w X (i_:Int) (ao:List aa) (ay:List ab) (aO:List Int) (bF:Int) a1 c1 a2 c2 a3 c3 b1 i1 b2 i2 b3 i3 b4 i4,yz i_ ao ay aO bF->RS av w X a1 ao c1->RS ar w X a2 ay c2->RS tI w X a3 aO c3->Cell w X b1 i1 26 [.slice a1 ao.length c1]->Cell w X b2 i2 42 [.slice a2 ay.length c2]->Cell w X b3 i3 43 [.slice a3 aO.length c3]->Cell w X b4 i4 3 [.int .i64 bF]->dZ [i1,i2,i3,i4]->Ret Tryz.prog 32 #[.int .i64 i_,.pointer (some ⟨b1,0,none⟩),.pointer (some ⟨b2,0,none⟩),.pointer (some ⟨b3,0,none⟩),.pointer (some ⟨b4,0,none⟩)] (pR [i1,i2,i3,i4]) w X (fun w X' v=>v=.bool (dN i_ ao ay aO bF)/\Cell w X' b1 i1 26 [.slice a1 ao.length c1]/\Cell w X' b2 i2 42 [.slice a2 ay.length c2]/\Cell w X' b3 i3 43 [.slice a3 aO.length c3]/\Cell w X' b4 i4 3 [.int .i64 bF])
theorem hb32:aQ Tryz.prog 32=true:=by kernel_rfl
def S31_32:Prop:=∀ w X (l_:List aa) (ao:List aa) (ay:List ab) (aO:List Int) (bF:Int) a1 c1 a2 c2 a3 c3 a4 c4 b1 i1 b2 i2 b3 i3 b4 i4,yy l_ ao ay aO bF->RS av w X a1 l_ c1->RS av w X a2 ao c2->RS ar w X a3 ay c3->RS tI w X a4 aO c4->Cell w X b1 i1 26 [.slice a2 ao.length c2]->Cell w X b2 i2 42 [.slice a3 ay.length c3]->Cell w X b3 i3 43 [.slice a4 aO.length c4]->Cell w X b4 i4 3 [.int .i64 bF]->dZ [i1,i2,i3,i4]->Ret Tryz.prog 31 #[.slice a1 l_.length c1,.func (.func 32) #[] #[.pointer (some ⟨b1,0,none⟩),.pointer (some ⟨b2,0,none⟩),.pointer (some ⟨b3,0,none⟩),.pointer (some ⟨b4,0,none⟩)]] (pR [i1,i2,i3,i4]) w X (fun w X' v=>∃ cz cy,v=.slice cz (bR l_ ao ay aO bF).length cy/\RS av w X' cz (bR l_ ao ay aO bF) cy/\Cell w X' b1 i1 26 [.slice a2 ao.length c2]/\Cell w X' b2 i2 42 [.slice a3 ay.length c3]/\Cell w X' b3 i3 43 [.slice a4 aO.length c4]/\Cell w X' b4 i4 3 [.int .i64 bF])
theorem hb31:aQ Tryz.prog 31=true:=by kernel_rfl
def S12:Prop:=∀ w X (h_:al) (ah:List aa) a1 c1 a2 c2 a3 c3,vh h_ ah->RS aB w X a1 h_.ae c1->RS aP w X a2 h_.aq c2->RS av w X a3 ah c3->Ret Tryz.prog 12 #[.agg #[.slice a1 h_.ae.length c1,.slice a2 h_.aq.length c2],.slice a3 ah.length c3] aL w X (fun w X' v=>v=.bool (gn h_ ah))
theorem hb12:aQ Tryz.prog 12=true:=by kernel_rfl
def S40:Prop:=∀ w X (objects:List aj) (ops:List ab) (of:List Int) (order:List Int) a1 c1 a2 c2 a3 c3 a4 c4,vi objects ops of order->RS aB w X a1 objects c1->RS ar w X a2 ops c2->RS tI w X a3 of c3->RS tI w X a4 order c4->Ret Tryz.prog 40 #[.slice a1 objects.length c1,.slice a2 ops.length c2,.slice a3 of.length c3,.slice a4 order.length c4] aL w X (fun w X' v=>∃ cz cy,v=.tuple #[.slice cz ((dj objects ops of order).1).length cy,.bool ((dj objects ops of order).2)]/\RS av w X' cz ((dj objects ops of order).1) cy)
theorem hb40:aQ Tryz.prog 40=true:=by kernel_rfl
def S13:Prop:=∀ w X (objects:List aj) (l_:List aG) (ah:List aa) a1 c1 a2 c2 a3 c3,yn objects l_ ah->RS aB w X a1 objects c1->RS bG w X a2 l_ c2->RS av w X a3 ah c3->Ret Tryz.prog 13 #[.slice a1 objects.length c1,.slice a2 l_.length c2,.slice a3 ah.length c3] aL w X (fun w X' v=>v=.bool (eA objects l_ ah))
theorem hb13:aQ Tryz.prog 13=true:=by kernel_rfl
def S14:Prop:=∀ w X (objects:List aj) (l_:List aG) a1 c1 a2 c2,qL objects l_->RS aB w X a1 objects c1->RS bG w X a2 l_ c2->Ret Tryz.prog 14 #[.slice a1 objects.length c1,.slice a2 l_.length c2] aL w X (fun w X' v=>v=.bool (fM objects l_))
theorem hb14:aQ Tryz.prog 14=true:=by kernel_rfl
def S27:Prop:=∀ w X,Ret Tryz.prog 27 #[] aL w X (fun w X' v=>∃ cz cy,v=.agg #[.int .i64 dC.au,.int .i64 dC.az,.int .i64 dC.aH,.slice cz dC.Rows.length cy]/\RS aC w X' cz dC.Rows cy)
theorem hb27:aQ Tryz.prog 27=true:=by kernel_rfl
def S22:Prop:=∀ w X (object:Int) cU,Ret Tryz.prog 22 #[.int .i64 object] aL w X (fun w X' v=>∃ cz cy jd jc,v=.agg #[.slice cz ((cG object).ae).length cy,.slice jd ((cG object).aq).length jc]/\RS aB w X' cz ((cG object).ae) cy/\OS aP 63 w X' cU jd ((cG object).aq) jc)
theorem hb22:aQ Tryz.prog 22=true:=by kernel_rfl
def S11:Prop:=∀ w X (h_:al) a1 c1 a2 c2,l5 h_->RS aB w X a1 h_.ae c1->RS aP w X a2 h_.aq c2->Ret Tryz.prog 11 #[.agg #[.slice a1 h_.ae.length c1,.slice a2 h_.aq.length c2]] aL w X (fun w X' v=>∃ cz cy,v=.slice cz (eO h_).length cy/\RS bG w X' cz (eO h_) cy)
theorem hb11:aQ Tryz.prog 11=true:=by kernel_rfl
def S7:Prop:=∀ w X (h_:al) a1 c1 a2 c2,RS aB w X a1 h_.ae c1->RS aP w X a2 h_.aq c2->Ret Tryz.prog 7 #[.agg #[.slice a1 h_.ae.length c1,.slice a2 h_.aq.length c2]] aL w X (fun w X' v=>v=.int .i64 (fj h_))
theorem hb7:aQ Tryz.prog 7=true:=by kernel_rfl
def S6:Prop:=∀ w X (h_:al) a1 c1 a2 c2,RS aB w X a1 h_.ae c1->RS aP w X a2 h_.aq c2->Ret Tryz.prog 6 #[.agg #[.slice a1 h_.ae.length c1,.slice a2 h_.aq.length c2]] aL w X (fun w X' v=>v=.bool (hK h_))
theorem hb6:aQ Tryz.prog 6=true:=by kernel_rfl
def S8:Prop:=∀ w X,Ret Tryz.prog 8 #[] aL w X (fun w X' v=>v=.bool fI)
theorem hb8:aQ Tryz.prog 8=true:=by kernel_rfl
end Go.Proofs.YteahldlmkheleaaGreat
