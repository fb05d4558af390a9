/- What the walks share. No condition. -/
import Derived.Test.YtobeanopikjkeaaGreatGVC
import Derived.Test.YtobeanopikjkeaaGreatGReps
import Derived.Test.YtobeanopikjkeaaGreatSk
set_option linter.all false
namespace Go.Proofs.YtobeanopikjkeaaGreat
open Go Go.Sv
abbrev ii (x:Int):Value:=.int .i64 x
abbrev rt:=@Ret Tryz.prog
theorem e2e {E A0 A1:Prop} (e:E) (a0:E->A0) (a1:E->A1):A0∧A1:=⟨a0 e,a1 e⟩
theorem e3e {E A0 A1 A2:Prop} (e:E) (a0:E->A0) (a1:E->A1) (a2:E->A2):A0∧A1∧A2:=⟨a0 e,a1 e,a2 e⟩
theorem e4e {E A0 A1 A2 A3:Prop} (e:E) (a0:E->A0) (a1:E->A1) (a2:E->A2) (a3:E->A3):A0∧A1∧A2∧A3:=⟨a0 e,a1 e,a2 e,a3 e⟩
theorem e5e {E A0 A1 A2 A3 A4:Prop} (e:E) (a0:E->A0) (a1:E->A1) (a2:E->A2) (a3:E->A3) (a4:E->A4):A0∧A1∧A2∧A3∧A4:=⟨a0 e,a1 e,a2 e,a3 e,a4 e⟩
theorem e6e {E A0 A1 A2 A3 A4 A5:Prop} (e:E) (a0:E->A0) (a1:E->A1) (a2:E->A2) (a3:E->A3) (a4:E->A4) (a5:E->A5):A0∧A1∧A2∧A3∧A4∧A5:=⟨a0 e,a1 e,a2 e,a3 e,a4 e,a5 e⟩
theorem e7e {E A0 A1 A2 A3 A4 A5 A6:Prop} (e:E) (a0:E->A0) (a1:E->A1) (a2:E->A2) (a3:E->A3) (a4:E->A4) (a5:E->A5) (a6:E->A6):A0∧A1∧A2∧A3∧A4∧A5∧A6:=⟨a0 e,a1 e,a2 e,a3 e,a4 e,a5 e,a6 e⟩
theorem e8e {E A0 A1 A2 A3 A4 A5 A6 A7:Prop} (e:E) (a0:E->A0) (a1:E->A1) (a2:E->A2) (a3:E->A3) (a4:E->A4) (a5:E->A5) (a6:E->A6) (a7:E->A7):A0∧A1∧A2∧A3∧A4∧A5∧A6∧A7:=⟨a0 e,a1 e,a2 e,a3 e,a4 e,a5 e,a6 e,a7 e⟩
abbrev zi1 (b1:Nat):Nat→Nat:=fun id=>(bif Nat.beq id 901 then b1 else 0)
theorem pn1 (b1:Nat):Pin [(901,b1)] (zi1 b1):=by intro q hq; simp at hq; rcases hq with rfl <;> rfl
abbrev zi2 (b1 b2:Nat):Nat→Nat:=fun id=>(bif Nat.beq id 901 then b1 else (bif Nat.beq id 902 then b2 else 0))
theorem pn2 (b1 b2:Nat):Pin [(901,b1),(902,b2)] (zi2 b1 b2):=by intro q hq; simp at hq; rcases hq with rfl | rfl <;> rfl
abbrev zi3 (b1 b2 b3:Nat):Nat→Nat:=fun id=>(bif Nat.beq id 901 then b1 else (bif Nat.beq id 902 then b2 else (bif Nat.beq id 903 then b3 else 0)))
theorem pn3 (b1 b2 b3:Nat):Pin [(901,b1),(902,b2),(903,b3)] (zi3 b1 b2 b3):=by intro q hq; simp at hq; rcases hq with rfl | rfl | rfl <;> rfl
abbrev zi4 (b1 b2 b3 b4:Nat):Nat→Nat:=fun id=>(bif Nat.beq id 901 then b1 else (bif Nat.beq id 902 then b2 else (bif Nat.beq id 903 then b3 else (bif Nat.beq id 904 then b4 else 0))))
theorem pn4 (b1 b2 b3 b4:Nat):Pin [(901,b1),(902,b2),(903,b3),(904,b4)] (zi4 b1 b2 b3 b4):=by intro q hq; simp at hq; rcases hq with rfl | rfl | rfl | rfl <;> rfl
theorem mo1 {P:Program} {f:FuncId} {vals:Array Value} {p:Nat→Bool} {w:World} {X:Nat→Nat} {α:Type} {x:α} {F:α→World→(Nat→Nat)→Value→Prop} (h:Ret P f vals p w X (fun w X v=>∃ r,r=x∧F r w X v)):Ret P f vals p w X (F x) :=
 h.mono fun _ _ _ _ ⟨_,e,k⟩=>e ▸ k
abbrev cO (o:ah) (a:Option Addr) (c:Nat):List SV:=[I o.ab,I o.aP,I o.aU,Sl a o.Rows c]
abbrev cR (o:cG):List SV:=[I o.State,I o.Kind,I o.Next,I o.Result]
abbrev cK (o:ak):List SV:=[I o.Oper,I o.Result]
theorem bft (b:Bool):b=true∨b=false:=Bool.eq_false_or_eq_true b
abbrev wR (n:Int):Int:=IntKind.i64.wrap n
abbrev lN {α:Type} (l:List α):Int:=((l.length:Nat):Int)
def S5:Prop:=∀ w X,rt 5 #[] aB w X (fun w X' v=>v=.bool ji)
theorem hb5:aD Tryz.prog 5=true:=by kernel_rfl
def S7:Prop:=∀ w X (f_:aL) a1 c1,RS (aA tI) w X a1 f_.ai c1->rt 7 #[.agg #[ii f_.bC,.slice a1 f_.ai.length c1]] aB w X (fun w X' v=>v=.tuple #[ii ((ff f_).1),ii ((ff f_).2)])
theorem hb7:aD Tryz.prog 7=true:=by kernel_rfl
def S9:Prop:=∀ w X (f_:aL) (n_:Int) a1 c1,RS (aA tI) w X a1 f_.ai c1->rt 9 #[.agg #[ii f_.bC,.slice a1 f_.ai.length c1],ii n_] aB w X (fun w X' v=>∃ dg de,v=.tuple #[.slice dg ((fk f_ n_).1).length de,.bool ((fk f_ n_).2)]/\RS cD w X' dg ((fk f_ n_).1) de)
theorem hb9:aD Tryz.prog 9=true:=by kernel_rfl
def S4:Prop:=∀ w X (o_:ah) a1 c1,RS aF w X a1 o_.Rows c1->rt 4 #[.agg #[ii o_.ab,ii o_.aP,ii o_.aU,.slice a1 o_.Rows.length c1]] aB w X (fun w X' v=>v=.bool (ke o_))
theorem hb4:aD Tryz.prog 4=true:=by kernel_rfl
def S113:Prop:=∀ w X (n_:Int) (top:Int),rt 113 #[ii n_,ii top] aB w X (fun w X' v=>v=.bool (bH n_ top))
theorem hb113:aD Tryz.prog 113=true:=by kernel_rfl
def S208:Prop:=∀ w X (vals:List Int) a1 c1,RS tI w X a1 vals c1->rt 208 #[.slice a1 vals.length c1] aB w X (fun w X' v=>v=ii (gy vals))
theorem hb208:aD Tryz.prog 208=true:=by kernel_rfl
def S268:Prop:=∀ w X (x_:Int),rt 268 #[ii x_] aB w X (fun w X' v=>v=.bool (cmp_isNaN_int x_))
theorem hb268:aD Tryz.prog 268=true:=by kernel_rfl
def S209:Prop:=∀ w X (x_:Int) (y_:Int),rt 209 #[ii x_,ii y_] aB w X (fun w X' v=>v=ii (dh x_ y_))
theorem hb209:aD Tryz.prog 209=true:=by kernel_rfl
def S155:Prop:=∀ w X (a_:cG) (b_:cG),rt 155 #[.agg #[ii a_.State,ii a_.Kind,ii a_.Next,ii a_.Result],.agg #[ii b_.State,ii b_.Kind,ii b_.Next,ii b_.Result]] aB w X (fun w X' v=>v=ii (gp a_ b_))
theorem hb155:aD Tryz.prog 155=true:=by kernel_rfl
def S114:Prop:=∀ w X (o_:ah) (i_:Int) a1 c1,vV o_ i_->RS aF w X a1 o_.Rows c1->rt 114 #[.agg #[ii o_.ab,ii o_.aP,ii o_.aU,.slice a1 o_.Rows.length c1],ii i_] aB w X (fun w X' v=>v=ii (iA o_ i_))
theorem hb114:aD Tryz.prog 114=true:=by kernel_rfl
def S55:Prop:=∀ w X (o_:ah) a1 c1,sS o_->RS aF w X a1 o_.Rows c1->rt 55 #[.agg #[ii o_.ab,ii o_.aP,ii o_.aU,.slice a1 o_.Rows.length c1]] aB w X (fun w X' v=>v=.tuple #[ii ((bq o_).1),ii ((bq o_).2)])
theorem hb55:aD Tryz.prog 55=true:=by kernel_rfl
def S87:Prop:=∀ w X (r_:cG) (aj:Int) (aX:Int) b1 i1 b2 i2,Cell w X b1 i1 3 [ii aj]->Cell w X b2 i2 3 [ii aX]->dL [i1,i2]->rt 87 #[.agg #[ii r_.State,ii r_.Kind,ii r_.Next,ii r_.Result],.pointer (some ⟨b1,0,none⟩),.pointer (some ⟨b2,0,none⟩)] (pR [i1,i2]) w X (fun w X' v=>v=.bool (gF r_ aj aX)/\Cell w X' b1 i1 3 [ii aj]/\Cell w X' b2 i2 3 [ii aX])
theorem hb87:aD Tryz.prog 87=true:=by kernel_rfl
def S88_87:Prop:=∀ w X (s_:List cG) (aj:Int) (aX:Int) a1 c1 b1 i1 b2 i2,RS aF w X a1 s_ c1->Cell w X b1 i1 3 [ii aj]->Cell w X b2 i2 3 [ii aX]->dL [i1,i2]->rt 88 #[.slice a1 s_.length c1,.func (.func 87) #[] #[.pointer (some ⟨b1,0,none⟩),.pointer (some ⟨b2,0,none⟩)]] (pR [i1,i2]) w X (fun w X' v=>v=ii (aV s_ aj aX)/\Cell w X' b1 i1 3 [ii aj]/\Cell w X' b2 i2 3 [ii aX])
theorem hb88:aD Tryz.prog 88=true:=by kernel_rfl
def S38:Prop:=∀ w X (o_:ah) (state:Int) (kind:Int) a1 c1,RS aF w X a1 o_.Rows c1->rt 38 #[.agg #[ii o_.ab,ii o_.aP,ii o_.aU,.slice a1 o_.Rows.length c1],ii state,ii kind] aB w X (fun w X' v=>v=.tuple #[ii ((eQ o_ state kind).1),ii ((eQ o_ state kind).2.1),.bool ((eQ o_ state kind).2.2)])
theorem hb38:aD Tryz.prog 38=true:=by kernel_rfl
def S67:Prop:=∀ w X (a_:ae) (b_:ae),rt 67 #[.agg #[ii a_.Prc,ii a_.Kind,ii a_.aN,ii a_.End,ii a_.Result],.agg #[ii b_.Prc,ii b_.Kind,ii b_.aN,ii b_.End,ii b_.Result]] aB w X (fun w X' v=>v=.bool (bG a_ b_))
theorem hb67:aD Tryz.prog 67=true:=by kernel_rfl
def S156:Prop:=∀ w X (o_:ae),rt 156 #[.agg #[ii o_.Prc,ii o_.Kind,ii o_.aN,ii o_.End,ii o_.Result]] aB w X (fun w X' v=>v=.bool (eG o_))
theorem hb156:aD Tryz.prog 156=true:=by kernel_rfl
def S115:Prop:=∀ w X (o_:ae),rt 115 #[.agg #[ii o_.Prc,ii o_.Kind,ii o_.aN,ii o_.End,ii o_.Result]] aB w X (fun w X' v=>v=ii (dY o_))
theorem hb115:aD Tryz.prog 115=true:=by kernel_rfl
def S56:Prop:=∀ w X (l_:List ae) a1 c1,RS ar w X a1 l_ c1->rt 56 #[.slice a1 l_.length c1] aB w X (fun w X' v=>v=.tuple #[ii ((bp l_).1),ii ((bp l_).2)])
theorem hb56:aD Tryz.prog 56=true:=by kernel_rfl
def S22:Prop:=∀ w X (l_:List ae) a1 c1,gA l_->RS ar w X a1 l_ c1->rt 22 #[.slice a1 l_.length c1] aB w X (fun w X' v=>∃ dg de,v=.slice dg (bS l_).length de/\RS tP2 w X' dg (bS l_) de)
theorem hb22:aD Tryz.prog 22=true:=by kernel_rfl
def S162:Prop:=∀ w X (l_:List ae) a1 c1,gA l_->RS ar w X a1 l_ c1->rt 162 #[.slice a1 l_.length c1] aB w X (fun w X' v=>∃ dg de,v=.slice dg (gn l_).length de/\RS tI w X' dg (gn l_) de)
theorem hb162:aD Tryz.prog 162=true:=by kernel_rfl
def S59:Prop:=∀ w X (s_:aa),rt 59 #[.agg #[ii s_.Ops,ii s_.ab]] aB w X (fun w X' v=>v=ii (ao s_))
theorem hb59:aD Tryz.prog 59=true:=by kernel_rfl
def S73:Prop:=∀ w X (s_:aa) (kind:Int),rt 73 #[.agg #[ii s_.Ops,ii s_.ab],ii kind] aB w X (fun w X' v=>v=.tuple #[ii ((bN s_ kind).1),ii ((bN s_ kind).2.1),ii ((bN s_ kind).2.2)])
theorem hb73:aD Tryz.prog 73=true:=by kernel_rfl
def S25:Prop:=∀ w X (s_:aa),rt 25 #[.agg #[ii s_.Ops,ii s_.ab]] aB w X (fun w X' v=>v=ii (aw s_))
theorem hb25:aD Tryz.prog 25=true:=by kernel_rfl
def S65:Prop:=∀ w X (s_:aa) (n_:aW),rt 65 #[.agg #[ii s_.Ops,ii s_.ab],.agg #[ii n_.Kind,ii n_.A,ii n_.B]] aB w X (fun w X' v=>v=ii (bd s_ n_))
theorem hb65:aD Tryz.prog 65=true:=by kernel_rfl
def S34:Prop:=∀ w X (o_:ah) (l_:List ae) a1 c1 a2 c2,jG o_ l_->RS aF w X a1 o_.Rows c1->RS ar w X a2 l_ c2->rt 34 #[.agg #[ii o_.ab,ii o_.aP,ii o_.aU,.slice a1 o_.Rows.length c1],.slice a2 l_.length c2] aB w X (fun w X' v=>v=.agg #[ii ((au o_ l_).Ops),ii ((au o_ l_).ab)])
theorem hb34:aD Tryz.prog 34=true:=by kernel_rfl
def S210:Prop:=∀ w X (n_:Int),rt 210 #[ii n_] aB w X (fun w X' v=>v=ii (dJ n_))
theorem hb210:aD Tryz.prog 210=true:=by kernel_rfl
def S157:Prop:=∀ w X (s_:aa),rt 157 #[.agg #[ii s_.Ops,ii s_.ab]] aB w X (fun w X' v=>v=.bool (cW s_))
theorem hb157:aD Tryz.prog 157=true:=by kernel_rfl
def S158:Prop:=∀ w X (s_:aa),rt 158 #[.agg #[ii s_.Ops,ii s_.ab]] aB w X (fun w X' v=>v=ii (gw s_))
theorem hb158:aD Tryz.prog 158=true:=by kernel_rfl
def S159:Prop:=∀ w X (s_:aa) (n_:Int),rt 159 #[.agg #[ii s_.Ops,ii s_.ab],ii n_] aB w X (fun w X' v=>v=ii (gU s_ n_))
theorem hb159:aD Tryz.prog 159=true:=by kernel_rfl
def S160:Prop:=∀ w X (s_:aa),rt 160 #[.agg #[ii s_.Ops,ii s_.ab]] aB w X (fun w X' v=>v=ii (gv s_))
theorem hb160:aD Tryz.prog 160=true:=by kernel_rfl
def S161:Prop:=∀ w X (s_:aa) (ended:Int),rt 161 #[.agg #[ii s_.Ops,ii s_.ab],ii ended] aB w X (fun w X' v=>v=ii (gW s_ ended))
theorem hb161:aD Tryz.prog 161=true:=by kernel_rfl
def S163:Prop:=∀ w X (n_:Int) (aj:Int) b1 i1,Cell w X b1 i1 3 [ii aj]->dL [i1]->rt 163 #[ii n_,.pointer (some ⟨b1,0,none⟩)] (pR [i1]) w X (fun w X' v=>v=.tuple #[]/\Cell w X' b1 i1 3 [ii (gX n_ aj)])
theorem hb163:aD Tryz.prog 163=true:=by kernel_rfl
def S116:Prop:=∀ w X (s_:aa) (l_:List ae) a1 c1,RS ar w X a1 l_ c1->rt 116 #[.agg #[ii s_.Ops,ii s_.ab],.slice a1 l_.length c1] aB w X (fun w X' v=>v=ii (fX s_ l_))
theorem hb116:aD Tryz.prog 116=true:=by kernel_rfl
def S57:Prop:=∀ w X (s_:aa) (l_:List ae) a1 c1,RS ar w X a1 l_ c1->rt 57 #[.agg #[ii s_.Ops,ii s_.ab],.slice a1 l_.length c1] aB w X (fun w X' v=>v=ii (fu s_ l_))
theorem hb57:aD Tryz.prog 57=true:=by kernel_rfl
def S18:Prop:=∀ w X (o_:ah) (l_:List ae) a1 c1 a2 c2,jG o_ l_->RS aF w X a1 o_.Rows c1->RS ar w X a2 l_ c2->rt 18 #[.agg #[ii o_.ab,ii o_.aP,ii o_.aU,.slice a1 o_.Rows.length c1],.slice a2 l_.length c2] aB w X (fun w X' v=>v=.tuple #[.agg #[ii (((bo o_ l_).1).Ops),ii (((bo o_ l_).1).ab)],ii ((bo o_ l_).2)])
theorem hb18:aD Tryz.prog 18=true:=by kernel_rfl
def S32:Prop:=∀ w X (o_:ah) (l_:List ae) a1 c1 a2 c2,jG o_ l_->RS aF w X a1 o_.Rows c1->RS ar w X a2 l_ c2->rt 32 #[.agg #[ii o_.ab,ii o_.aP,ii o_.aU,.slice a1 o_.Rows.length c1],.slice a2 l_.length c2] aB w X (fun w X' v=>v=ii (eL o_ l_))
theorem hb32:aD Tryz.prog 32=true:=by kernel_rfl
def S39:Prop:=∀ w X (s_:aa) (i_:Int),rt 39 #[.agg #[ii s_.Ops,ii s_.ab],ii i_] aB w X (fun w X' v=>v=ii (kg s_ i_))
theorem hb39:aD Tryz.prog 39=true:=by kernel_rfl
def S61:Prop:=∀ w X (k_:Int) (aj:Int) b1 i1,Cell w X b1 i1 3 [ii aj]->dL [i1]->rt 61 #[ii k_,.pointer (some ⟨b1,0,none⟩)] (pR [i1]) w X (fun w X' v=>v=.agg #[ii ((dQ k_ aj).Kind),ii ((dQ k_ aj).A),ii ((dQ k_ aj).B)]/\Cell w X' b1 i1 3 [ii aj])
theorem hb61:aD Tryz.prog 61=true:=by kernel_rfl
def S60_61:Prop:=∀ w X (s_:aa) (aj:Int) b1 i1,kP s_ aj->Cell w X b1 i1 3 [ii aj]->dL [i1]->rt 60 #[.agg #[ii s_.Ops,ii s_.ab],.func (.func 61) #[] #[.pointer (some ⟨b1,0,none⟩)]] (pR [i1]) w X (fun w X' v=>∃ dg de,v=.slice dg (bR s_ aj).length de/\RS tI w X' dg (bR s_ aj) de/\Cell w X' b1 i1 3 [ii aj])
theorem hb60:aD Tryz.prog 60=true:=by kernel_rfl
def S63:Prop:=∀ w X (a_:Int) (aj:Int) b1 i1,Cell w X b1 i1 3 [ii aj]->dL [i1]->rt 63 #[ii a_,.pointer (some ⟨b1,0,none⟩)] (pR [i1]) w X (fun w X' v=>v=.agg #[ii ((dP a_ aj).Kind),ii ((dP a_ aj).A),ii ((dP a_ aj).B)]/\Cell w X' b1 i1 3 [ii aj])
theorem hb63:aD Tryz.prog 63=true:=by kernel_rfl
def S60_63:Prop:=∀ w X (s_:aa) (aj:Int) b1 i1,kP s_ aj->Cell w X b1 i1 3 [ii aj]->dL [i1]->rt 60 #[.agg #[ii s_.Ops,ii s_.ab],.func (.func 63) #[] #[.pointer (some ⟨b1,0,none⟩)]] (pR [i1]) w X (fun w X' v=>∃ dg de,v=.slice dg (bQ s_ aj).length de/\RS tI w X' dg (bQ s_ aj) de/\Cell w X' b1 i1 3 [ii aj])
def S62:Prop:=∀ w X (vars:List Int) a1 c1,iY vars->RS tI w X a1 vars c1->rt 62 #[.slice a1 vars.length c1] aB w X (fun w X' v=>∃ dg de,v=.slice dg (dD vars).length de/\RS (aA tI) w X' dg (dD vars) de)
theorem hb62:aD Tryz.prog 62=true:=by kernel_rfl
def S20:Prop:=∀ w X (s_:aa),rt 20 #[.agg #[ii s_.Ops,ii s_.ab]] aB w X (fun w X' v=>∃ dg de,v=.slice dg (cc s_).length de/\RS (aA tI) w X' dg (cc s_) de)
theorem hb20:aD Tryz.prog 20=true:=by kernel_rfl
def S66:Prop:=∀ w X (p_:Int × Int) (n_:Int),rt 66 #[.agg #[ii p_.1,ii p_.2],ii n_] aB w X (fun w X' v=>v=.bool (dH p_ n_))
theorem hb66:aD Tryz.prog 66=true:=by kernel_rfl
def S64:Prop:=∀ w X (a_:Int) (b_:Int) (aj:aa) b1 i1,Cell w X b1 i1 61 [ii aj.Ops,ii aj.ab]->dL [i1]->rt 64 #[ii a_,ii b_,.pointer (some ⟨b1,0,none⟩)] (pR [i1]) w X (fun w X' v=>v=ii (eA a_ b_ aj)/\Cell w X' b1 i1 61 [ii aj.Ops,ii aj.ab])
theorem hb64:aD Tryz.prog 64=true:=by kernel_rfl
def S21:Prop:=∀ w X (s_:aa) (aJ:List (Int × Int)) a1 c1,r9 s_ aJ->RS tP2 w X a1 aJ c1->rt 21 #[.agg #[ii s_.Ops,ii s_.ab],.slice a1 aJ.length c1] aB w X (fun w X' v=>∃ dg de,v=.slice dg (cH s_ aJ).length de/\RS (aA tI) w X' dg (cH s_ aJ) de)
theorem hb21:aD Tryz.prog 21=true:=by kernel_rfl
def S68:Prop:=∀ w X (s_:aa) (a_:Int) (b_:Int),rt 68 #[.agg #[ii s_.Ops,ii s_.ab],ii a_,ii b_] aB w X (fun w X' v=>v=ii (bL s_ a_ b_))
theorem hb68:aD Tryz.prog 68=true:=by kernel_rfl
def S70:Prop:=∀ w X (b_:Int) (aj:aa) (aX:Int) b1 i1 b2 i2,Cell w X b1 i1 61 [ii aj.Ops,ii aj.ab]->Cell w X b2 i2 3 [ii aX]->dL [i1,i2]->rt 70 #[ii b_,.pointer (some ⟨b1,0,none⟩),.pointer (some ⟨b2,0,none⟩)] (pR [i1,i2]) w X (fun w X' v=>v=ii (fg b_ aj aX)/\Cell w X' b1 i1 61 [ii aj.Ops,ii aj.ab]/\Cell w X' b2 i2 3 [ii aX])
theorem hb70:aD Tryz.prog 70=true:=by kernel_rfl
def S69_70:Prop:=∀ w X (n_:Int) (aj:aa) (aX:Int) b1 i1 b2 i2,px n_ aj aX->Cell w X b1 i1 61 [ii aj.Ops,ii aj.ab]->Cell w X b2 i2 3 [ii aX]->dL [i1,i2]->rt 69 #[ii n_,.func (.func 70) #[] #[.pointer (some ⟨b1,0,none⟩),.pointer (some ⟨b2,0,none⟩)]] (pR [i1,i2]) w X (fun w X' v=>∃ dg de,v=.slice dg (bD n_ aj aX).length de/\RS tI w X' dg (bD n_ aj aX) de/\Cell w X' b1 i1 61 [ii aj.Ops,ii aj.ab]/\Cell w X' b2 i2 3 [ii aX])
theorem hb69:aD Tryz.prog 69=true:=by kernel_rfl
def S23:Prop:=∀ w X (s_:aa) (init:Int),rt 23 #[.agg #[ii s_.Ops,ii s_.ab],ii init] aB w X (fun w X' v=>∃ dg de,v=.slice dg (cb s_ init).length de/\RS (aA tI) w X' dg (cb s_ init) de)
theorem hb23:aD Tryz.prog 23=true:=by kernel_rfl
def S72:Prop:=∀ w X (t_:eF) (x_:ae) (state:Int) a1 c1,RS aF w X a1 t_.o.Rows c1->rt 72 #[.agg #[ii t_.o.ab,ii t_.o.aP,ii t_.o.aU,.slice a1 t_.o.Rows.length c1],.agg #[ii x_.Prc,ii x_.Kind,ii x_.aN,ii x_.End,ii x_.Result],ii state] aB w X (fun w X' v=>v=.tuple #[ii ((dI t_ x_ state).1),.bool ((dI t_ x_ state).2)])
theorem hb72:aD Tryz.prog 72=true:=by kernel_rfl
def S71:Prop:=∀ w X (s_:aa) gx,rt 71 #[.agg #[ii s_.Ops,ii s_.ab]] aB w X (fun w X' v=>∃ O4,v=.func (.func 117) #[] #[.pointer (some ⟨O4,0,none⟩)]/\Cell w X' O4 gx 61 [ii ((iJ s_).Ops),ii ((iJ s_).ab)])
theorem hb71:aD Tryz.prog 71=true:=by kernel_rfl
def S117:Prop:=∀ w X (kind:Int) (a_:Int) (b_:Int) (aj:aa) b1 i1,Cell w X b1 i1 61 [ii aj.Ops,ii aj.ab]->dL [i1]->rt 117 #[ii kind,ii a_,ii b_,.pointer (some ⟨b1,0,none⟩)] (pR [i1]) w X (fun w X' v=>v=ii (cI kind a_ b_ aj)/\Cell w X' b1 i1 61 [ii aj.Ops,ii aj.ab])
theorem hb117:aD Tryz.prog 117=true:=by kernel_rfl
def S24:Prop:=∀ w X (o_:ah) (l_:List ae) a1 c1 a2 c2,q9 o_ l_->RS aF w X a1 o_.Rows c1->RS ar w X a2 l_ c2->rt 24 #[.agg #[ii o_.ab,ii o_.aP,ii o_.aU,.slice a1 o_.Rows.length c1],.slice a2 l_.length c2] aB w X (fun w X' v=>∃ dg de,v=.slice dg (cJ o_ l_).length de/\RS (aA tI) w X' dg (cJ o_ l_) de)
theorem hb24:aD Tryz.prog 24=true:=by kernel_rfl
def S58:Prop:=∀ w X (s_:List Int) a1 c1 gx,Bs s_->RS tI w X a1 s_ c1->rt 58 #[.slice a1 s_.length c1] aB w X (fun w X' v=>∃ dg de,v=.slice dg (dw s_).length de/\OS tI 3 w X' gx dg (dw s_) de)
theorem hb58:aD Tryz.prog 58=true:=by kernel_rfl
def S19:Prop:=∀ w X (parts:List (List (List Int))) a1 c1,Br parts->RS (aA (aA tI)) w X a1 parts c1->rt 19 #[.slice a1 parts.length c1] aB w X (fun w X' v=>∃ dg de,v=.slice dg (fP parts).length de/\RS (aA tI) w X' dg (fP parts) de)
theorem hb19:aD Tryz.prog 19=true:=by kernel_rfl
def S6:Prop:=∀ w X (o_:ah) (l_:List ae) a1 c1 a2 c2,q9 o_ l_->RS aF w X a1 o_.Rows c1->RS ar w X a2 l_ c2->rt 6 #[.agg #[ii o_.ab,ii o_.aP,ii o_.aU,.slice a1 o_.Rows.length c1],.slice a2 l_.length c2] aB w X (fun w X' v=>∃ dg de,v=.tuple #[.agg #[ii (((bg o_ l_).1).bC),.slice dg (((bg o_ l_).1).ai).length de],ii ((bg o_ l_).2)]/\RS (aA tI) w X' dg (((bg o_ l_).1).ai) de)
theorem hb6:aD Tryz.prog 6=true:=by kernel_rfl
def S211:Prop:=∀ w X (n_:Int) (vars:Int),xC n_ vars->rt 211 #[ii n_,ii vars] aB w X (fun w X' v=>v=.bool (dW n_ vars))
theorem hb211:aD Tryz.prog 211=true:=by kernel_rfl
def S164:Prop:=∀ w X (lit:Int) (vars:Int),rt 164 #[ii lit,ii vars] aB w X (fun w X' v=>v=ii (iK lit vars))
theorem hb164:aD Tryz.prog 164=true:=by kernel_rfl
def S269:Prop:=∀ w X (lit:Int),rt 269 #[ii lit] aB w X (fun w X' v=>v=.bool (oF lit))
theorem hb269:aD Tryz.prog 269=true:=by kernel_rfl
def S212:Prop:=∀ w X (lit:Int),rt 212 #[ii lit] aB w X (fun w X' v=>v=ii (nG lit))
theorem hb212:aD Tryz.prog 212=true:=by kernel_rfl
def S165:Prop:=∀ w X (c_:List Int) a1 c1 gx,pv c_->RS tI w X a1 c_ c1->rt 165 #[.slice a1 c_.length c1] aB w X (fun w X' v=>∃ O0,v=.map (some O0)/\OM kI tI false w X' gx O0 (fe c_))
theorem hb165:aD Tryz.prog 165=true:=by kernel_rfl
def S119:Prop:=∀ w X (c_:List Int) (vars:Int) a1 c1,RS tI w X a1 c_ c1->rt 119 #[.slice a1 c_.length c1,ii vars] aB w X (fun w X' v=>v=ii (fH c_ vars))
theorem hb119:aD Tryz.prog 119=true:=by kernel_rfl
def S167:Prop:=∀ w X (l_:Int) (aj:List (Int × Int)) r1 m1 b1 i1,Bl l_ aj->OM kI tI false w X m1 r1 aj->Cell w X b1 i1 192 [.map (some r1)]->dL [i1,m1]->rt 167 #[ii l_,.pointer (some ⟨b1,0,none⟩)] (pR [i1,m1]) w X (fun w X' v=>v=.bool (dz l_ aj)/\Cell w X' b1 i1 192 [.map (some r1)]/\OM kI tI false w X' m1 r1 aj)
theorem hb167:aD Tryz.prog 167=true:=by kernel_rfl
def S213_167:Prop:=∀ w X (s_:List Int) (aj:List (Int × Int)) a1 c1 r2 m2 b1 i1,qZ s_ aj->RS tI w X a1 s_ c1->OM kI tI false w X m2 r2 aj->Cell w X b1 i1 192 [.map (some r2)]->dL [i1,m2]->rt 213 #[.slice a1 s_.length c1,.func (.func 167) #[] #[.pointer (some ⟨b1,0,none⟩)]] (pR [i1,m2]) w X (fun w X' v=>v=ii (bI s_ aj)/\Cell w X' b1 i1 192 [.map (some r2)]/\OM kI tI false w X' m2 r2 aj)
theorem hb213:aD Tryz.prog 213=true:=by kernel_rfl
def S166_167:Prop:=∀ w X (s_:List Int) (aj:List (Int × Int)) a1 c1 r2 m2 b1 i1,qZ s_ aj->RS tI w X a1 s_ c1->OM kI tI false w X m2 r2 aj->Cell w X b1 i1 192 [.map (some r2)]->dL [i1,m2]->rt 166 #[.slice a1 s_.length c1,.func (.func 167) #[] #[.pointer (some ⟨b1,0,none⟩)]] (pR [i1,m2]) w X (fun w X' v=>v=.bool (bB s_ aj)/\Cell w X' b1 i1 192 [.map (some r2)]/\OM kI tI false w X' m2 r2 aj)
theorem hb166:aD Tryz.prog 166=true:=by kernel_rfl
def S120:Prop:=∀ w X (c_:List Int) a1 c1,Bj c_->RS tI w X a1 c_ c1->rt 120 #[.slice a1 c_.length c1] aB w X (fun w X' v=>v=.bool (iM c_))
theorem hb120:aD Tryz.prog 120=true:=by kernel_rfl
def S78:Prop:=∀ w X (f_:aL) a1 c1,RS (aA tI) w X a1 f_.ai c1->rt 78 #[.agg #[ii f_.bC,.slice a1 f_.ai.length c1]] aB w X (fun w X' v=>v=.tuple #[ii ((fj f_).1),ii ((fj f_).2)])
theorem hb78:aD Tryz.prog 78=true:=by kernel_rfl
def S27:Prop:=∀ w X (f_:aL) a1 c1,RS (aA tI) w X a1 f_.ai c1->rt 27 #[.agg #[ii f_.bC,.slice a1 f_.ai.length c1]] aB w X (fun w X' v=>v=ii (bA f_))
theorem hb27:aD Tryz.prog 27=true:=by kernel_rfl
def S75:Prop:=∀ w X (f_:aL) a1 c1,E8 f_->RS (aA tI) w X a1 f_.ai c1->rt 75 #[.agg #[ii f_.bC,.slice a1 f_.ai.length c1]] aB w X (fun w X' v=>∃ dg de,v=.slice dg (b7 f_).length de/\RS bT w X' dg (b7 f_) de)
theorem hb75:aD Tryz.prog 75=true:=by kernel_rfl
def S76:Prop:=∀ w X (p_:aE) (aj:Int) b1 i1,Cell w X b1 i1 81 [.int .u32 aj]->dL [i1]->rt 76 #[.agg #[.int .u32 p_.yes,.int .u32 p_.no],.pointer (some ⟨b1,0,none⟩)] (pR [i1]) w X (fun w X' v=>v=.bool (bV p_ aj)/\Cell w X' b1 i1 81 [.int .u32 aj])
theorem hb76:aD Tryz.prog 76=true:=by kernel_rfl
def S118_76:Prop:=∀ w X (s_:List aE) (aj:Int) a1 c1 b1 i1,RS bT w X a1 s_ c1->Cell w X b1 i1 81 [.int .u32 aj]->dL [i1]->rt 118 #[.slice a1 s_.length c1,.func (.func 76) #[] #[.pointer (some ⟨b1,0,none⟩)]] (pR [i1]) w X (fun w X' v=>v=ii (aM s_ aj)/\Cell w X' b1 i1 81 [.int .u32 aj])
theorem hb118:aD Tryz.prog 118=true:=by kernel_rfl
def S77_76:Prop:=∀ w X (s_:List aE) (aj:Int) a1 c1 b1 i1,RS bT w X a1 s_ c1->Cell w X b1 i1 81 [.int .u32 aj]->dL [i1]->rt 77 #[.slice a1 s_.length c1,.func (.func 76) #[] #[.pointer (some ⟨b1,0,none⟩)]] (pR [i1]) w X (fun w X' v=>v=.bool (aK s_ aj)/\Cell w X' b1 i1 81 [.int .u32 aj])
theorem hb77:aD Tryz.prog 77=true:=by kernel_rfl
def S31:Prop:=∀ w X (m_:Int) (vars:Int),E6 m_ vars->rt 31 #[.int .u32 m_,ii vars] aB w X (fun w X' v=>∃ dg de,v=.slice dg (bz m_ vars).length de/\RS cD w X' dg (bz m_ vars) de)
theorem hb31:aD Tryz.prog 31=true:=by kernel_rfl
def S169:Prop:=∀ w X (x_:Int) (y_:Int),mV x_ y_->rt 169 #[.int .u64 x_,.int .u64 y_] aB w X (fun w X' v=>v=.tuple #[.int .u64 ((eX x_ y_).1),.int .u64 ((eX x_ y_).2)])
theorem hb169:aD Tryz.prog 169=true:=by kernel_rfl
def S127:Prop:=∀ w X (x_:Int) (y_:Int),mV x_ y_->rt 127 #[.int .u64 x_,.int .u64 y_] aB w X (fun w X' v=>v=.tuple #[.int .u64 ((fN x_ y_).1),.int .u64 ((fN x_ y_).2)])
theorem hb127:aD Tryz.prog 127=true:=by kernel_rfl
def S85:Prop:=∀ w X (x_:List Int) (count:Int) a1 c1 gx,vW x_ count->RS tI w X a1 x_ c1->rt 85 #[.slice a1 x_.length c1,ii count] aB w X (fun w X' v=>∃ dg de,v=.slice dg (cP x_ count).length de/\OS tI 3 w X' gx dg (cP x_ count) de)
theorem hb85:aD Tryz.prog 85=true:=by kernel_rfl
def S35:Prop:=∀ w X (s_:aa) (m_:List Bool) a1 c1,RS cD w X a1 m_ c1->rt 35 #[.agg #[ii s_.Ops,ii s_.ab],.slice a1 m_.length c1] aB w X (fun w X' v=>∃ dg de,v=.tuple #[.slice dg ((aq s_ m_).1).length de,.bool ((aq s_ m_).2)]/\RS tI w X' dg ((aq s_ m_).1) de)
theorem hb35:aD Tryz.prog 35=true:=by kernel_rfl
def S86:Prop:=∀ w X (a_:Int) (aj:aa) (aX:List Bool) (dj:Bool) a1 c1 b1 i1 b2 i2 b3 i3,r7 a_ aj aX dj->RS cD w X a1 aX c1->Cell w X b1 i1 61 [ii aj.Ops,ii aj.ab]->Cell w X b2 i2 38 [.slice a1 aX.length c1]->Cell w X b3 i3 4 [.bool dj]->dL [i1,i2,i3]->rt 86 #[ii a_,.pointer (some ⟨b1,0,none⟩),.pointer (some ⟨b2,0,none⟩),.pointer (some ⟨b3,0,none⟩)] (pR [i1,i2,i3]) w X (fun w X' v=>v=ii ((fa a_ aj aX dj).1)/\Cell w X' b1 i1 61 [ii aj.Ops,ii aj.ab]/\Cell w X' b2 i2 38 [.slice a1 aX.length c1]/\Cell w X' b3 i3 4 [.bool ((fa a_ aj aX dj).2)])
theorem hb86:aD Tryz.prog 86=true:=by kernel_rfl
def S69_86:Prop:=∀ w X (n_:Int) (aj:aa) (aX:List Bool) (dj:Bool) a1 c1 b1 i1 b2 i2 b3 i3,r8 n_ aj aX dj->RS cD w X a1 aX c1->Cell w X b1 i1 61 [ii aj.Ops,ii aj.ab]->Cell w X b2 i2 38 [.slice a1 aX.length c1]->Cell w X b3 i3 4 [.bool dj]->dL [i1,i2,i3]->rt 69 #[ii n_,.func (.func 86) #[] #[.pointer (some ⟨b1,0,none⟩),.pointer (some ⟨b2,0,none⟩),.pointer (some ⟨b3,0,none⟩)]] (pR [i1,i2,i3]) w X (fun w X' v=>∃ dg de,v=.slice dg ((bF n_ aj aX dj).1).length de/\RS tI w X' dg ((bF n_ aj aX dj).1) de/\Cell w X' b1 i1 61 [ii aj.Ops,ii aj.ab]/\Cell w X' b2 i2 38 [.slice a1 aX.length c1]/\Cell w X' b3 i3 4 [.bool ((bF n_ aj aX dj).2)])
def S36:Prop:=∀ w X (s_:aa) (m_:List Bool) a1 c1,RS cD w X a1 m_ c1->rt 36 #[.agg #[ii s_.Ops,ii s_.ab],.slice a1 m_.length c1] aB w X (fun w X' v=>∃ dg de,v=.tuple #[.slice dg ((aQ s_ m_).1).length de,.bool ((aQ s_ m_).2)]/\RS tI w X' dg ((aQ s_ m_).1) de)
theorem hb36:aD Tryz.prog 36=true:=by kernel_rfl
def S126:Prop:=∀ w X (s_:List Int) (v_:Int) a1 c1,RS tI w X a1 s_ c1->rt 126 #[.slice a1 s_.length c1,ii v_] aB w X (fun w X' v=>v=ii (c9 s_ v_))
theorem hb126:aD Tryz.prog 126=true:=by kernel_rfl
def S108:Prop:=∀ w X (s_:List Int) (v_:Int) a1 c1,RS tI w X a1 s_ c1->rt 108 #[.slice a1 s_.length c1,ii v_] aB w X (fun w X' v=>v=.bool (cU s_ v_))
theorem hb108:aD Tryz.prog 108=true:=by kernel_rfl
def S123:Prop:=∀ w X (l_:List ae) (order:List Int) (in_:List Bool) a1 c1 a2 c2 a3 c3,RS ar w X a1 l_ c1->RS tI w X a2 order c2->RS cD w X a3 in_ c3->rt 123 #[.slice a1 l_.length c1,.slice a2 order.length c2,.slice a3 in_.length c3] aB w X (fun w X' v=>v=.bool (dZ l_ order in_))
theorem hb123:aD Tryz.prog 123=true:=by kernel_rfl
def S124:Prop:=∀ w X (o_:ah) (x_:ae) (state:Int) a1 c1,RS aF w X a1 o_.Rows c1->rt 124 #[.agg #[ii o_.ab,ii o_.aP,ii o_.aU,.slice a1 o_.Rows.length c1],.agg #[ii x_.Prc,ii x_.Kind,ii x_.aN,ii x_.End,ii x_.Result],ii state] aB w X (fun w X' v=>v=.tuple #[ii ((jq o_ x_ state).1),.bool ((jq o_ x_ state).2)])
theorem hb124:aD Tryz.prog 124=true:=by kernel_rfl
def S83:Prop:=∀ w X (o_:ah) (l_:List ae) (order:List Int) (in_:List Bool) a1 c1 a2 c2 a3 c3 a4 c4,Bp o_ l_ order in_->RS aF w X a1 o_.Rows c1->RS ar w X a2 l_ c2->RS tI w X a3 order c3->RS cD w X a4 in_ c4->rt 83 #[.agg #[ii o_.ab,ii o_.aP,ii o_.aU,.slice a1 o_.Rows.length c1],.slice a2 l_.length c2,.slice a3 order.length c3,.slice a4 in_.length c4] aB w X (fun w X' v=>∃ dg de,v=.tuple #[.slice dg ((b6 o_ l_ order in_).1).length de,.bool ((b6 o_ l_ order in_).2)]/\RS tI w X' dg ((b6 o_ l_ order in_).1) de)
theorem hb83:aD Tryz.prog 83=true:=by kernel_rfl
def S125:Prop:=∀ w X (x_:Int) (aj:List Int) a1 c1 b1 i1,RS tI w X a1 aj c1->Cell w X b1 i1 79 [.slice a1 aj.length c1]->dL [i1]->rt 125 #[ii x_,.pointer (some ⟨b1,0,none⟩)] (pR [i1]) w X (fun w X' v=>v=ii (cS x_ aj)/\Cell w X' b1 i1 79 [.slice a1 aj.length c1])
theorem hb125:aD Tryz.prog 125=true:=by kernel_rfl
def S84:Prop:=∀ w X (order:List Int) (aJ:List (Int × Int)) a1 c1 a2 c2,RS tI w X a1 order c1->RS tP2 w X a2 aJ c2->rt 84 #[.slice a1 order.length c1,.slice a2 aJ.length c2] aB w X (fun w X' v=>v=.tuple #[ii ((di order aJ).1),.bool ((di order aJ).2)])
theorem hb84:aD Tryz.prog 84=true:=by kernel_rfl
def S33:Prop:=∀ w X (o_:ah) (l_:List ae) (m_:List Bool) a1 c1 a2 c2 a3 c3,q8 o_ l_ m_->RS aF w X a1 o_.Rows c1->RS ar w X a2 l_ c2->RS cD w X a3 m_ c3->rt 33 #[.agg #[ii o_.ab,ii o_.aP,ii o_.aU,.slice a1 o_.Rows.length c1],.slice a2 l_.length c2,.slice a3 m_.length c3] aB w X (fun w X' v=>v=.bool (dy o_ l_ m_))
theorem hb33:aD Tryz.prog 33=true:=by kernel_rfl
def S37:Prop:=∀ w X (k_:Int) (i_:Int) (aj:ah) (aX:List Int) (dj:List ae) (jK:List ak) a1 c1 a2 c2 a3 c3 a4 c4 m4 b1 i1 b2 i2 b3 i3 b4 i4,Bq k_ i_ aj aX dj jK->RS aF w X a1 aj.Rows c1->RS tI w X a2 aX c2->RS ar w X a3 dj c3->OS aO 93 w X m4 a4 jK c4->Cell w X b1 i1 24 [ii aj.ab,ii aj.aP,ii aj.aU,.slice a1 aj.Rows.length c1]->Cell w X b2 i2 79 [.slice a2 aX.length c2]->Cell w X b3 i3 25 [.slice a3 dj.length c3]->Cell w X b4 i4 41 [.slice a4 jK.length c4]->dL [i1,i2,i3,i4,m4]->rt 37 #[ii k_,ii i_,.pointer (some ⟨b1,0,none⟩),.pointer (some ⟨b2,0,none⟩),.pointer (some ⟨b3,0,none⟩),.pointer (some ⟨b4,0,none⟩)] (pR [i1,i2,i3,i4,m4]) w X (fun w X' v=>∃ dg de,v=.tuple #[]/\OS aO 93 w X' m4 dg (eZ k_ i_ aj aX dj jK) de/\Cell w X' b1 i1 24 [ii aj.ab,ii aj.aP,ii aj.aU,.slice a1 aj.Rows.length c1]/\Cell w X' b2 i2 79 [.slice a2 aX.length c2]/\Cell w X' b3 i3 25 [.slice a3 dj.length c3]/\Cell w X' b4 i4 41 [.slice dg (eZ k_ i_ aj aX dj jK).length de])
theorem hb37:aD Tryz.prog 37=true:=by kernel_rfl
def S10:Prop:=∀ w X (o_:ah) (l_:List ae) (m_:List Bool) a1 c1 a2 c2 a3 c3,q8 o_ l_ m_->RS aF w X a1 o_.Rows c1->RS ar w X a2 l_ c2->RS cD w X a3 m_ c3->rt 10 #[.agg #[ii o_.ab,ii o_.aP,ii o_.aU,.slice a1 o_.Rows.length c1],.slice a2 l_.length c2,.slice a3 m_.length c3] aB w X (fun w X' v=>∃ dg de,v=.tuple #[.slice dg ((bX o_ l_ m_).1).length de,ii ((bX o_ l_ m_).2)]/\RS aO w X' dg ((bX o_ l_ m_).1) de)
theorem hb10:aD Tryz.prog 10=true:=by kernel_rfl
def S121:Prop:=∀ w X (o_:ah) a1 c1,RS aF w X a1 o_.Rows c1->rt 121 #[.agg #[ii o_.ab,ii o_.aP,ii o_.aU,.slice a1 o_.Rows.length c1]] aB w X (fun w X' v=>v=.tuple #[ii ((cE o_).1),ii ((cE o_).2)])
theorem hb121:aD Tryz.prog 121=true:=by kernel_rfl
def S80:Prop:=∀ w X (o_:ah) (state:Int) (kind:Int) a1 c1,RS aF w X a1 o_.Rows c1->rt 80 #[.agg #[ii o_.ab,ii o_.aP,ii o_.aU,.slice a1 o_.Rows.length c1],ii state,ii kind] aB w X (fun w X' v=>v=.tuple #[ii ((aZ o_ state kind).1),ii ((aZ o_ state kind).2.1),.bool ((aZ o_ state kind).2.2)])
theorem hb80:aD Tryz.prog 80=true:=by kernel_rfl
def S122:Prop:=∀ w X (o_:ah) (state:Int) (kind:Int) (result:Int) a1 c1,RS aF w X a1 o_.Rows c1->rt 122 #[.agg #[ii o_.ab,ii o_.aP,ii o_.aU,.slice a1 o_.Rows.length c1],ii state,ii kind,ii result] aB w X (fun w X' v=>v=.tuple #[ii ((db o_ state kind result).1),ii ((db o_ state kind result).2)])
theorem hb122:aD Tryz.prog 122=true:=by kernel_rfl
def S79:Prop:=∀ w X (o_:ah) (l_:List ae) (state:Int) (az:List ak) a1 c1 a2 c2 a3 c3,RS aF w X a1 o_.Rows c1->RS ar w X a2 l_ c2->RS aO w X a3 az c3->rt 79 #[.agg #[ii o_.ab,ii o_.aP,ii o_.aU,.slice a1 o_.Rows.length c1],.slice a2 l_.length c2,ii state,.slice a3 az.length c3] aB w X (fun w X' v=>v=.tuple #[ii ((bU o_ l_ state az).1),ii ((bU o_ l_ state az).2.1),ii ((bU o_ l_ state az).2.2)])
theorem hb79:aD Tryz.prog 79=true:=by kernel_rfl
def S29:Prop:=∀ w X (o_:ah) (l_:List ae) (order:List Int) a1 c1 a2 c2 a3 c3,Bn o_ l_ order->RS aF w X a1 o_.Rows c1->RS ar w X a2 l_ c2->RS tI w X a3 order c3->rt 29 #[.agg #[ii o_.ab,ii o_.aP,ii o_.aU,.slice a1 o_.Rows.length c1],.slice a2 l_.length c2,.slice a3 order.length c3] aB w X (fun w X' v=>∃ dg de,v=.tuple #[.slice dg ((cV o_ l_ order).1).length de,ii ((cV o_ l_ order).2)]/\RS aO w X' dg ((cV o_ l_ order).1) de)
theorem hb29:aD Tryz.prog 29=true:=by kernel_rfl
def S11:Prop:=∀ w X (a_:List ak) (b_:List ak) a1 c1 a2 c2,RS aO w X a1 a_ c1->RS aO w X a2 b_ c2->rt 11 #[.slice a1 a_.length c1,.slice a2 b_.length c2] aB w X (fun w X' v=>v=.bool (gk a_ b_))
theorem hb11:aD Tryz.prog 11=true:=by kernel_rfl
def S82:Prop:=∀ w X (a_:ae) (b_:ae),rt 82 #[.agg #[ii a_.Prc,ii a_.Kind,ii a_.aN,ii a_.End,ii a_.Result],.agg #[ii b_.Prc,ii b_.Kind,ii b_.aN,ii b_.End,ii b_.Result]] aB w X (fun w X' v=>v=.bool (jE a_ b_))
theorem hb82:aD Tryz.prog 82=true:=by kernel_rfl
def S81:Prop:=∀ w X (az:List ak) (i_:Int) a1 c1,RS aO w X a1 az c1->rt 81 #[.slice a1 az.length c1,ii i_] aB w X (fun w X' v=>v=ii (bb az i_))
theorem hb81:aD Tryz.prog 81=true:=by kernel_rfl
def S30:Prop:=∀ w X (o_:ah) (l_:List ae) (az:List ak) a1 c1 a2 c2 a3 c3,RS aF w X a1 o_.Rows c1->RS ar w X a2 l_ c2->RS aO w X a3 az c3->rt 30 #[.agg #[ii o_.ab,ii o_.aP,ii o_.aU,.slice a1 o_.Rows.length c1],.slice a2 l_.length c2,.slice a3 az.length c3] aB w X (fun w X' v=>v=.bool (dN o_ l_ az))
theorem hb30:aD Tryz.prog 30=true:=by kernel_rfl
def S28:Prop:=∀ w X (n_:Int),Bo n_->rt 28 #[ii n_] aB w X (fun w X' v=>∃ dg de,v=.slice dg (da n_).length de/\RS (aA tI) w X' dg (da n_) de)
theorem hb28:aD Tryz.prog 28=true:=by kernel_rfl
def S8:Prop:=∀ w X (o_:ah) (l_:List ae) a1 c1 a2 c2,Bt o_ l_->RS aF w X a1 o_.Rows c1->RS ar w X a2 l_ c2->rt 8 #[.agg #[ii o_.ab,ii o_.aP,ii o_.aU,.slice a1 o_.Rows.length c1],.slice a2 l_.length c2] aB w X (fun w X' v=>∃ dg de,v=.slice dg (bM o_ l_).length de/\RS (aA aO) w X' dg (bM o_ l_) de)
theorem hb8:aD Tryz.prog 8=true:=by kernel_rfl
end Go.Proofs.YtobeanopikjkeaaGreat
