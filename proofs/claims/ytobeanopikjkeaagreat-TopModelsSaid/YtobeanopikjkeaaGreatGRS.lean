/- The sets of a formula are given one by one. Condition: the contracts of the callees. -/
import Derived.Test.YtobeanopikjkeaaGreatGRF
import Derived.Test.YtobeanopikjkeaaGreatGWalksN
import Derived.Test.YtobeanopikjkeaaGreatGV10
set_option linter.all false
set_option maxHeartbeats 1000000
namespace Go.Proofs.YtobeanopikjkeaaGreat
open Go Go.Sv Go.Pu Go.Rf
def hU (f:aL):List Nat:=if bA f=0 then dt f else []
def cB (bf Bx:Nat) (b:Nat):Nat:=if b=Bx then 1000 else if b=bf then 901 else 0
def Kp (Bx:Nat) (A B:World):Prop:=A.heap.size≤B.heap.size∧∀ b o,b≠Bx→A.heap[b]?=some o→o.isCells=true→B.heap[b]?=some o
theorem GL {f:FuncId} {F:Func} {c:Code} (hf:Tryz.prog.funcs[f]?=some F) (hb:F.body=some c) {vals:List Value} {w:World} {χ:Nat→Nat} {R:Ending→World→Prop} (ρ0:Nat→Nat) {args:List SV} {bxs:List (Nat × (Nat × List SV))}
  (hn:Nat.ble args.length F.ntmps=true) (hv:args.map (bj ρ0)=vals) (hx:aY bxs ρ0 w χ)
  (k:∀ a,St F.ntmps ⟨pe 0 args,bxs⟩ ρ0 a w χ→c.wp Tryz.prog (qs (fun a' w'=>bodyPost Tryz.prog F R .ret a' w') (fun a' w'=>bodyPost Tryz.prog F R .ret a' w') []) a w) :
  Calls Tryz.prog f vals.toArray w R:=by
 refine calls_of_wp hf hb ?_
 have hle:=Nat.le_of_ble_eq_true hn
 have hlen:vals.length=args.length:=by rw [← hv]; simp
 refine wp_mono (k { tmps:=vals.toArray++Array.replicate (F.ntmps - vals.toArray.size) undef,defers:=[] } ⟨by simp; omega,rfl,?_,fun id q h=>⟨(hx id q h).2.1,(hx id q h).1,(hx id q h).2.2⟩⟩) ?_
 ·intro t sv h
  obtain ⟨_,h3⟩:=jX _ _ _ _ h
  have eS:=(List.getElem?_eq_some_iff.1 h3).1
  simp only [Nat.sub_zero] at h3 eS
  rw [Array.getElem?_append_left (by simp; omega)]
  rw [← hv]
  simp [h3]
 ·intro e a w q
  cases e with
  | normal=>exact q
  | ret=>exact q
  | exit id=>exact absurd q (by simp [qs,Go.Sv.look])
  | _=>exact q.elim
theorem St.uC {n:Nat} {rg:List (Nat × SV)} {ρ:Nat→Nat} {a:Act} {w w':World} {χ χ':Nat→Nat} (h:St n ⟨rg,[]⟩ ρ a w χ):St n ⟨rg,[]⟩ ρ a w' χ':=⟨h.size,h.defers,h.bc,fun id q hq=>by cases hq⟩
theorem yc {p:Nat→Bool} {w w':World} {χ χ':Nat→Nat} (e:Ev p w χ w' χ') (h:∀ b,p (χ b)=false):w.grownBy w' none:=⟨e.os,e.tape,e.output,e.size,fun k hk _=>(e.bW k hk (h k)).1⟩
theorem RS.plain {w w':World} {χ χ':Nat→Nat} {a:Option Addr} {xs:List aE} {c:Nat} (h:RS bT w χ a xs c) (k:∀ b o,χ b=0→w.heap[b]?=some o→o.isCells=true→w'.heap[b]?=some o∧χ' b=0):RS bT w' χ' a xs c :=
 ⟨h.cap,h.bnd,h.nil,fun hne=>by
  obtain ⟨b,o,cells,e,fr,h1,h2,h3,h4⟩:=h.cells hne
  obtain ⟨k1,k2⟩:=k b _ h2 h3 rfl
  exact ⟨b,o,cells,e,fr,h1,k2,k1,h4⟩⟩
def zh (f:aL) (m:Nat):Bool:=!aK (b7 f) (m:Int)
def ua (f:aL) (s:Nat):List Nat:=(List.range s).filter (zh f)
theorem qu (f:aL) (s:Nat):ua f (s+1)=ua f s++(if zh f s=true then [s] else []):=by
 unfold ua
 rw [List.range_succ,List.filter_append]
 by_cases h:zh f s=true <;> simp [h]
theorem H7 (f:aL) {s t:Nat} (h:s≤t):ua f s <+: ua f t:=by
 induction t with
 | zero=>rw [show s=0 by omega]; exact List.prefix_rfl
 | succ t ih =>
  by_cases e:s=t+1
  ·subst e; exact List.prefix_rfl
  ·rw [qu]
   exact (ih (by omega)).trans (List.prefix_append _ _)
theorem E9 (f:aL) (s:Nat):(ua f s).length≤s:=by
 unfold ua
 exact Nat.le_trans (List.length_filter_le _ _) (by simp)
theorem xp {f:aL} (h:bA f=0):hU f=ua f (2 ^ f.bC.toNat):=by
 unfold hU
 rw [if_pos h]; rfl
abbrev MS (f:aL):={ _m:Nat // bA f=0 }
def pw {f:aL} (hb:bA f=0) (s:Nat):List (MS f):=(ua f s).map fun m=>⟨m,hb⟩
theorem xB {f:aL} (hb:bA f=0) (s:Nat):(pw hb s).map (·.1)=ua f s:=by
 unfold pw
 rw [List.map_map]
 exact List.map_id _
theorem uH {f:aL} (hb:bA f=0) (s:Nat):pw hb (s+1)=pw hb s++(if zh f s=true then [⟨s,hb⟩] else []):=by
 unfold pw
 rw [qu,List.map_append]
 split <;> rfl
theorem E7 {f:aL} (hb:bA f=0) (s:Nat):(pw hb s).length≤s:=by
 unfold pw
 rw [List.length_map]; exact E9 f s
def cX (Bx:Nat) (b:Nat):Nat:=if b=Bx then 1000 else 0
theorem vd (Oc:S27) (Po:S75) (Pn:S77_76) {w:World} {f_:aL} {a1:Option Addr} {c1 bf Bx n:Nat} (WR:w.heap[bf]?=some (.cells #[.int .i64 f_.bC,.slice a1 f_.ai.length c1] 30 (0,0)))
  (M8:RS (aA tI) w (cB bf Bx) a1 f_.ai c1) (hne:bf≠Bx) (WT:Bx < w.heap.size) :
  SeqStopsK Fence.wide n Tryz.prog 74 #[.pointer (some ⟨bf,0,none⟩)] (fun m:MS f_=>#[.int .u32 (m.1:Int)]) (Kp Bx) (fun xs=>xs.map (·.1)=hU f_) (fun pre=>pre.map (·.1) <+: hU f_) 70000 w:=by
 intro l J Jx W hW hJ hJx hY h0
 refine callsIn_wide.2 ?_
 have eS:=cQ WR
 have hM0:M0 w (cB bf Bx) W (cB bf Bx):=⟨hW.size,fun b hb h=>⟨hW.block b hb,h⟩⟩
 have h1:=M8.m0 hM0
 have hbW:W.heap[bf]?=some (.cells #[.int .i64 f_.bC,.slice a1 f_.ai.length c1] 30 (0,0)):=(hW.block bf eS).trans WR
 have Z8:cB bf Bx bf=901:=by unfold cB; rw [if_neg hne,if_pos rfl]
 refine GL (f:=74) Tryz.func74 rfl (fun _=>bf) (args:=[V (.func (.yield l) #[] #[]),Pt 901 0]) (bxs:=[(901,(30,[I f_.bC,Sl a1 f_.ai c1]))]) (χ:=cB bf Bx) (by kernel_rfl) rfl (aY.cons rfl ⟨Z8,hbW⟩ aY.nil) fun a hS=>?_
 refine a8 ?_
 refine bk ?_
 refine oPe T hS 1 [] [(6,V (.agg #[.int .i64 f_.bC,.slice a1 f_.ai.length c1]))] fun a hS=>?_
 refine op1 (call hS (by kernel_rfl) (by kernel_rfl) hb27 (by kernel_rfl) (fun _ _=>rfl) (Oc _ _ f_ a1 c1 h1) ?_)
 intro v a w1 χ1 tA hp hS
 subst hp
 replace h0:=hJ [] W w1 none h0 (yc tA fun _=>rfl) (fun r e=>by cases e)
 replace h1:=h1.mv tA rfl
 refine ePe T hS [6,7] [(8,B (bA f_ != 0))] fun a hS=>?_
 refine aC hS (b:=bA f_ != 0) (by kernel_rfl) (fun hb=>?_) (fun hb=>?_)
 ·refine aR ?_
  refine m7 T hS (r:=[]) (by kernel_rfl) ⟨⟨_,rfl⟩,.inl ⟨[],?_,h0⟩⟩
  have hb:bA f_≠0:=by simpa using hb
  unfold hU
  rw [if_neg hb]; rfl
 ·have hb:bA f_=0:=by simpa using hb
  obtain ⟨v0,v1,_⟩:=js hb
  refine aI ?_
  refine bk ?_
  refine oPe T hS 1 [8] [(9,V (.agg #[.int .i64 f_.bC,.slice a1 f_.ai.length c1]))] fun a hS=>?_
  refine op1 (call hS (by kernel_rfl) (by kernel_rfl) hb75 (by kernel_rfl) (fun _ _=>rfl) (Po _ _ f_ a1 c1 hb h1) ?_)
  intro v a w2 χ2 lA hp hS
  obtain ⟨a3,c3,rfl,h3⟩:=hp
  replace h0:=hJ [] w1 w2 none h0 (yc lA fun _=>rfl) (fun r e=>by cases e)
  replace h1:=h1.mv lA rfl
  have lz:χ2 Bx=1000:=by
   have e1:cB bf Bx Bx=1000:=by unfold cB; rw [if_pos rfl]
   have WW:Bx < W.heap.size:=Nat.lt_of_lt_of_le WT hW.size
   have h11:=(tA.bW Bx WW rfl).2
   have h12:=(lA.bW Bx (Nat.lt_of_lt_of_le WW tA.size) rfl).2
   rw [h12,h11,e1]
  replace h3:RS bT w2 (cX Bx) a3 (b7 f_) c3:=RS.plain h3 fun b o h _ _=>⟨by assumption,by
   unfold cX
   rw [if_neg]
   rintro rfl
   omega⟩
  refine ePe T hS [9,10] [(3,Sl a3 (b7 f_) c3)] fun a hS=>?_
  refine bk ?_
  refine oPe T hS 2 [] [(12,I f_.bC)] fun a hS=>?_
  refine op1 (S2 (k:=.u32) (k2:=.i64) (p:=1) (q:=f_.bC) hS (by kernel_rfl) (by kernel_rfl) (by kernel_rfl) (by kernel_rfl) v0 ?_)
  intro a hS
  have e2:IntKind.u32.wrap (1 * 2 ^ (min f_.bC.toNat IntKind.u32.bits))=((2 ^ f_.bC.toNat:Nat):Int):=by
   have:=wM (v:=f_.bC.toNat) (by omega)
   rw [show ((f_.bC.toNat:Nat):Int)=f_.bC by omega] at this
   exact this
  rw [e2] at hS
  refine ePe T hS [12] [(14,V (.int .u32 0))] fun a hS=>?_
  refine aH ?_
  have hV:2 ^ f_.bC.toNat≤65536:=by
   have:2 ^ f_.bC.toNat≤2 ^ 16:=Nat.pow_le_pow_right (by decide) (by omega)
   simpa using this
  refine cu (σ:=Nat) (fun s a w=>s≤2 ^ f_.bC.toNat∧J (pw hb s) w∧Bx < w.heap.size∧RS bT w (cX Bx) a3 (b7 f_) c3∧∃ ρ:Nat→Nat,St Tryz.f74.ntmps ⟨[(0,V (.func (.yield l) #[] #[])),(3,Sl a3 (b7 f_) c3),(13,V (.int .u32 ((2 ^ f_.bC.toNat:Nat):Int))),(14,V (.int .u32 (s:Int)))],[]⟩ ρ a w (cX Bx)) (fun s=>2 ^ f_.bC.toNat - s) 0 ?_ ?_
  ·exact ⟨Nat.zero_le _,h0,Nat.lt_of_lt_of_le WT (Nat.le_trans hW.size (Nat.le_trans tA.size lA.size)),h3,_,St.uC (hS.sel [0,3,13,14] [] (by kernel_rfl))⟩
  rintro s a w3 ⟨hs,KR,gB,h3,ρ,hS⟩
  refine rPe T hS [] [(15,B (decide ((s:Int) < ((2 ^ f_.bC.toNat:Nat):Int))))] fun a hS=>?_
  refine a8 ?_
  refine aC hS (b:=decide ((s:Int) < ((2 ^ f_.bC.toNat:Nat):Int))) (by kernel_rfl) (fun hb2=>?_) (fun hb2=>?_)
  ·have hb2:s < 2 ^ f_.bC.toNat:=by have:=of_decide_eq_true hb2; omega
   refine aI ?_
   refine a8 ?_
   refine aH ?_
   refine rM T hS ⟨[(0,V (.func (.yield l) #[] #[])),(3,Sl a3 (b7 f_) c3),(4,Pt 5 0),(13,V (.int .u32 ((2 ^ f_.bC.toNat:Nat):Int))),(14,V (.int .u32 (s:Int)))],[(5,(81,[V (.int .u32 (s:Int))]))]⟩ fun ρ a w4 χ4 hS hE hr=>?_
   have WN:∀ b,ia (cX Bx b)=false:=fun b=>by unfold cX; split <;> rfl
   replace h3:=h3.mv hE rfl
   have Py:=Nat.lt_of_lt_of_le gB hE.size
   have WV:χ4 Bx=1000:=(hE.bW Bx gB (WN _)).2.trans (by unfold cX; rw [if_pos rfl])
   refine rPe T hS [] [(5,.f (.func 76) [] [.p 5 0])] fun a hS=>?_
   refine a8 ?_
   refine (wpIn_wide (n:=n)).1 (wpIn_region_lit (jY (ro:=none) 3 (by simp) ?_))
   refine oPe T hS 2 [] [(18,Sl a3 (b7 f_) c3),(19,.f (.func 76) [] [.p 5 0])] fun a hS=>?_
   refine op1 (pY hS (by kernel_rfl) (by kernel_rfl) hb77 (by kernel_rfl) (Pn _ _ (b7 f_) (s:Int) a3 c3 (ρ 5) 5 h3 (hS.cell (id:=5) (t:=81) (cs:=[V (.int .u32 (s:Int))]) (by kernel_rfl)) ⟨by decide,by decide⟩) ?_)
   intro v a w5 χ5 Aj hp hS
   obtain ⟨rfl,UC⟩:=hp
   have h3':=h3.mv Aj rfl
   replace KR:=hJ _ _ w5 none KR ⟨Aj.os.trans hE.os,Aj.tape.trans hE.tape,Aj.output.trans hE.output,Nat.le_trans hE.size Aj.size,fun k hk _=>by
    obtain ⟨q1,q2⟩:=hE.bW k hk (WN k)
    have:=(Aj.bW k (Nat.lt_of_lt_of_le hk hE.size) (by rw [q2]; unfold cX; split <;> rfl)).1
    exact this.trans q1⟩ (fun r e=>by cases e)
   have hB5:χ5 Bx=1000:=(Aj.bW Bx Py (by rw [WV]; rfl)).2.trans WV
   have Px:=Nat.lt_of_lt_of_le Py Aj.size
   replace hS:=hS.cZ (id:=5) (t:=81) (cs:=[V (.int .u32 (s:Int))]) (by kernel_rfl) UC
   have WY:RS bT w5 (cX Bx) a3 (b7 f_) c3:=RS.plain h3' fun b o h ho _=>⟨ho,by
    unfold cX
    rw [if_neg]
    rintro rfl
    omega⟩
   refine gM ?_
   have hW7:∀ (zpo:String) (a:Act) (w:World),J (pw hb (s+1)) w→Bx < w.heap.size→RS bT w (cX Bx) a3 (b7 f_) c3→St Tryz.f74.ntmps ⟨[(0,V (.func (.yield l) #[] #[])),(3,Sl a3 (b7 f_) c3),(13,V (.int .u32 ((2 ^ f_.bC.toNat:Nat):Int))),(14,V (.int .u32 (s:Int)))],[]⟩ ρ a w (cX Bx) →
     (Code.region 7 #[{ dst:=some 28,op:=Op.binOp BinOp.add 81 (Operand.tmp 14) (Operand.const (Value.int IntKind.u32 1)) 81,type:=81,pos := zpo,after:=#[],guard:=none },{ dst:=some 14,op:=Op.move (Operand.tmp 28),type:=81,pos := zpo,after:=#[{ on:=0,ground:=Ground.data }],guard:=none }] false).wp Tryz.prog
      (qs (fun a' w'=>∃ s',(s'≤2 ^ f_.bC.toNat∧J (pw hb s') w'∧Bx < w'.heap.size∧RS bT w' (cX Bx) a3 (b7 f_) c3∧∃ ρ:Nat→Nat,St Tryz.f74.ntmps ⟨[(0,V (.func (.yield l) #[] #[])),(3,Sl a3 (b7 f_) c3),(13,V (.int .u32 ((2 ^ f_.bC.toNat:Nat):Int))),(14,V (.int .u32 (s':Int)))],[]⟩ ρ a' w' (cX Bx))∧2 ^ f_.bC.toNat - s' < 2 ^ f_.bC.toNat - s)
       (fun a' w'=>bodyPost Tryz.prog Tryz.f74 (fun e W'=>(∃ v,e=.returned v)∧((∃ xs,(fun xs:List (MS f_)=>xs.map (·.1)=hU f_) xs∧J xs W')∨∃ pre,(fun pre:List (MS f_)=>pre.map (·.1) <+: hU f_) pre∧Jx pre W')) .ret a' w')
       [(2 * 0,fun a' w'=>bodyPost Tryz.prog Tryz.f74 (fun e W'=>(∃ v,e=.returned v)∧((∃ xs,(fun xs:List (MS f_)=>xs.map (·.1)=hU f_) xs∧J xs W')∨∃ pre,(fun pre:List (MS f_)=>pre.map (·.1) <+: hU f_) pre∧Jx pre W')) .ret a' w')]) a w:=by
    intro zpo a w hj hz hr hS
    refine region (ePe T hS [] [(14,V (.int .u32 (IntKind.u32.wrap ((s:Int)+1))))] fun a hS=>?_)
    have ew:IntKind.u32.wrap ((s:Int)+1)=((s+1:Nat):Int):=by
     have:=w8 (n:=s+1) (by omega)
     rw [← this]; rfl
    rw [ew] at hS
    exact ⟨s+1,⟨by omega,hj,hz,hr,_,hS.sel [0,3,13,14] [] (by kernel_rfl)⟩,by omega⟩
   cases Om:aK (b7 f_) (s:Int) with
   | true =>
    rw [Om] at hS
    refine jY (ro:=none) 7 (by simp) ?_
    refine ePe T hS [] [(27,B false)] fun a hS=>?_
    refine (show (Code.cond (Operand.tmp 27) Code.ret Code.skip).wp _ _ a w5 from ?_)
    refine aC hS (b:=false) (by kernel_rfl) (fun h=>by cases h) (fun _=>?_)
    refine aI ?_
    refine hW7 _ _ _ ?_ Px WY (St.uC (hS.sel [0,3,13,14] [] (by kernel_rfl)))
    rw [uH,if_neg (by unfold zh; rw [Om]; decide),List.append_nil]
    exact KR
   | false =>
    rw [Om] at hS
    refine jY (ro:=none) 4 (by simp) ?_
    refine ePe T hS [] [(22,B true),(23,V (.func (.yield l) #[] #[])),(24,V (.int .u32 (s:Int)))] fun a hS=>?_
    have PB:zh f_ s=true:=by unfold zh; rw [Om]; rfl
    have Ad:=E7 hb s
    have e24:a.eval (.tmp 24)=.int .u32 (s:Int):=hS.evo (x:=.tmp 24) (sv:=V (.int .u32 (s:Int))) (by kernel_rfl)
    have e23:a.eval (.tmp 23)=.func (.yield l) #[] #[]:=hS.evo (x:=.tmp 23) (sv:=V (.func (.yield l) #[] #[])) (by kernel_rfl)
    refine Ee (ro:=none) (dE hS (by kernel_rfl)) e23 ?_
    rw [e24]
    refine (hY (pw hb s) ⟨s,hb⟩ w5 KR (by omega)).mono ?_
    have Sx:∀ (b:Bool) (W':World),St Tryz.f74.ntmps ⟨(25,V (.bool b)) :: [(0,V (.func (.yield l) #[] #[])),(3,Sl a3 (b7 f_) c3),(13,V (.int .u32 ((2 ^ f_.bC.toNat:Nat):Int))),(14,V (.int .u32 (s:Int))),(22,B true)],[]⟩ ρ (a.put (some 25) (.bool b)) W' (cX Bx):=fun b W' =>
     St.put (sv:=V (.bool b)) (St.uC (hS.sel [0,3,13,14,22] [] (by kernel_rfl))) (by decide)
    rintro e W' (⟨rfl,hj,hk⟩ | ⟨rfl,hj⟩)
    ·refine ⟨_,rfl,?_⟩
     have hS:=Sx true W'
     refine jY (ro:=none) 2 (by simp) ?_
     refine ePe T hS [] [(27,B false)] fun a hS=>?_
     refine (show (Code.cond (Operand.tmp 27) Code.ret Code.skip).wp _ _ a W' from ?_)
     refine aC hS (b:=false) (by kernel_rfl) (fun h=>by cases h) (fun _=>?_)
     refine aI ?_
     refine hW7 _ _ _ ?_ (Nat.lt_of_lt_of_le Px hk.1) ?_ (hS.sel [0,3,13,14] [] (by kernel_rfl))
     ·rw [uH,if_pos PB]
      exact hj
     ·refine RS.plain WY fun b o h ho hc=>⟨hk.2 b o ?_ ho hc,h⟩
      rintro rfl
      unfold cX at h
      rw [if_pos rfl] at h
      cases h
    ·refine ⟨_,rfl,?_⟩
     have hS:=Sx false W'
     refine jY (ro:=none) 2 (by simp) ?_
     refine ePe T hS [] [(27,B true)] fun a hS=>?_
     refine (show (Code.cond (Operand.tmp 27) Code.ret Code.skip).wp _ _ a W' from ?_)
     refine aC hS (b:=true) (by kernel_rfl) (fun _=>?_) (fun h=>by cases h)
     refine aR ?_
     refine m7 T hS (r:=[]) (by kernel_rfl) ⟨⟨_,rfl⟩,.inr ⟨_,?_,hj⟩⟩
     have:=H7 f_ (s:=s+1) (t:=2 ^ f_.bC.toNat) (by omega)
     rw [qu,if_pos PB] at this
     rw [xp hb]
     show (pw hb s++[(⟨s,hb⟩:MS f_)]).map (fun m:MS f_=>m.1) <+: _
     rw [List.map_append,xB]
     exact this
  ·have hb2:s=2 ^ f_.bC.toNat:=by have:=of_decide_eq_false hb2; omega
   refine cl rfl ?_
   refine m7 T hS (r:=[]) (by kernel_rfl) ⟨⟨_,rfl⟩,.inl ⟨pw hb s,?_,KR⟩⟩
   show (pw hb s).map (·.1)=hU f_
   rw [xB,hb2,xp hb]
end Go.Proofs.YtobeanopikjkeaaGreat
