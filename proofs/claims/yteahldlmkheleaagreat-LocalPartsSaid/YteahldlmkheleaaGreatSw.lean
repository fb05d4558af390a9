/- The second part of the walk library. -/
import Derived.Test.YteahldlmkheleaaGreatSv
namespace Go.Sv
open Go
section
variable {P:Program}
section ops
variable {tab:Tab} {n:Nat} {sy:Sy} {ρ:Nat→Nat} {a:Act} {w:World} {χ:Nat→Nat} {all:List Oper} {Q:Exit→Act→World→Prop} {K:Act→World→Prop}
variable {d ty:Nat} {pos:String} {af:Array Edge} {g:Option (Nat × Bool)}
def mX (bks:List Nat) (sy:Sy):List (Nat × (Nat × List SV)):=sy.boxes.filter (fun q=>bks.any (Nat.beq q.1))
theorem bP.of (h:St n sy ρ a w χ) {bks:List Nat} {bxs:List (Nat × (Nat × List SV))} (hb:mX bks sy=bxs) {w0:World} {χ0:Nat→Nat} (hD:M0 w0 χ0 w χ):bP w0 χ0 bxs ρ w:=by
 subst hb
 exact ⟨fun i q hq=>(h.boxes i q (kT hq)).2.2,fun b hb h0=>(hD.eT b hb h0).1⟩
theorem bP.grow {bxs:List (Nat × (Nat × List SV))} {w0 w':World} {χ0:Nat→Nat} (H:bP w0 χ0 bxs ρ w) (kJ:w0.heap.size≤w.heap.size) (hg:∀ b,b < w.heap.size→w'.heap[b]?=w.heap[b]?):bP w0 χ0 bxs ρ w' :=
 ⟨fun id q hq=>(hg _ (fH (H.1 id q hq))).trans (H.1 id q hq),fun b hb h0=>(hg b (Nat.lt_of_lt_of_le hb kJ)).trans (H.2 b hb h0)⟩
theorem M0.ev {w0:World} {χ0:Nat→Nat} {p:Nat→Bool} {w':World} {χ':Nat→Nat} (h:M0 w0 χ0 w χ) (e:Ev p w χ w' χ') (hp:p 0=false):M0 w0 χ0 w' χ' :=
 ⟨Nat.le_trans h.size e.size,fun b hb h0=>by
  obtain ⟨k1,k2⟩:=h.eT b hb h0
  obtain ⟨l1,l2⟩:=(e.m0 hp).eT b (Nat.lt_of_lt_of_le hb h.size) k2
  exact ⟨l1.trans k1,l2⟩⟩
theorem drawn {id:Nat} {l:List Oper} {K ret:Act→World→Prop} {eH:List (Nat × (Act→World→Prop))} (bks:List Nat) (hm:P.follows .mixedOrders=true) (h:St n sy ρ a w χ)
  (k:∀ w1,St n sy ρ a w1 χ→Ev aL w χ w1 χ→M0 w1 χ w1 χ→bP w1 χ (mX bks sy) ρ w1→Dr P l (qs K ret eH) (bP w1 χ (mX bks sy) ρ) (Array.replicate l.toArray.size false) l.toArray.size a w1) :
  (Code.region id l.toArray true).wp P (qs K ret eH) a w:=by
 have h1:St n sy ρ a { w with drawn:=w.drawn+1 } χ:=⟨h.size,h.defers,h.bK,h.boxes⟩
 exact wp_region_held hm (k { w with drawn:=w.drawn+1 } h1 ⟨rfl,rfl,rfl,Nat.le_refl _,fun _ _ _=>⟨rfl,rfl⟩⟩ (M0.refl _ _) (bP.of h1 rfl (M0.refl _ _)))
theorem take {nrm ret:Act→World→Prop} {eH:List (Nat × (Act→World→Prop))} {w0:World} {χ0:Nat→Nat} {bxs:List (Nat × (Nat × List SV))} {listed listed':Array Bool} {m fuel:Nat} {sy':Sy} (TT:aD P tab) (is bks ks:List Nat) (h:St n sy ρ a w χ)
  (ou:Region.noSelect all.toArray=true) (hn:Nat.ble n 999=true) (hb:mX bks sy=bxs) (H:bP w0 χ0 bxs ρ w) (e:(match iP tab n all bks is listed sy with | some (l,s)=>some (l,(⟨(eT ks [] s).bK,sy.boxes⟩:Sy)) | none=>none)=some (listed',sy')) (hf:m=fuel+is.length)
  (k:∀ a',St n sy' ρ a' w χ→Dr P all (qs nrm ret eH) (bP w0 χ0 bxs ρ) listed' fuel a' w):Dr P all (qs nrm ret eH) (bP w0 χ0 bxs ρ) listed m a w:=by
 subst hb
 subst hf
 cases hs:iP tab n all bks is listed sy with
 | none=>rw [hs] at e; cases e
 | some q =>
  obtain ⟨l,s⟩:=q
  rw [hs] at e
  simp only [Option.some.injEq,Prod.mk.injEq] at e
  obtain ⟨rfl,rfl⟩:=e
  refine qx TT ou (Nat.le_of_ble_eq_true hn) is hs h H (fun a' h' QZ=>?_)
  refine k a' ?_
  refine h'.sub (fun t sv hq=>lx hq) (fun id q hq=>by rw [QZ]; exact hq)
theorem only {nrm ret:Act→World→Prop} {eH:List (Nat × (Act→World→Prop))} {S:World→Prop} {listed:Array Bool} {fuel:Nat} {o:Oper} (i:Nat) (hr:Region.ready .any all.toArray listed=[i]) (ho:all[i]?=some o)
  (k:wp1 P all.toArray (qs nrm ret eH) o (fun a' w'=>S w'∧Dr P all (qs nrm ret eH) S (listed.setIfInBounds i true) fuel a' w') a w):Dr P all (qs nrm ret eH) S listed (fuel+1) a w:=by
 unfold Dr
 refine wpAnyH_all hr (by simp) ?_
 intro j hj
 simp at hj
 subst hj
 unfold wpOp
 rw [List.getElem?_toArray,ho]
 exact k
theorem aX {nrm ret:Act→World→Prop} {eH:List (Nat × (Act→World→Prop))} {S:World→Prop} {listed:Array Bool} {fuel:Nat} (hr:Region.ready .any all.toArray listed=[]) (k:nrm a w):Dr P all (qs nrm ret eH) S listed fuel a w :=
 wpAnyH_done hr k fuel
theorem qu {nrm ret:Act→World→Prop} {eH:List (Nat × (Act→World→Prop))} {S:World→Prop} {listed:Array Bool} {fuel d:Nat} {op:Op} {v:Value} (i:Nat) (h:St n sy ρ a w χ) (ou:Region.noSelect all.toArray=true) (hd:Nat.blt d n=true)
  (hc:(Region.free .any all.toArray listed i && (Region.ready .any all.toArray listed).contains i)=true) (ho:all[i]?=some ⟨some d,op,ty,pos,af,g⟩) (hw:ca all sy g=true) (H:S w) (lA:∀ w1,S w1→(execOp a.eval ⟨some d,op,ty,pos,af,g⟩).run P w1=.ok (.value v) w1)
  (k:∀ a',St n ⟨(d,V v) :: sy.bK,sy.boxes⟩ ρ a' w χ→Dr P all (qs nrm ret eH) S (listed.setIfInBounds i true) fuel a' w):Dr P all (qs nrm ret eH) S listed (fuel+1) a w:=by
 rw [Bool.and_eq_true] at hc
 unfold Dr
 exact wpAnyH_take (v:=v) (oi:=⟨some d,op,ty,pos,af,g⟩) (by simp [ho]) ou hc.1 hc.2 (fun c a w hq=>hq.elim) (.inl ⟨dH h (o:=⟨some d,op,ty,pos,af,g⟩) hw,lA⟩) H (k _ (h.put (sv:=V v) (Nat.le_of_ble_eq_true hd)))
theorem dm {α:Type} [Inhabited α] {T:bW α} {nrm ret:Act→World→Prop} {eH:List (Nat × (Act→World→Prop))} {S:World→Prop} {listed:Array Bool} {fuel:Nat} (TT:aD P tab) (q:Nat) {t e:Nat} {x y:Operand} {ad:Option Addr} {xs:List α} {c:Nat} {k:IntKind} {i:Int}
  (h:St n sy ρ a w χ) (ou:Region.noSelect all.toArray=true) (hd:Nat.blt d n=true) (hc:(Region.free .any all.toArray listed q && (Region.ready .any all.toArray listed).contains q)=true) (ho:all[q]?=some ⟨some d,.indexAddr t x y,ty,pos,af,g⟩) (hw:ca all sy g=true) (H:S w)
  (hx:evo sy x=some (V (.slice ad xs.length c))) (hy:evo sy y=some (V (.int k i))) (hR:RS T w χ ad xs c) (ht:pY tab t e=true) (hs:pW tab e T.n=true) (h0:0≤i) (h1:i < xs.length)
  (kk:∀ A a',At T w χ A (gi xs i)→St n ⟨(d,V (.pointer (some A))) :: sy.bK,sy.boxes⟩ ρ a' w χ→Dr P all (qs nrm ret eH) S (listed.setIfInBounds q true) fuel a' w):Dr P all (qs nrm ret eH) S listed (fuel+1) a w:=by
 have hne:xs≠[]:=by intro e; subst e; simp at h1; omega
 obtain ⟨b,o,cells,e',fr,rS,nq,hh,gJ⟩:=hR.cells hne
 obtain ⟨inf,hi,hm⟩:=kZ TT hs
 have ex:a.eval x=.slice ad xs.length c:=h.evo hx
 have ey:a.eval y=.int k i:=h.evo hy
 refine qu q h ou hd hc ho hw H (v:=.pointer (some ⟨b,o+i.toNat * T.n,none⟩)) (fun w1 _=>?_) (fun a' h'=>kk _ a' ⟨b,o+i.toNat * T.n,cells,e',fr,rfl,nq,hh,gJ _ _ (qf h0 h1)⟩ h')
 have hr:=mr (P:=P) (w:=w1) (c:=c) (k:=k) (ko TT ht) hi hm rS h0 h1
 simp [execOp,ex,ey,hr]
theorem eu {α:Type} {T:bW α} {nrm ret:Act→World→Prop} {eH:List (Nat × (Act→World→Prop))} {w0:World} {χ0:Nat→Nat} {bxs:List (Nat × (Nat × List SV))} {ρ0:Nat→Nat} {listed:Array Bool} {fuel:Nat} (TT:aD P tab) (q:Nat) {t s:Nat} {A:Addr} {x:α} (h:St n sy ρ a w χ)
  (ou:Region.noSelect all.toArray=true) (hd:Nat.blt d n=true) (hc:(Region.free .any all.toArray listed q && (Region.ready .any all.toArray listed).contains q)=true) (ho:all[q]?=some ⟨some d,.load t (.tmp s),ty,pos,af,g⟩) (hw:ca all sy g=true) (H:bP w0 χ0 bxs ρ0 w)
  (hs:look sy.bK s=some (V (.pointer (some A)))) (hA:At T w χ A x) (A8:A.block < w0.heap.size∧χ0 A.block=0) (hn:T.n=1) (ht:pL tab t false=true)
  (k:∀ v a',T.R w χ [v] x→St n ⟨(d,V v) :: sy.bK,sy.boxes⟩ ρ a' w χ→Dr P all (qs nrm ret eH) (bP w0 χ0 bxs ρ0) (listed.setIfInBounds q true) fuel a' w):Dr P all (qs nrm ret eH) (bP w0 χ0 bxs ρ0) listed (fuel+1) a w:=by
 obtain ⟨b,o,cells,e',fr,rfl,nq,hh,gJ⟩:=hA
 obtain ⟨dd,o5,Aq⟩:=mQ TT ht
 have hlen:=T.len gJ
 rw [hn] at hlen gJ
 have es:a.eval (.tmp s)=.pointer (some ⟨b,o,none⟩):=h.evo (x:=.tmp s) hs
 have hb0:=H.2 b A8.1 A8.2
 match hl:(cells.toList.drop o).take 1,hlen with
 | [v],_ =>
  rw [hl] at gJ
  have Fv:cells[o]?=some v:=by
   have:=congrArg (fun l=>l[0]?) hl
   simpa [List.getElem?_take] using this
  refine qu q h ou hd hc ho hw H (v:=v) (fun w1 H1=>?_) (fun a' h'=>k v a' gJ h')
  have hb1:w1.heap[b]?=some (.cells cells e' fr):=(H1.2 b A8.1 A8.2).trans (hb0.symm.trans hh)
  have kV:w1.cell? ⟨b,o,none⟩=some v:=by
   simp only [World.cell?,hb1]
   simpa using Fv
  simp [execOp,es,Instr.loadAt,Instr.sureAddr,loadVar,gb o5,Aq,kV]
theorem ku {α:Type} {T:bW α} {nrm ret:Act→World→Prop} {eH:List (Nat × (Act→World→Prop))} {w0:World} {χ0:Nat→Nat} {bxs:List (Nat × (Nat × List SV))} {ρ0:Nat→Nat} {listed:Array Bool} {fuel:Nat} (TT:aD P tab) (q:Nat) {t s:Nat} {A:Addr} {x:α} (h:St n sy ρ a w χ)
  (ou:Region.noSelect all.toArray=true) (hd:Nat.blt d n=true) (hc:(Region.free .any all.toArray listed q && (Region.ready .any all.toArray listed).contains q)=true) (ho:all[q]?=some ⟨some d,.load t (.tmp s),ty,pos,af,g⟩) (hw:ca all sy g=true) (H:bP w0 χ0 bxs ρ0 w)
  (hs:look sy.bK s=some (V (.pointer (some A)))) (hA:At T w χ A x) (A8:A.block < w0.heap.size∧χ0 A.block=0) (ht:pL tab t true=true) (kJ:pW tab t T.n=true)
  (k:∀ cs a',T.R w χ cs x→St n ⟨(d,V (.agg cs.toArray)) :: sy.bK,sy.boxes⟩ ρ a' w χ→Dr P all (qs nrm ret eH) (bP w0 χ0 bxs ρ0) (listed.setIfInBounds q true) fuel a' w):Dr P all (qs nrm ret eH) (bP w0 χ0 bxs ρ0) listed (fuel+1) a w:=by
 obtain ⟨b,o,cells,e',fr,rfl,nq,hh,gJ⟩:=hA
 obtain ⟨dd,o5,Aq⟩:=mQ TT ht
 obtain ⟨inf,hi,hm⟩:=kZ TT kJ
 have hlen:=T.len gJ
 have es:a.eval (.tmp s)=.pointer (some ⟨b,o,none⟩):=h.evo (x:=.tmp s) hs
 have hb0:=H.2 b A8.1 A8.2
 refine qu q h ou hd hc ho hw H (v:=.agg ((cells.toList.drop o).take T.n).toArray) (fun w1 H1=>?_) (fun a' h'=>k _ a' gJ h')
 have hb1:w1.heap[b]?=some (.cells cells e' fr):=(H1.2 b A8.1 A8.2).trans (hb0.symm.trans hh)
 have hl:=run_loadCells_list (P:=P) w1 ⟨b,o,none⟩ ((cells.toList.drop o).take T.n) (fun j v hj=>by
  rw [Addr.add_lit]
  simp only [World.cell?,hb1]
  rw [List.getElem?_take] at hj
  split at hj
  ·simpa [Nat.add_comm] using hj
  ·cases hj)
 rw [hlen] at hl
 simp [execOp,es,Instr.loadAt,Instr.sureAddr,loadVar,gb o5,Aq,run_sizeOf hi,hm,hl]
theorem At.here {α:Type} {T:bW α} {A:Addr} {x:α} (h:At T w χ A x):A.block < w.heap.size∧χ A.block=0:=by
 obtain ⟨b,o,cells,e',fr,rfl,nq,hh,gJ⟩:=h
 exact ⟨fH hh,nq⟩
section dlook
variable {nrm ret:Act→World→Prop} {eH:List (Nat × (Act→World→Prop))} {S:World→Prop} {listed:Array Bool} {fuel:Nat}
theorem AB (i:Nat) (TT:aD P tab) {op:BinOp} {x y:Operand} {t yt:Nat} {xs ys:List Value} {r b:Bool} (h:St n sy ρ a w χ) (ou:Region.noSelect all.toArray=true) (hd:Nat.blt d n=true) (hc:(Region.free .any all.toArray listed i && (Region.ready .any all.toArray listed).contains i)=true) (Qq:all[i]?=some ⟨some d,.binOp op t x y yt,ty,pos,af,g⟩) (hw:ca all sy g=true) (H:S w)
  (hx:evo sy x=some (V (.agg xs.toArray))) (hy:evo sy y=some (V (.agg ys.toArray))) (hf:oy P t xs=true) (hn:nf tab t=some xs.length) (he:gz xs ys=some r) (ho:(match op with | .eql=>some r | .neq=>some (!r) | _=>none)=some b)
  (kk:∀ a',St n ⟨(d,V (.bool b)) :: sy.bK,sy.boxes⟩ ρ a' w χ→Dr P all (qs nrm ret eH) S (listed.setIfInBounds i true) fuel a' w):Dr P all (qs nrm ret eH) S listed (fuel+1) a w:=by
 refine qu i h ou hd hc Qq hw H (fun w1 _=>?_) kk
 have ex:a.eval x=.agg xs.toArray:=h.evo hx
 have ey:a.eval y=.agg ys.toArray:=h.evo hy
 obtain ⟨fs,hu,h1,h2,h3⟩:=uf hf
 have hlen:∀ fs,P.underlying t=some (.struct fs)→xs.length=fs.size:=by
  intro OP IQ
  unfold nf at hn
  split at hn
  ·rename_i M8 ua
   obtain ⟨i,dd,z,hi,o5,hz,IU,mN,lz,ju,kp,_⟩:=cB (TT _ _ ua)
   obtain ⟨l,rfl,hm⟩:=kp _ rfl
   rw [o5] at IQ
   cases IQ
   have:=rf hm
   simp at hn
   rw [← hn,this,Array.length_toList]
  ·cases hn
 have hq:=lI (w:=w1) hf he hlen
 cases op with
 | eql =>
  simp at ho; subst ho
  simp only [execOp,ex,ey,Sem.run_bind,run_eqGuard_agg w1 .eql t x y _ _ h2,Result.andThen_ok,run_eql_struct,hq,Sem.run_pure]
 | neq =>
  have hb:b=!r:=(Option.some.inj ho).symm
  subst hb
  simp only [execOp,ex,ey,Sem.run_bind,run_eqGuard_agg w1 .neq t x y _ _ h2,Result.andThen_ok,run_neq_struct,hq,Sem.run_pure]
 | _=>simp at ho
theorem dE {α β:Type} {T:bW α} {TF:bW β} (i:Nat) (TT:aD P tab) {t s f off fsz ft:Nat} {A:Addr} {x:α} {y:β} (h:St n sy ρ a w χ) (ou:Region.noSelect all.toArray=true) (hd:Nat.blt d n=true) (hc:(Region.free .any all.toArray listed i && (Region.ready .any all.toArray listed).contains i)=true) (ho:all[i]?=some ⟨some d,.fieldAddr t (.tmp s) f,ty,pos,af,g⟩) (hw:ca all sy g=true) (H:S w)
  (hs:look sy.bK s=some (V (.pointer (some A)))) (hA:At T w χ A x)
  (ht:(match look tab t with | some ⟨_,_,_,_,.struct fs⟩=>fs[f]? | _=>none)=some (off,fsz,ft)) (kJ:Nat.beq fsz TF.n=true) (hle:Nat.ble (off+TF.n) T.n=true) (hF:∀ cs,T.R w χ cs x→TF.R w χ ((cs.drop off).take TF.n) y)
  (k:∀ A' a',At TF w χ A' y→A'.block=A.block→St n ⟨(d,V (.pointer (some A'))) :: sy.bK,sy.boxes⟩ ρ a' w χ→Dr P all (qs nrm ret eH) S (listed.setIfInBounds i true) fuel a' w):Dr P all (qs nrm ret eH) S listed (fuel+1) a w:=by
 obtain ⟨b,o,cells,e',fr,rfl,nq,hh,gJ⟩:=hA
 have es:a.eval (.tmp s)=.pointer (some ⟨b,o,none⟩):=h.evo (x:=.tmp s) hs
 split at ht
 ·rename_i fs ua
  obtain ⟨i',dd,z,hi,o5,hz,IU,mN,lz,ju,kp,_⟩:=cB (TT _ _ ua)
  obtain ⟨l,rfl,hm⟩:=kp _ rfl
  obtain ⟨fd,xM,zc⟩:=lv hm f _ ht
  simp only [Option.map_eq_some_iff,Prod.mk.injEq] at zc
  obtain ⟨j,hj,rfl,rfl,rfl⟩:=zc
  have QD:=Nat.eq_of_beq_eq_true kJ
  have hne:¬ j.size=0:=by have:=TF.pos; omega
  have MF:=Nat.le_of_ble_eq_true hle
  simp only [Array.getElem?_toList] at xM
  refine qu i h ou hd hc ho hw H (v:=.pointer (some ⟨b,o+fd.offset,none⟩)) (fun w1 _=>?_) (fun a' h'=>k _ a' ⟨b,o+fd.offset,cells,e',fr,rfl,nq,hh,?_⟩ rfl h')
  ·simp [execOp,es,Instr.fieldAt,run_underlying o5,xM,Instr.sureAddr,fieldPlace,run_sizeOf hj,hne,Addr.add_lit]
  ·have:=hF _ gJ
   rw [List.drop_take,List.take_take,List.drop_drop,Nat.min_eq_left (by omega)] at this
   exact this
 ·cases ht
end dlook
theorem Nm (TT:aD P tab) {t:Nat} {sy':Sy} (h:St n sy ρ a w χ) (hw:ca all sy g=true) (hd:Nat.blt d n=true) (hn:Nat.ble n 999=true) (e:mf tab true sy ⟨some d,.alloc t,ty,pos,af,g⟩=some sy')
  (k:∀ ρ' a' w' χ',St n sy' ρ' a' w' χ'→Ev iM w χ w' χ'→(∀ id,id≠d+1→ρ' id=ρ id)→K a' w'):wp1 P all.toArray Q ⟨some d,.alloc t,ty,pos,af,g⟩ K a w:=by
 refine fL (dH h (o:=⟨some d,.alloc t,ty,pos,af,g⟩) hw) ?_
 unfold mf at e
 simp only [jQ,cond_true] at e
 cases ht:look tab t with
 | none=>simp [ht] at e
 | some Dw =>
  simp only [ht] at e
  obtain ⟨i,dd,zv,hi,o5,hz,hs,mN,lz,ju,_⟩:=cB (TT _ _ ht)
  have MQ:d < n:=Nat.le_of_ble_eq_true hd
  have KG:=Nat.le_of_ble_eq_true hn
  obtain ⟨s1,s2⟩:=h.box MQ (by simp [iM]; omega) e (by intro c hc; obtain ⟨y,_,rfl⟩:=List.mem_map.1 hc; rfl)
  have hr:(execOp a.eval ⟨some d,.alloc t,ty,pos,af,g⟩).run P w=.ok (.value (.pointer (some ⟨w.heap.size,0,none⟩))) (w.alloc (.cells ((Dw.zero.map V).map (bD ρ)).toArray t)):=by
   rw [ki]
   have Cv:zv.cells=Dw.zero.toArray:=by rw [← lz]
   simp [execOp,Instr.alloc,newVar,newRow,zeroValue,typeInfo,hi,hz,Cv]
  unfold Oper.wp
  rw [hr]
  simp only [Oper.upon]
  exact k _ _ _ _ s1 s2 (fun id hne=>if_neg hne)
theorem Bz (TT:aD P tab) {t:Nat} {x y:Operand} {sy':Sy} (h:St n sy ρ a w χ) (hw:ca all sy g=true) (hn:Nat.ble n 999=true) (e:mf tab true sy ⟨none,.store t x y,ty,pos,af,g⟩=some sy')
  (k:∀ a' w' χ',St n sy' ρ a' w' χ'→Ev iM w χ w' χ'→K a' w'):wp1 P all.toArray Q ⟨none,.store t x y,ty,pos,af,g⟩ K a w:=by
 refine fL (dH h (o:=⟨none,.store t x y,ty,pos,af,g⟩) hw) ?_
 unfold mf at e
 simp only [jQ,cond_true] at e
 split at e
 ·rename_i id off v Dw hx hy ht
  split at e
  ·rename_i bt cs hb
   obtain ⟨hc,rfl⟩:=kC e
   simp only [Bool.and_eq_true,List.all_eq_true] at hc
   obtain ⟨⟨c1,c2⟩,c3⟩:=hc
   have c1:=Nat.eq_of_beq_eq_true c1
   have c2:=Nat.le_of_ble_eq_true c2
   obtain ⟨i,dd,zv,hi,o5,hz,hs,mN,lz,ju,_⟩:=cB (TT _ _ ht)
   obtain ⟨s1,s2⟩:=h.wr (off:=off) (new:=cellsOf v) hb
   obtain ⟨_,_,kM⟩:=h.boxes id _ hb
   have As:=jV (ρ:=ρ) v
   have kJ:(bD ρ v).cells.size=i.size:=by rw [← Array.length_toList,As,List.length_map,hs,c1]
   have vv:∀ u∈(cellsOf v).map (bD ρ),u.oneCell'=true:=by
    intro u hu
    obtain ⟨c,hc,rfl⟩:=List.mem_map.1 hu
    have:=c3 c hc
    match c,this with
    | .s (.v (.bool _)),_ | .s (.v (.int _ _)),_ | .s (.v (.float _ _)),_ | .s (.v (.complex _ _ _)),_ | .s (.v (.string _)),_ | .s (.v (.pointer _)),_ | .s (.v (.slice _ _ _)),_ | .s (.v (.map _)),_ | .s (.v (.chan _)),_
    | .s (.v (.func _ _ _)),_ | .s (.v .nilFunc),_ | .s (.v (.iface _ _)),_ | .s (.v .nilIface),_=>rfl
    | .s (.p _ _),_=>rfl
    | .f _ _ _,_=>rfl
   have kp:=run_storeCells_at P (ρ id) off bt ((cellsOf v).map (bD ρ)) 0 _ w kM (by simp; omega) vv
   simp only [Nat.add_zero,List.length_map] at kp
   have hr:(execOp a.eval ⟨none,.store t x y,ty,pos,af,g⟩).run P w=.ok .skip (w.setRow (ρ id) ((cs.map (bD ρ)).take off++(cellsOf v).map (bD ρ)++(cs.map (bD ρ)).drop (off+(cellsOf v).length)).toArray):=by
    have xI:(storeVar t ⟨ρ id,off,none⟩ (bD ρ v)).run P w=.ok () (w.setRow (ρ id) ((cs.map (bD ρ)).take off++(cellsOf v).map (bD ρ)++(cs.map (bD ρ)).drop (off+(cellsOf v).length)).toArray):=by
     simp only [storeVar,Sem.run_bind,run_sizeOf hi,Result.andThen_ok,kJ,ne_eq,not_true_eq_false,if_false,As]
     exact kp
    have Mn:a.eval x=.pointer (some ⟨ρ id,off,none⟩):=h.evo hx
    simp only [execOp,Mn,h.evo hy,Instr.storeAt,Instr.sureAddr,Sem.run_bind,Sem.run_pure,Result.andThen_ok,xI]
   unfold Oper.wp
   rw [hr]
   simp only [Oper.upon]
   exact k _ _ _ s1 s2
  ·cases e
 ·cases e
theorem di {A B:Prop} (a:A) (k:A→B):A∧B:=⟨a,k a⟩
theorem s4 {ρ':Nat→Nat} {k:Nat} (hr:∀ id,id≠k→ρ' id=ρ id) {c:SV} (hc:names k c=false):bD ρ' c=bD ρ c:=by
 have one:∀ x:S0,lM k x=false→dr ρ' x=dr ρ x:=by
  intro x hx
  cases x with
  | v x=>rfl
  | p i off =>
   have:i≠k:=fun e=>by subst e; simp [lM] at hx
   simp [dr,hr i this]
 have many:∀ l:List S0,l.any (lM k)=false→l.map (dr ρ')=l.map (dr ρ):=by
  intro l hl
  refine List.map_congr_left fun x hx=>one x ?_
  have:=List.any_eq_false.1 hl x hx
  simpa using this
 cases c with
 | s x=>exact one x hc
 | f fn l m =>
  simp only [names,Bool.or_eq_false_iff] at hc
  simp [bD,many l hc.1,many m hc.2]
theorem bP.rho {bxs:List (Nat × (Nat × List SV))} {w0:World} {χ0:Nat→Nat} {ρ':Nat→Nat} {k:Nat} (H:bP w0 χ0 bxs ρ' w) (hr:∀ id,id≠k→ρ' id=ρ id) (hb:ni k ⟨[],bxs⟩=true):bP w0 χ0 bxs ρ w:=by
 refine ⟨fun id q hq=>?_,H.2⟩
 simp only [ni,List.all_nil,Bool.true_and,List.all_eq_true] at hb
 have h1:=hb _ (kj hq)
 simp only [Bool.and_eq_true,List.all_eq_true,Bool.not_eq_true'] at h1
 have hne:id≠k:=by intro e; have:=h1.1; rw [e] at this; simp at this
 have h2:=H.1 id q hq
 rw [hr id hne] at h2
 rw [h2,List.map_congr_left (fun c hc=>s4 hr (h1.2 c hc))]
def Cell (w:World) (χ:Nat→Nat) (b col t:Nat) (vals:List Value):Prop:=χ b=col∧w.heap[b]?=some (.cells vals.toArray t (0,0))
theorem Cell.mv {w w':World} {χ χ':Nat→Nat} {b col t:Nat} {vals:List Value} {p:Nat→Bool} (h:Cell w χ b col t vals) (e:Ev p w χ w' χ') (hp:p col=false):Cell w' χ' b col t vals:=by
 obtain ⟨h1,h2⟩:=h
 obtain ⟨k1,k2⟩:=e.eT b (fH h2) (by rw [h1]; exact hp)
 exact ⟨k2.trans h1,k1.trans h2⟩
theorem Cell.map {w:World} {χ:Nat→Nat} {b i j t:Nat} {vals:List Value} {f:Nat→Nat} (h:Cell w χ b i t vals) (hf:f i=j):Cell w (fun b=>f (χ b)) b j t vals :=
 ⟨by show f (χ b)=j; rw [h.1,hf],h.2⟩
theorem Cell.out {w:World} {χ χ':Nat→Nat} {b b' col i t:Nat} {vals:List Value} {f:Nat→Nat} (h:Cell w χ b col t vals) (hC:∀ b,χ b≠0→χ b≠1000→χ' b=f (χ b)) (hx:iM col=true) (hf:f col=i) (hb:b=b'):Cell w χ' b' i t vals:=by
 subst hb
 obtain ⟨h1,h2⟩:=h
 simp [iM] at hx
 exact ⟨by rw [hC b (by omega) (by omega),h1,hf],h2⟩
theorem St.cell {n:Nat} {sy:Sy} {ρ:Nat→Nat} {a:Act} {w:World} {χ:Nat→Nat} (h:St n sy ρ a w χ) {id t:Nat} {cs:List SV} (hq:look sy.boxes id=some (t,cs)):Cell w χ (ρ id) id t (cs.map (bD ρ)):=by
 obtain ⟨h1,_,h3⟩:=h.boxes id _ hq
 exact ⟨h1,h3⟩
theorem St.cQ {n:Nat} {sy:Sy} {ρ:Nat→Nat} {a:Act} {w:World} {χ:Nat→Nat} (h:St n sy ρ a w χ) {id t:Nat} {cs:List SV} (hx:iM id=true) (hc:Cell w χ (ρ id) id t (cs.map (bD ρ))) :
  St n ⟨sy.bK,(id,(t,cs)) :: sy.boxes⟩ ρ a w χ :=
 ⟨h.size,h.defers,h.bK,fun Dz q hq=>by
  rcases dQ hq with ⟨rfl,rfl⟩ | ⟨_,wG⟩
  ·exact ⟨hc.1,hx,hc.2⟩
  ·exact h.boxes Dz q wG⟩
theorem lO {α:Type} {f:Nat→Bool}:∀ {l:List (Nat × α)} {id:Nat} {q:α},look (l.filter (fun q=>f q.1)) id=some q→f id=true∧look l id=some q
 | [],_,_,h=>by cases h
 | (k,v) :: l,id,q,h=>by
  rw [List.filter_cons] at h
  split at h
  ·rename_i hk
   rcases dQ h with ⟨rfl,rfl⟩ | ⟨hne,h'⟩
   ·exact ⟨hk,by simp [look]⟩
   ·obtain ⟨h1,h2⟩:=lO h'
    refine ⟨h1,?_⟩
    simp only [look]
    cases hb:Nat.beq k id with
    | true=>exact absurd (Nat.eq_of_beq_eq_true hb) hne
    | false=>exact h2
  ·rename_i hk
   obtain ⟨h1,h2⟩:=lO h
   refine ⟨h1,?_⟩
   simp only [look]
   cases hb:Nat.beq k id with
   | true =>
    have:=Nat.eq_of_beq_eq_true hb
    subst this
    simp [h1] at hk
   | false=>exact h2
theorem St.evp {n:Nat} {sy:Sy} {ρ:Nat→Nat} {a:Act} {w:World} {χ:Nat→Nat} {p:Nat→Bool} (h:St n sy ρ a w χ) {w':World} {χ':Nat→Nat} (e:Ev p w χ w' χ'):St n ⟨sy.bK,sy.boxes.filter (fun q=>!p q.1)⟩ ρ a w' χ' :=
 ⟨h.size,h.defers,h.bK,fun id q hq=>by
  obtain ⟨hp,wG⟩:=lO (f:=fun c=>!p c) hq
  obtain ⟨h1,h2,h3⟩:=h.boxes id q wG
  have Qm:p id=false:=by simpa using hp
  obtain ⟨k1,k2⟩:=e.eT _ (fH h3) (by rw [h1]; exact Qm)
  exact ⟨k2.trans h1,h2,k1.trans h3⟩⟩
def dL:List (Nat × Nat)→Nat→Nat
 | [],c=>bif Nat.beq c 0 then 0 else 1000
 | (i,j) :: l,c=>bif Nat.beq c i then j else dL l c
def bU:List (Nat × Nat)→Nat→Nat
 | [],c=>bif Nat.beq c 0 then 0 else 1000
 | (i,j) :: l,c=>bif Nat.beq c j then i else bU l c
def pR (l:List Nat) (c:Nat):Bool:=l.any (Nat.beq c)
def dZ (l:List Nat):Prop:=l.Nodup∧∀ c∈l,c≠0∧c≠1000
theorem b0:∀ {l:List (Nat × Nat)} {c:Nat},l.all (fun q=>Nat.blt 0 q.2)=true→dL l c=0→c=0
 | [],c,_,h=>by
  simp only [dL] at h
  cases hb:Nat.beq c 0 with
  | true=>exact Nat.eq_of_beq_eq_true hb
  | false=>simp [hb] at h
 | (i,j) :: l,c,hl,h=>by
  simp only [List.all_cons,Bool.and_eq_true] at hl
  simp only [dL] at h
  cases hb:Nat.beq c i with
  | true =>
   simp only [hb,cond_true] at h
   have:=Nat.le_of_ble_eq_true hl.1
   omega
  | false =>
   simp only [hb,cond_false] at h
   exact b0 hl.2 h
theorem b5:∀ {l:List (Nat × Nat)} {c:Nat},pR (l.map (·.1)) c=false→dL l c=0∨dL l c=1000
 | [],c,_=>by
  simp only [dL]
  cases Nat.beq c 0 <;> simp
 | (i,j) :: l,c,h=>by
  simp only [pR,List.map_cons,List.any_cons,Bool.or_eq_false_iff] at h
  simp only [dL,h.1,cond_false]
  exact b5 h.2
theorem fD:∀ {l:List (Nat × Nat)},(∀ q∈l,q.1≠0)→dL l 0=0
 | [],_=>rfl
 | (i,j) :: l,h=>by
  simp only [dL]
  cases hb:Nat.beq 0 i with
  | true=>exact absurd (Nat.eq_of_beq_eq_true hb).symm (h _ (List.mem_cons_self ..))
  | false=>exact fD (fun q hq=>h q (List.mem_cons_of_mem _ hq))
theorem bQ:∀ {l:List (Nat × Nat)} (k:Nat) {i j:Nat},(l.map (·.1)).Nodup→l[k]?=some (i,j)→dL l i=j
 | [],k,i,j,_,h=>by simp at h
 | (i',j') :: l,0,i,j,_,h=>by
  simp at h
  obtain ⟨rfl,rfl⟩:=h
  simp [dL]
 | (i',j') :: l,k+1,i,j,hn,h=>by
  simp only [List.map_cons,List.nodup_cons] at hn
  simp only [List.getElem?_cons_succ] at h
  have hm:i∈l.map (·.1):=List.mem_map.2 ⟨_,List.mem_of_getElem? h,rfl⟩
  have hne:Nat.beq i i'=false:=by
   cases hb:Nat.beq i i' with
   | false=>rfl
   | true=>exact absurd ((Nat.eq_of_beq_eq_true hb) ▸ hm) hn.1
  simp only [dL,hne,cond_false]
  exact bQ k hn.2 h
structure gj (f0:Nat→Nat) (w0:World) (χc:Nat→Nat) (w:World) (χ:Nat→Nat):Prop where
 os:w.os=w0.os
 tape:w.tape=w0.tape
 output:w.output=w0.output
 size:w0.heap.size≤w.heap.size
 eT:∀ b,b < w0.heap.size→(f0 (χc b)=0∨f0 (χc b)=1000)→w.heap[b]?=w0.heap[b]?∧χ b=f0 (χc b)
theorem gj.mv {f0:Nat→Nat} {p:Nat→Bool} {w0 w w':World} {χc χ χ':Nat→Nat} (h:gj f0 w0 χc w χ) (e:Ev p w χ w' χ') (h0:p 0=false) (h1:p 1000=false):gj f0 w0 χc w' χ' :=
 ⟨e.os.trans h.os,e.tape.trans h.tape,e.output.trans h.output,Nat.le_trans h.size e.size,fun b hb hc=>by
  obtain ⟨k1,k2⟩:=h.eT b hb hc
  have:p (χ b)=false:=by rw [k2]; rcases hc with hc | hc <;> rw [hc] <;> assumption
  obtain ⟨l1,l2⟩:=e.eT b (Nat.lt_of_lt_of_le hb h.size) this
  exact ⟨l1.trans k1,l2.trans k2⟩⟩
theorem gj.start (f0:Nat→Nat) (w:World) (χc:Nat→Nat):gj f0 w χc w (fun b=>f0 (χc b)):=⟨rfl,rfl,rfl,Nat.le_refl _,fun _ _ _=>⟨rfl,rfl⟩⟩
theorem gj.leave {f0:Nat→Nat} {p:Nat→Bool} {w0 w:World} {χc χ:Nat→Nat} (h:gj f0 w0 χc w χ) (I9:∀ c,f0 c=0→c=0) (hp:∀ c,p c=false→f0 c=0∨f0 c=1000) (f:Nat→Nat) (h0:f 0=0) :
  ∃ χ',Ev p w0 χc w χ'∧M0 w χ w χ'∧(∀ b,χ b≠0→χ b≠1000→χ' b=f (χ b)):=by
 refine ⟨fun b=>if b < w0.heap.size∧(f0 (χc b)=0∨f0 (χc b)=1000) then χc b else f (χ b),⟨h.os,h.tape,h.output,h.size,fun b hb Oz=>⟨(h.eT b hb (hp _ Oz)).1,by simp [hb,hp _ Oz]⟩⟩,⟨Nat.le_refl _,fun b _ hz=>⟨rfl,?_⟩⟩,?_⟩
 ·show (if b < w0.heap.size∧(f0 (χc b)=0∨f0 (χc b)=1000) then χc b else f (χ b))=0
  split
  ·rename_i hb
   have:=(h.eT b hb.1 hb.2).2
   rw [hz] at this
   exact I9 _ this.symm
  ·rw [hz,h0]
 ·intro b hb hb1
  have:¬ (b < w0.heap.size∧(f0 (χc b)=0∨f0 (χc b)=1000)):=by
   intro ik
   have:=(h.eT b ik.1 ik.2).2
   rcases ik.2 with e | e <;> rw [e] at this
   ·exact hb this
   ·exact hb1 this
  simp [this]
def tt:Nat→List SV→List (Nat × SV)
 | _,[]=>[]
 | i,v :: l=>(i,v) :: tt (i+1) l
theorem ot:∀ (l:List SV) (i t:Nat) (sv:SV),look (tt i l) t=some sv→i≤t∧l[t - i]?=some sv
 | [],_,_,_,h=>by cases h
 | x :: l,i,t,sv,h=>by
  rcases dQ h with ⟨rfl,rfl⟩ | ⟨hne,h'⟩
  ·exact ⟨Nat.le_refl _,by simp⟩
  ·obtain ⟨h2,h3⟩:=ot l (i+1) t sv h'
   refine ⟨by omega,?_⟩
   rw [show t - i=(t - (i+1))+1 by omega]
   simpa using h3
def bu (l:List (Nat × (Nat × List SV))) (ρ:Nat→Nat) (w:World) (χ:Nat→Nat):Prop :=
 ∀ id q,look l id=some q→iM id=true∧Cell w χ (ρ id) id q.1 (q.2.map (bD ρ))
theorem bu.nil {ρ:Nat→Nat} {w:World} {χ:Nat→Nat}:bu [] ρ w χ:=fun _ _ h=>by cases h
theorem bu.cons {l:List (Nat × (Nat × List SV))} {ρ:Nat→Nat} {w:World} {χ:Nat→Nat} {id t:Nat} {cs:List SV} (hx:iM id=true) (hc:Cell w χ (ρ id) id t (cs.map (bD ρ))) (h:bu l ρ w χ):bu ((id,(t,cs)) :: l) ρ w χ:=by
 intro Dz q hq
 rcases dQ hq with ⟨rfl,rfl⟩ | ⟨_,wG⟩
 ·exact ⟨hx,hc⟩
 ·exact h Dz q wG
def Pin (l:List (Nat × Nat)) (ρ:Nat→Nat):Prop:=∀ q∈l,ρ q.1=q.2
theorem Pin.mv {l:List (Nat × Nat)} {ρ ρ':Nat→Nat} {n:Nat} (h:Pin l ρ) (hr:∀ id,n < id→ρ' id=ρ id) (hl:l.all (fun q=>Nat.blt n q.1)=true):Pin l ρ':=by
 intro q hq
 rw [hr _ (Nat.le_of_ble_eq_true (List.all_eq_true.1 hl q hq))]
 exact h q hq
theorem Pin.at {l:List (Nat × Nat)} {ρ:Nat→Nat} (h:Pin l ρ) (k:Nat) {i b:Nat} (hk:l[k]?=some (i,b)):ρ i=b:=h _ (List.mem_of_getElem? hk)
theorem fO {P:Program} {f:FuncId} {F:Func} {c:Code} (hf:P.funcs[f]?=some F) (hb:F.body=some c) {vals:List Value} {w:World} {χ:Nat→Nat} {post:World→(Nat→Nat)→Value→Prop} {p:Nat→Bool} (f0:Nat→Nat) (ρ0:Nat→Nat) {args:List SV} {bxs:List (Nat × (Nat × List SV))}
  (hn:Nat.ble args.length F.ntmps=true) (hv:args.map (bD ρ0)=vals) (hx:bu bxs ρ0 w (fun b=>f0 (χ b))) (h00:f0 0=0)
  (k:∀ a,St F.ntmps ⟨tt 0 args,bxs⟩ ρ0 a w (fun b=>f0 (χ b))→gj f0 w χ w (fun b=>f0 (χ b))→M0 w χ w (fun b=>f0 (χ b)) →
   c.wp P (qs (fun a' w'=>bodyPost P F (fun e uN=>∃ v χ',e=.returned v∧Ev p w χ uN χ'∧post uN χ' v) .ret a' w') (fun a' w'=>bodyPost P F (fun e uN=>∃ v χ',e=.returned v∧Ev p w χ uN χ'∧post uN χ' v) .ret a' w') []) a w) :
  Ret P f vals.toArray p w χ post:=by
 unfold Ret
 refine calls_of_wp hf hb ?_
 have hle:=Nat.le_of_ble_eq_true hn
 have hlen:vals.length=args.length:=by rw [← hv]; simp
 refine wp_mono (k { tmps:=vals.toArray++Array.replicate (F.ntmps - vals.toArray.size) undef,defers:=[] } ⟨by simp; omega,rfl,?_,fun id q h=>⟨(hx id q h).2.1,(hx id q h).1,(hx id q h).2.2⟩⟩ (gj.start f0 w χ) ⟨Nat.le_refl _,fun b _ h=>⟨rfl,by rw [h]; exact h00⟩⟩) ?_
 ·intro t sv h
  obtain ⟨_,h3⟩:=ot _ _ _ _ h
  have ik:=(List.getElem?_eq_some_iff.1 h3).1
  simp only [Nat.sub_zero] at h3 ik
  rw [Array.getElem?_append_left (by simp; omega)]
  rw [← hv]
  simp [h3]
 ·intro e a w q
  cases e with
  | normal=>exact q
  | ret=>exact q
  | exit id=>exact absurd q (by simp [qs,look])
  | _=>exact q.elim
theorem gW {P:Program} {tab:Tab} (T:aD P tab) {F:Func} {n:Nat} {sy:Sy} {ρ:Nat→Nat} {a:Act} {w0 w:World} {χc χ:Nat→Nat} {post:World→(Nat→Nat)→Value→Prop} {f0:Nat→Nat} {p:Nat→Bool} (h:St n sy ρ a w χ) (hO:gj f0 w0 χc w χ) (I9:∀ c,f0 c=0→c=0) (hp:∀ c,p c=false→f0 c=0∨f0 c=1000)
  (f:Nat→Nat) (h0:f 0=0) {r:List Value} (e:tB tab sy ρ F.results.toList=some r)
  (hq:∀ χ',M0 w χ w χ'→(∀ b,χ b≠0→χ b≠1000→χ' b=f (χ b))→post w χ' (one r)):bodyPost P F (fun e uN=>∃ v χ',e=.returned v∧Ev p w0 χc uN χ'∧post uN χ' v) .ret a w:=by
 obtain ⟨χ',h1,h2,h3⟩:=hO.leave I9 hp f h0
 exact Cb T h e ⟨_,χ',rfl,h1,hq χ' h2 h3⟩
theorem ma {f:Nat} {as:Array Operand} {zx:Array TypeId} {vals:List Value} {p:Nat→Bool} {post:World→(Nat→Nat)→Value→Prop} (h:St n sy ρ a w χ) (hw:ca all sy g=true) (hd:Nat.blt d n=true) (hb:aQ P f=true)
  (hv:jm sy ρ as.toList=some vals) (hc:Ret P f vals.toArray p w χ post)
  (k:∀ v a' w' χ',Ev p w χ w' χ'→post w' χ' v→St n ⟨(d,V v) :: sy.bK,sy.boxes.filter (fun q=>!p q.1)⟩ ρ a' w' χ'→K a' w') :
  wp1 P all.toArray Q ⟨some d,.call ⟨.value (.func f),as,zx⟩,ty,pos,af,g⟩ K a w:=by
 refine jP h hw (f:=f) (vals:=vals.toArray) (w1:=w) ?_ hc ?_
 ·have:as.map a.eval=vals.toArray:=by rw [← kW h hv,← Array.toList_map]
  simp [execOp,resolve,Act.eval,Deferred.ofValue,invoke,this,jR hb]
 ·intro v w' χ' h2 h3
  exact k v _ w' χ' h2 h3 ((h.evp h2).put (sv:=V v) (Nat.le_of_ble_eq_true hd))
theorem kx {f t:Nat} {as:Array Operand} {zx:Array TypeId} {fi cp:List S0} {vals:List Value} {p:Nat→Bool} {post:World→(Nat→Nat)→Value→Prop} (h:St n sy ρ a w χ) (hw:ca all sy g=true) (hd:Nat.blt d n=true) (hb:aQ P f=true)
  (hf:look sy.bK t=some (.f (.func f) fi cp)) (hv:(match jm sy ρ as.toList with | some r=>some (fi.map (dr ρ)++r++cp.map (dr ρ)) | none=>none)=some vals) (hc:Ret P f vals.toArray p w χ post)
  (k:∀ v a' w' χ',Ev p w χ w' χ'→post w' χ' v→St n ⟨(d,V v) :: sy.bK,sy.boxes.filter (fun q=>!p q.1)⟩ ρ a' w' χ'→K a' w') :
  wp1 P all.toArray Q ⟨some d,.call ⟨.value (.tmp t),as,zx⟩,ty,pos,af,g⟩ K a w:=by
 refine jP h hw (f:=f) (vals:=vals.toArray) (w1:=w) ?_ hc ?_
 ·cases hr:jm sy ρ as.toList with
  | none=>simp [hr] at hv
  | some r =>
   simp [hr] at hv
   have h1:as.map a.eval=r.toArray:=by rw [← kW h hr,← Array.toList_map]
   have h2:a.eval (.tmp t)=.func (.func f) (fi.map (dr ρ)).toArray (cp.map (dr ρ)).toArray:=h.evo (x:=.tmp t) hf
   subst hv
   simp [execOp,resolve,h2,Deferred.ofValue,invoke,h1,jR hb]
 ·intro v w' χ' h2 h3
  exact k v _ w' χ' h2 h3 ((h.evp h2).put (sv:=V v) (Nat.le_of_ble_eq_true hd))
theorem Cell.fb {w:World} {χ:Nat→Nat} {b i t col:Nat} {vals:List Value} (h:Cell w χ b i t vals) (hne:Nat.beq i col=false):Cell w (Sv.fb col χ) b i t vals:=by
 refine ⟨?_,h.2⟩
 have:¬ i=col:=by intro e; subst e; simp at hne
 simp [Sv.fb,h.1,this]
theorem Ret.tp {f:FuncId} {vals:Array Value} {col:Nat} {p:Nat→Bool} {post:World→(Nat→Nat)→Value→Prop} (h0:p 0=false) (h:Ret P f vals p w (Sv.fb col χ) post) :
  Ret P f vals p w χ (fun w' χ' v=>(∀ b,b < w.heap.size→χ' b=χ b)∧∃ uF,post w' uF v) :=
 Calls.mono h fun _ _ ⟨v,χ',h1,h2,h3⟩=>⟨v,fun b=>if b < w.heap.size then χ b else χ' b,h1,⟨h2.os,h2.tape,h2.output,h2.size,fun b hb hp=>by
  refine ⟨(h2.eT b hb ?_).1,by simp [hb]⟩
  simp only [Sv.fb]
  split
  ·exact h0
  ·exact hp⟩,fun b hb=>by simp [hb],χ',h3⟩
theorem Cell.back {w w':World} {χ χ' uF:Nat→Nat} {b i t t':Nat} {vals vals':List Value} (h:Cell w' uF b i t vals) (h0:Cell w χ b i t' vals') (hk:∀ b,b < w.heap.size→χ' b=χ b):Cell w' χ' b i t vals :=
 ⟨(hk b (fH h0.2)).trans h0.1,h.2⟩
def AtX {α:Type} (T:bW α) (w:World) (χ:Nat→Nat) (A:Addr) (x:α):Prop :=
 ∃ b o cells e fr,A=⟨b,o,none⟩∧w.heap[b]?=some (.cells cells e fr)∧T.R w χ ((cells.toList.drop o).take T.n) x
theorem GD {α:Type} {T:bW α} (TT:aD P tab) {t s:Nat} {A:Addr} {x:α} (h:St n sy ρ a w χ) (hw:ca all sy g=true) (hd:Nat.blt d n=true) (hs:look sy.bK s=some (V (.pointer (some A)))) (hA:AtX T w χ A x) (hn:T.n=1)
  (ht:pL tab t false=true) (k:∀ v a',T.R w χ [v] x→St n ⟨(d,V v) :: sy.bK,sy.boxes⟩ ρ a' w χ→K a' w) :
  wp1 P all.toArray Q ⟨some d,.load t (.tmp s),ty,pos,af,g⟩ K a w:=by
 obtain ⟨b,o,cells,e',fr,rfl,hh,gJ⟩:=hA
 obtain ⟨dd,o5,Aq⟩:=mQ TT ht
 have hlen:=T.len gJ
 rw [hn] at hlen gJ
 match hl:(cells.toList.drop o).take 1,hlen with
 | [v],_ =>
  rw [hl] at gJ
  have kV:w.cell? ⟨b,o,none⟩=some v:=by
   have:(cells.toList.drop o)[0]?=some v:=by
    have:=congrArg (fun l=>l[0]?) hl
    simpa [List.getElem?_take] using this
   simp only [World.cell?,hh]
   simpa using this
  refine fQ h hw hd (Ev.refl aL w χ) (fun _ _=>rfl) (v:=v) (w':=w) ?_ (fun a' h'=>k v a' gJ h')
  have es:a.eval (.tmp s)=.pointer (some ⟨b,o,none⟩):=h.evo (x:=.tmp s) hs
  simp [execOp,es,Instr.loadAt,Instr.sureAddr,loadVar,gb o5,Aq,kV]
theorem B8 {α:Type} {T:bW α} (TT:aD P tab) {t s:Nat} {A:Addr} {x:α} (h:St n sy ρ a w χ) (hw:ca all sy g=true) (hd:Nat.blt d n=true) (hs:look sy.bK s=some (V (.pointer (some A)))) (hA:AtX T w χ A x)
  (ht:pL tab t true=true) (kJ:pW tab t T.n=true) (k:∀ cs a',T.R w χ cs x→St n ⟨(d,V (.agg cs.toArray)) :: sy.bK,sy.boxes⟩ ρ a' w χ→K a' w) :
  wp1 P all.toArray Q ⟨some d,.load t (.tmp s),ty,pos,af,g⟩ K a w:=by
 obtain ⟨b,o,cells,e',fr,rfl,hh,gJ⟩:=hA
 obtain ⟨dd,o5,Aq⟩:=mQ TT ht
 obtain ⟨inf,hi,hm⟩:=kZ TT kJ
 have hlen:=T.len gJ
 refine fQ h hw hd (Ev.refl aL w χ) (fun _ _=>rfl) (v:=.agg ((cells.toList.drop o).take T.n).toArray) (w':=w) ?_ (fun a' h'=>k _ a' gJ h')
 have es:a.eval (.tmp s)=.pointer (some ⟨b,o,none⟩):=h.evo (x:=.tmp s) hs
 have hl:=run_loadCells_list (P:=P) w ⟨b,o,none⟩ ((cells.toList.drop o).take T.n) (fun j v hj=>by
  rw [Addr.add_lit]
  simp only [World.cell?,hh]
  rw [List.getElem?_take] at hj
  split at hj
  ·simpa [Nat.add_comm] using hj
  ·cases hj)
 rw [hlen] at hl
 simp [execOp,es,Instr.loadAt,Instr.sureAddr,loadVar,gb o5,Aq,run_sizeOf hi,hm,hl]
theorem lQ {α:Type} [Inhabited α] {T:bW α} (TT:aD P tab) {t E col:Nat} {x y:Operand} {ad:Option Addr} {xs:List α} {c:Nat} {k:IntKind} {i:Int} (h:St n sy ρ a w χ) (hw:ca all sy g=true) (hd:Nat.blt d n=true)
  (hx:evo sy x=some (V (.slice ad xs.length c))) (hy:evo sy y=some (V (.int k i))) (hO:OS T E w χ col ad xs c) (ht:pY tab t E=true) (hs:pW tab E T.n=true) (h0:0≤i) (h1:i < xs.length)
  (kk:∀ A a',AtO T E w χ col ad i.toNat A→AtX T w χ A (gi xs i)→St n ⟨(d,V (.pointer (some A))) :: sy.bK,sy.boxes⟩ ρ a' w χ→K a' w) :
  wp1 P all.toArray Q ⟨some d,.indexAddr t x y,ty,pos,af,g⟩ K a w:=by
 rcases hO.row with ⟨rfl,rfl,rfl⟩ | ⟨b,cells,rfl,hc,hh,hle,wJ,kJ,gJ⟩
 ·simp at h1; omega
 ·obtain ⟨inf,hi,hm⟩:=kZ TT hs
  have hr:=mr (P:=P) (w:=w) (c:=c) (k:=k) (ad:=some ⟨b,0,none⟩) (ko TT ht) hi hm rfl h0 h1
  rw [Nat.zero_add] at hr
  have kM:=hh
  obtain ⟨fr,hh,_⟩:=hh
  refine fQ h hw hd (Ev.refl aL w χ) (fun _ _=>rfl) (v:=.pointer (some ⟨b,i.toNat * T.n,none⟩)) (w':=w) ?_ (fun a' h'=>kk _ a' ⟨b,cells,rfl,rfl,hc,kM⟩ ⟨b,i.toNat * T.n,cells,E,fr,rfl,hh,?_⟩ h')
  ·have ex:a.eval x=.slice (some ⟨b,0,none⟩) xs.length c:=h.evo hx
   have ey:a.eval y=.int k i:=h.evo hy
   simp [execOp,ex,ey,hr]
  ·have:=gJ _ _ (qf h0 h1)
   unfold chunk at this
   rwa [Nat.zero_add] at this
def Hs (ad:Option Addr) (c l m:Nat):Option Addr:=if c=l then ad else ad.map (·.add (l * m))
theorem AN {α:Type} {T:bW α} {E col:Nat} {ad:Option Addr} {xs:List α} {c:Nat} (h:OS T E w χ col ad xs c):ad=Hs ad c 0 T.n:=by
 unfold Hs
 split
 ·rfl
 ·rcases h.row with ⟨rfl,rfl,rfl⟩ | ⟨b,cells,rfl,hc,hh,hle,wJ,kJ,gJ⟩
  ·rfl
  ·simp [Addr.add_lit]
theorem Src.take {α:Type} {T:bW α} {ad:Option Addr} {ys:List α} {c:Nat} {news:List Value} (h:Src T w χ ad ys c news) (m:Nat):Src T w χ ad (ys.take m) c (news.take (m * T.n)):=by
 refine ⟨?_,?_,?_,?_,?_⟩
 ·rw [List.length_take,List.length_take,h.len]
  rcases Nat.le_total m ys.length with hm | hm
  ·rw [Nat.min_eq_left hm,Nat.min_eq_left (Nat.mul_le_mul_right _ hm)]
  ·rw [Nat.min_eq_right hm,Nat.min_eq_right (Nat.mul_le_mul_right _ hm)]
 ·intro e
  obtain ⟨rfl,rfl⟩:=h.nil e
  simp
 ·intro A hA j u hu
  rw [List.getElem?_take] at hu
  split at hu
  ·exact h.cell A hA j u hu
  ·cases hu
 ·intro u hu
  exact h.one u (List.mem_of_mem_take hu)
 ·intro i y hy
  rw [List.getElem?_take] at hy
  split at hy
  ·rename_i hi
   have:=h.el i y hy
   have h1:=e9 (m:=T.n) hi
   rw [Nat.add_mul,Nat.one_mul] at h1
   rw [List.drop_take,List.take_take,Nat.min_eq_left (by omega)]
   exact this
  ·cases hy
structure na (κ:Type) where
 d:TypeDesc
 v:κ→Value
 inj:∀ a b,v a=v b→a=b
 isk:∀ a,MapKept.IsKey d (v a)
def kI:na Int:=⟨.int .i64,fun k=>.int .i64 k,(fun a b h=>by injection h),fun _=>rfl⟩
def aF {κ α:Type} [DecidableEq κ]:List (κ × α)→κ→Option α
 | [],_=>none
 | (j,x) :: m,k=>if j=k then some x else aF m k
def dv {κ α:Type} [DecidableEq κ]:List (κ × α)→κ→α→List (κ × α)
 | [],k,x=>[(k,x)]
 | (j,y) :: m,k,x=>if j=k then (k,x) :: m else (j,y) :: dv m k x
theorem fm {κ α:Type} [DecidableEq κ]:∀ (m:List (κ × α)) (k j:κ) (x:α),aF (dv m k x) j=if j=k then some x else aF m j
 | [],k,j,x=>by
  simp only [dv,aF]
  by_cases h:k=j
  ·rw [if_pos h,if_pos h.symm]
  ·rw [if_neg h,if_neg (fun e=>h e.symm)]
 | (i,y) :: m,k,j,x=>by
  simp only [dv]
  by_cases MJ:i=k
  ·subst MJ
   rw [if_pos rfl]
   simp only [aF]
   by_cases h:i=j
   ·rw [if_pos h,if_pos h.symm]
   ·rw [if_neg h,if_neg h,if_neg (fun e=>h e.symm)]
  ·rw [if_neg MJ]
   simp only [aF]
   by_cases h:i=j
   ·subst h
    rw [if_pos rfl,if_pos rfl,if_neg MJ]
   ·rw [if_neg h,if_neg h,fm]
def VR {α:Type} (T:bW α) (ag:Bool) (w:World) (χ:Nat→Nat) (v:Value) (x:α):Prop :=
 match ag with
 | true=>∃ cs:List Value,v=.agg cs.toArray∧T.R w χ cs x
 | false=>T.R w χ [v] x
theorem VR.mono {α:Type} {T:bW α} {ag:Bool} {w':World} {χ':Nat→Nat} {v:Value} {x:α} (m:M0 w χ w' χ') (h:VR T ag w χ v x):VR T ag w' χ' v x:=by
 cases ag with
 | true=>obtain ⟨cs,e,hr⟩:=h; exact ⟨cs,e,T.mono m hr⟩
 | false=>exact T.mono m h
def EL {κ α:Type} (R:na κ) (T:bW α) (ag:Bool) (w:World) (χ:Nat→Nat):List MapEntry→List (κ × α)→Prop
 | [],[]=>True
 | e :: es,(k,x) :: m=>e.key=R.v k∧VR T ag w χ e.val x∧EL R T ag w χ es m
 | _,_=>False
theorem EL.mono {κ α:Type} {R:na κ} {T:bW α} {ag:Bool} {w':World} {χ':Nat→Nat} (mm:M0 w χ w' χ'):∀ {es:List MapEntry} {m:List (κ × α)},EL R T ag w χ es m→EL R T ag w' χ' es m
 | [],[],h=>h
 | _ :: _,(_,_) :: _,h=>⟨h.1,h.2.1.mono mm,EL.mono mm h.2.2⟩
 | [],_ :: _,h=>h.elim
 | _ :: _,[],h=>h.elim
theorem EL.keys {κ α:Type} {R:na κ} {T:bW α} {ag:Bool}:∀ {es:List MapEntry} {m:List (κ × α)},EL R T ag w χ es m→∀ x∈es,MapKept.IsKey R.d x.key
 | [],[],_=>by simp
 | e :: es,(k,x) :: m,h=>by
  intro y hy
  rcases List.mem_cons.1 hy with rfl | hy
  ·rw [h.1]; exact R.isk k
  ·exact EL.keys h.2.2 y hy
 | [],_ :: _,h=>h.elim
 | _ :: _,[],h=>h.elim
theorem pz {κ:Type} (R:na κ) (a b:κ) [DecidableEq κ]:Instr.sameNow R.d (R.v a) (R.v b)=some (decide (a=b)):=by
 obtain ⟨r,hr,MK⟩:=MapKept.sameNow_of_keys (R.isk a) (R.isk b)
 rw [hr]
 congr 1
 rw [Bool.eq_iff_iff,MK,decide_eq_true_eq]
 exact ⟨R.inj a b,fun h=>by rw [h]⟩
theorem EL.find {κ α:Type} [DecidableEq κ] {R:na κ} {T:bW α} {ag:Bool} (k:κ):∀ {es:List MapEntry} {m:List (κ × α)} (i:Nat),EL R T ag w χ es m →
  (Instr.findNow R.d (R.v k) es i=some none∧aF m k=none∧∀ (x:α) (e:MapEntry),e.key=R.v k→VR T ag w χ e.val x→EL R T ag w χ (es++[e]) (dv m k x)) ∨
  ∃ j e x,Instr.findNow R.d (R.v k) es i=some (some (i+j,e.val))∧es[j]?=some e∧e.key=R.v k∧aF m k=some x∧VR T ag w χ e.val x ∧
   ∀ (f:MapEntry→MapEntry) (y:α),(f e).key=R.v k→VR T ag w χ (f e).val y→EL R T ag w χ (es.modify j f) (dv m k y)
 | [],[],i,_=>.inl ⟨rfl,rfl,fun x e h1 h2=>⟨h1,h2,trivial⟩⟩
 | e :: es,(j,x) :: m,i,h=>by
  obtain ⟨h1,h2,h3⟩:=h
  by_cases hk:k=j
  ·subst hk
   refine .inr ⟨0,e,x,?_,rfl,h1,by simp [aF],h2,fun f y I8 MP=>?_⟩
   ·simp only [Instr.findNow,h1,pz,decide_true,Nat.add_zero]
   ·simp only [dv,if_true,List.modify_zero_cons]
    exact ⟨I8,MP,h3⟩
  ·have hs:Instr.sameNow R.d (R.v k) e.key=some false:=by rw [h1,pz]; simp [hk]
   have xJ:¬ j=k:=fun q=>hk q.symm
   rcases EL.find k (i+1) h3 with ⟨g1,g2,g3⟩ | ⟨q,e',x',g1,g2,g3,g4,g5,g6⟩
   ·refine .inl ⟨by simp only [Instr.findNow,hs,g1],by simp only [aF,if_neg xJ,g2],fun y e' a b=>?_⟩
    simp only [dv,if_neg xJ,List.cons_append]
    exact ⟨h1,h2,g3 y e' a b⟩
   ·refine .inr ⟨q+1,e',x',?_,by simpa using g2,g3,by simp only [aF,if_neg xJ,g4],g5,fun f y a b=>?_⟩
    ·simp only [Instr.findNow,hs,g1]
     congr 3; omega
    ·simp only [dv,if_neg xJ,List.modify_succ_cons]
     exact ⟨h1,h2,g6 f y a b⟩
 | [],_ :: _,_,h=>h.elim
 | _ :: _,[],_,h=>h.elim
def OM {κ α:Type} (R:na κ) (T:bW α) (ag:Bool) (w:World) (χ:Nat→Nat) (col r:Nat) (m:List (κ × α)):Prop :=
 χ r=col∧∃ es clock,w.heap[r]?=some (.map es clock)∧EL R T ag w χ es.toList m
theorem OM.mv {κ α:Type} {R:na κ} {T:bW α} {ag:Bool} {w w':World} {χ χ':Nat→Nat} {col r:Nat} {m:List (κ × α)} {p:Nat→Bool} (h:OM R T ag w χ col r m) (e:Ev p w χ w' χ') (hp:p col=false) (h0:p 0=false):OM R T ag w' χ' col r m:=by
 obtain ⟨h1,es,clock,h2,h3⟩:=h
 obtain ⟨k1,k2⟩:=e.eT r (fH h2) (by rw [h1]; exact hp)
 exact ⟨k2.trans h1,es,clock,k1.trans h2,h3.mono (e.m0 h0)⟩
theorem pF {κ α:Type} (R:na κ) (T:bW α) (ag:Bool) (col:Nat) {t:Nat} (h:St n sy ρ a w χ) (hw:ca all sy g=true) (hd:Nat.blt d n=true)
  (k:∀ r a' w' χ',Ev aL w χ w' χ'→OM R T ag w' χ' col r ([]:List (κ × α))→St n ⟨(d,V (.map (some r))) :: sy.bK,sy.boxes⟩ ρ a' w' χ'→K a' w') :
  wp1 P all.toArray Q ⟨some d,.makeMap t none,ty,pos,af,g⟩ K a w:=by
 have ev:=oB w χ (.map #[] 0) col
 refine fQ h hw hd ev (fun _ _=>rfl) (v:=.map (some w.heap.size)) (w':=w.alloc (.map #[] 0)) ?_ (fun a' h'=>k _ a' _ _ ev ⟨by simp,#[],0,heap_alloc_new w _,trivial⟩ h')
 simp [execOp,Instr.makeMap,Result.andThen]
theorem kf {κ α:Type} [DecidableEq κ] (R:na κ) (T:bW α) (ag:Bool) {t kt et col r:Nat} {x y:Operand} {m:List (κ × α)} {z:α} (q:κ) {zv:Value} (h:St n sy ρ a w χ) (hw:ca all sy g=true) (hd:Nat.blt d n=true)
  (hx:evo sy x=some (V (.map (some r)))) (hy:evo sy y=some (V (R.v q))) (hm:P.underlying t=some (.map kt et)) (hk:P.underlying kt=some R.d) (hz:(P.info? et).bind (·.zero)=some zv) (wE:VR T ag w χ zv z) (hO:OM R T ag w χ col r m)
  (k:∀ v a',VR T ag w χ v ((aF m q).getD z)→St n ⟨(d,V v) :: sy.bK,sy.boxes⟩ ρ a' w χ→K a' w) :
  wp1 P all.toArray Q ⟨some d,.lookup t x y false,ty,pos,af,g⟩ K a w:=by
 obtain ⟨h1,es,clock,h2,h3⟩:=hO
 have ex:a.eval x=.map (some r):=h.evo hx
 have ey:a.eval y=R.v q:=h.evo hy
 obtain ⟨zs,G5,G4⟩:=Option.bind_eq_some_iff.1 hz
 have xG:(zeroValue et).run P w=.ok zv w:=by simp [zeroValue,typeInfo,G5,G4]
 rcases EL.find q 0 h3 with ⟨g1,g2,_⟩ | ⟨j,e,x',g1,g2,g3,g4,g5,_⟩
 ·refine fQ h hw hd (Ev.refl aL w χ) (fun _ _=>rfl) (v:=zv) (w':=w) ?_ (fun a' h'=>k _ a' (by rw [g2]; exact wE) h')
  simp [execOp,ex,ey,Instr.lookup,run_underlying hm,MapKept.run_getObj_map h2,MapKept.run_checkKey hk (R.isk q),MapKept.run_findKey hk g1,xG]
 ·refine fQ h hw hd (Ev.refl aL w χ) (fun _ _=>rfl) (v:=e.val) (w':=w) ?_ (fun a' h'=>k _ a' (by rw [g4]; exact g5) h')
  simp [execOp,ex,ey,Instr.lookup,run_underlying hm,MapKept.run_getObj_map h2,MapKept.run_checkKey hk (R.isk q),MapKept.run_findKey hk g1]
theorem GB {κ α:Type} [DecidableEq κ] (R:na κ) (T:bW α) (ag:Bool) {t kt et col r:Nat} {x y:Operand} {m:List (κ × α)} {z:α} (q:κ) {zv:Value} (h:St n sy ρ a w χ) (hw:ca all sy g=true) (hd:Nat.blt d n=true)
  (hx:evo sy x=some (V (.map (some r)))) (hy:evo sy y=some (V (R.v q))) (hm:P.underlying t=some (.map kt et)) (hk:P.underlying kt=some R.d) (hz:(P.info? et).bind (·.zero)=some zv) (wE:VR T ag w χ zv z) (hO:OM R T ag w χ col r m)
  (k:∀ v a',VR T ag w χ v ((aF m q).getD z)→St n ⟨(d,V (.tuple #[v,.bool (aF m q).isSome])) :: sy.bK,sy.boxes⟩ ρ a' w χ→K a' w) :
  wp1 P all.toArray Q ⟨some d,.lookup t x y true,ty,pos,af,g⟩ K a w:=by
 obtain ⟨h1,es,clock,h2,h3⟩:=hO
 have ex:a.eval x=.map (some r):=h.evo hx
 have ey:a.eval y=R.v q:=h.evo hy
 obtain ⟨zs,G5,G4⟩:=Option.bind_eq_some_iff.1 hz
 have xG:(zeroValue et).run P w=.ok zv w:=by simp [zeroValue,typeInfo,G5,G4]
 rcases EL.find q 0 h3 with ⟨g1,g2,_⟩ | ⟨j,e,x',g1,g2,g3,g4,g5,_⟩
 ·refine fQ h hw hd (Ev.refl aL w χ) (fun _ _=>rfl) (v:=.tuple #[zv,.bool (aF m q).isSome]) (w':=w) ?_ (fun a' h'=>k _ a' (by rw [g2]; exact wE) h')
  simp [execOp,ex,ey,Instr.lookup,run_underlying hm,MapKept.run_getObj_map h2,MapKept.run_checkKey hk (R.isk q),MapKept.run_findKey hk g1,xG,g2]
 ·refine fQ h hw hd (Ev.refl aL w χ) (fun _ _=>rfl) (v:=.tuple #[e.val,.bool (aF m q).isSome]) (w':=w) ?_ (fun a' h'=>k _ a' (by rw [g4]; exact g5) h')
  simp [execOp,ex,ey,Instr.lookup,run_underlying hm,MapKept.run_getObj_map h2,MapKept.run_checkKey hk (R.isk q),MapKept.run_findKey hk g1,g4]
theorem tU {κ α:Type} [DecidableEq κ] (R:na κ) (T:bW α) (ag:Bool) {t kt et col r:Nat} {x y z:Operand} {m:List (κ × α)} {v:SV} {u:α} (q:κ) (h:St n sy ρ a w χ) (hw:ca all sy g=true)
  (hx:evo sy x=some (V (.map (some r)))) (hy:evo sy y=some (V (R.v q))) (hv:evo sy z=some v) (hm:P.underlying t=some (.map kt et)) (hk:P.underlying kt=some R.d) (jF:Nat.ble 1000 col=true) (hO:OM R T ag w χ col r m) (hR:VR T ag w χ (bD ρ v) u)
  (k:∀ a' w',Ev (fZ col) w χ w' χ→OM R T ag w' χ col r (dv m q u)→St n sy ρ a' w' χ→K a' w') :
  wp1 P all.toArray Q ⟨none,.mapUpdate t x y z,ty,pos,af,g⟩ K a w:=by
 obtain ⟨h1,es,clock,h2,h3⟩:=hO
 have ex:a.eval x=.map (some r):=h.evo hx
 have ey:a.eval y=R.v q:=h.evo hy
 have ez:a.eval z=bD ρ v:=h.evo hv
 have nq:col≠0:=by have:=Nat.le_of_ble_eq_true jF; omega
 refine fL (dH h (o:=⟨none,.mapUpdate t x y z,ty,pos,af,g⟩) hw) ?_
 have fin:∀ (es':Array MapEntry) (clock':Nat),EL R T ag w χ es'.toList (dv m q u)→({ w with heap:=w.heap.setIfInBounds r (.map es' clock') }:World).heap.size=w.heap.size∧Ev (fZ col) w χ { w with heap:=w.heap.setIfInBounds r (.map es' clock') } χ∧OM R T ag { w with heap:=w.heap.setIfInBounds r (.map es' clock') } χ col r (dv m q u):=by
  intro es' clock' he
  have hs:=MapKept.heap_set (w:=w) (o':=.map es' clock') h2
  have ev:Ev (fZ col) w χ { w with heap:=w.heap.setIfInBounds r (.map es' clock') } χ:=⟨rfl,rfl,rfl,by simp,fun b' _ hp=>⟨hs.2 b' (by intro e; rw [e,h1] at hp; simp [fZ] at hp),rfl⟩⟩
  have mm:=ev.m0 (show fZ col 0=false by cases h:fZ col 0 with | false=>rfl | true=>exact absurd (Nat.eq_of_beq_eq_true h).symm nq)
  exact ⟨by simp,ev,h1,es',clock',hs.1,he.mono mm⟩
 unfold Oper.wp
 rcases EL.find q 0 h3 with ⟨g1,g2,g3⟩ | ⟨j,e,x',g1,g2,g3,g4,g5,g6⟩
 ·have gJ:=g3 u { key:=R.v q,val:=bD ρ v,born:=clock } rfl hR
  obtain ⟨_,ev,Mx⟩:=fin (es.push { key:=R.v q,val:=bD ρ v,born:=clock }) (clock+1) (by rw [Array.toList_push]; exact gJ)
  have hr:(execOp a.eval ⟨none,.mapUpdate t x y z,ty,pos,af,g⟩).run P w=.ok .skip { w with heap:=w.heap.setIfInBounds r (.map (es.push { key:=R.v q,val:=bD ρ v,born:=clock }) (clock+1)) }:=by
   simp [execOp,ex,ey,ez,Instr.mapUpdate,run_underlying hm,MapKept.run_getObj_map h2,MapKept.run_checkKey hk (R.isk q),MapKept.run_findKey hk g1,MapKept.run_setObj_map _ h2]
  rw [hr]
  exact k _ _ ev Mx (h.ev ev (cA jF))
 ·have hj:es[j]?=some e:=by simpa using g2
  have gJ:=g6 (fun e=>{ e with key:=R.v q,val:=bD ρ v }) u rfl hR
  obtain ⟨_,ev,Mx⟩:=fin (es.modify j fun e=>{ e with key:=R.v q,val:=bD ρ v }) clock (by rw [Array.toList_modify]; exact gJ)
  have hr:(execOp a.eval ⟨none,.mapUpdate t x y z,ty,pos,af,g⟩).run P w=.ok .skip { w with heap:=w.heap.setIfInBounds r (.map (es.modify j fun e=>{ e with key:=R.v q,val:=bD ρ v }) clock) }:=by
   simp [execOp,ex,ey,ez,Instr.mapUpdate,run_underlying hm,MapKept.run_getObj_map h2,MapKept.run_checkKey hk (R.isk q),MapKept.run_findKey hk g1,hj,g3,MapKept.run_keyThatStays (R.isk q),MapKept.run_setObj_map _ h2]
  rw [hr]
  exact k _ _ ev Mx (h.ev ev (cA jF))
theorem OM.map {κ α:Type} {R:na κ} {T:bW α} {ag:Bool} {i j r:Nat} {m:List (κ × α)} {f:Nat→Nat} (h:OM R T ag w χ i r m) (hf:f i=j) (m0:M0 w χ w (fun b=>f (χ b))):OM R T ag w (fun b=>f (χ b)) j r m:=by
 obtain ⟨h1,es,clock,h2,h3⟩:=h
 exact ⟨by show f (χ r)=j; rw [h1,hf],es,clock,h2,h3.mono m0⟩
theorem OM.out {κ α:Type} {R:na κ} {T:bW α} {ag:Bool} {k i r:Nat} {m:List (κ × α)} {χ':Nat→Nat} {f:Nat→Nat} (h:OM R T ag w χ k r m) (mm:M0 w χ w χ') (hC:∀ b,χ b≠0→χ b≠1000→χ' b=f (χ b)) (h0:Nat.ble 1001 k=true) (hf:f k=i):OM R T ag w χ' i r m:=by
 obtain ⟨h1,es,clock,h2,h3⟩:=h
 have:=Nat.le_of_ble_eq_true h0
 exact ⟨by rw [hC r (by omega) (by omega),h1,hf],es,clock,h2,h3.mono mm⟩
def upd (ρ:Nat→Nat) (id b:Nat) (q:Nat):Nat:=bif Nat.beq q id then b else ρ q
theorem wV {ρ:Nat→Nat} {id b:Nat}:∀ q,q≠id→upd ρ id b q=ρ q:=fun q h=>by
 unfold upd
 cases hb:Nat.beq q id with
 | true=>exact absurd (Nat.eq_of_beq_eq_true hb) h
 | false=>rfl
theorem St.oX (h:St n sy ρ a w χ) {id t b:Nat} {cs:List SV} {vals:List Value} (hno:ni id sy=true) (hx:iM id=true) (hc:Cell w χ b id t vals) (hv:cs.map (bD (upd ρ id b))=vals):St n ⟨sy.bK,(id,(t,cs)) :: sy.boxes⟩ (upd ρ id b) a w χ:=by
 unfold ni at hno
 rw [Bool.and_eq_true,List.all_eq_true,List.all_eq_true] at hno
 have mem:∀ {β:Type} {l:List (Nat × β)} {k:Nat} {v:β},look l k=some v→(k,v)∈l:=by
  intro β l
  induction l with
  | nil=>intro k v hq; cases hq
  | cons q l ih =>
   intro k v hq
   obtain ⟨k',v'⟩:=q
   rcases dQ hq with ⟨rfl,rfl⟩ | ⟨_,wG⟩
   ·exact List.mem_cons_self ..
   ·exact List.mem_cons_of_mem _ (ih wG)
 have same:∀ {c:SV},names id c=false→bD (upd ρ id b) c=bD ρ c:=fun hn=>s4 (k:=id) wV hn
 refine ⟨h.size,h.defers,fun t' sv hq=>?_,fun Dz q hq=>?_⟩
 ·have hn:=hno.1 _ (mem hq)
  simp only [Bool.not_eq_true'] at hn
  rw [same hn]
  exact h.bK t' sv hq
 ·rcases dQ hq with ⟨rfl,rfl⟩ | ⟨hne,wG⟩
  ·refine ⟨?_,hx,?_⟩
   ·show χ (upd ρ id b id)=id
    have:upd ρ id b id=b:=by simp [upd]
    rw [this]; exact hc.1
   ·show w.heap[upd ρ id b id]?=_
    have:upd ρ id b id=b:=by simp [upd]
    rw [this,hv]; exact hc.2
  ·have hb:=h.boxes Dz q wG
   have hn:=hno.2 _ (mem wG)
   rw [Bool.and_eq_true,List.all_eq_true] at hn
   have DE:upd ρ id b Dz=ρ Dz:=wV Dz (by intro e; rw [e] at hn; simp at hn)
   rw [DE]
   refine ⟨hb.1,hb.2.1,?_⟩
   have hm:q.2.map (bD (upd ρ id b))=q.2.map (bD ρ):=by
    apply List.map_congr_left
    intro c wJ
    have:=hn.2 c wJ
    simp only [Bool.not_eq_true'] at this
    exact same this
   rw [hm]
   exact hb.2.2
theorem St.CJ (h:St n sy ρ a w χ) {t:Nat} {x y:SV} (hl:look sy.bK t=some x) (hb:bD ρ x=bD ρ y):St n ⟨(t,y) :: sy.bK,sy.boxes⟩ ρ a w χ:=by
 refine ⟨h.size,h.defers,?_,h.boxes⟩
 intro t' sv e
 rcases dQ e with ⟨rfl,rfl⟩ | ⟨_,e'⟩
 ·rw [← hb]; exact h.bK _ _ hl
 ·exact h.bK _ _ e'
theorem um {α:Type} {T:bW α} {nrm ret:Act→World→Prop} {eH:List (Nat × (Act→World→Prop))} {S:World→Prop} {listed:Array Bool} {fuel:Nat} (TT:aD P tab) (q:Nat) {t E:Nat} {x hi:Operand} {ad:Option Addr} {xs:List α} {c:Nat} {kh:IntKind} {hh:Int} (h:St n sy ρ a w χ) (ou:Region.noSelect all.toArray=true) (hd:Nat.blt d n=true) (hc:(Region.free .any all.toArray listed q && (Region.ready .any all.toArray listed).contains q)=true) (ho:all[q]?=some ⟨some d,.slice t x none (some hi) none,ty,pos,af,g⟩) (hw:ca all sy g=true) (H:S w)
  (hx:evo sy x=some (V (.slice ad xs.length c))) (QH:evo sy hi=some (V (.int kh hh))) (hR:RS T w χ ad xs c) (ht:pY tab t E=true) (hs:pW tab E T.n=true) (h0:0≤hh) (h2:hh≤xs.length)
  (k:∀ zy c' a',RS T w χ zy (xs.take hh.toNat) c'→St n ⟨(d,V (.slice zy (xs.take hh.toNat).length c')) :: sy.bK,sy.boxes⟩ ρ a' w χ→Dr P all (qs nrm ret eH) S (listed.setIfInBounds q true) fuel a' w) :
  Dr P all (qs nrm ret eH) S listed (fuel+1) a w:=by
 obtain ⟨inf,HZ,hm⟩:=kZ TT hs
 have hu:=ko TT ht
 have Jd:=hR.cap
 have OL:=hR.cut (l:=0) (h:=hh.toNat) (by omega) (by omega)
 rw [List.drop_zero] at OL
 refine qu q h ou hd hc ho hw H (fun w1 _=>?_) (fun a' h'=>k _ _ a' OL h')
 have ex:a.eval x=.slice ad xs.length c:=h.evo hx
 have eh:a.eval hi=.int kh hh:=h.evo QH
 have e2:hh≤(c:Int):=by omega
 have hlen:(xs.take hh.toNat).length=hh.toNat:=by simp; omega
 rw [hlen]
 simp [execOp,ex,eh,Instr.sliceAt,Instr.slice,run_underlying hu,Instr.sliceBounds,Instr.sliceBound,asIntOf,h0,e2,run_sizeOf HZ,hm]
theorem rG {nrm ret:Act→World→Prop} {eH:List (Nat × (Act→World→Prop))} {S:World→Prop} {listed:Array Bool} {fuel:Nat} {is:List Nat} (hr:Region.ready .any all.toArray listed=is) (hne:is≠[])
  (k:∀ i∈is,∃ o,all[i]?=some o∧wp1 P all.toArray (qs nrm ret eH) o (fun a' w'=>S w'∧Dr P all (qs nrm ret eH) S (listed.setIfInBounds i true) fuel a' w') a w):Dr P all (qs nrm ret eH) S listed (fuel+1) a w:=by
 unfold Dr
 refine wpAnyH_all hr hne ?_
 intro j hj
 obtain ⟨o,ho,hk⟩:=k j hj
 unfold wpOp
 rw [List.getElem?_toArray,ho]
 exact hk
theorem kd {i:Nat} {o:Oper} {Q':Exit→Act→World→Prop} {K':Act→World→Prop} (ho:all[i]?=some o) (k:wp1 P all.toArray Q' o K' a w):∃ o,all[i]?=some o∧wp1 P all.toArray Q' o K' a w:=⟨o,ho,k⟩
theorem Af {i a b:Nat} (h:i∈[a,b]):i=a∨i=b:=by simpa using h
theorem Lp {i a b c:Nat} (h:i∈[a,b,c]):i=a∨i=b∨i=c:=by simpa using h
theorem j7 {nrm ret:Act→World→Prop} {eH:List (Nat × (Act→World→Prop))} {w0:World} {χ0:Nat→Nat} {bxs:List (Nat × (Nat × List SV))} {listed listed':Array Bool} {m fuel tc:Nat} {b:Bool} {f:Bool→Sy} (TT:aD P tab) (is bks ks:List Nat) (h:St n sy ρ a w χ) (hl:look sy.bK tc=some (B b))
  (ou:Region.noSelect all.toArray=true) (hn:Nat.ble n 999=true) (hb:mX bks sy=bxs) (H:bP w0 χ0 bxs ρ w)
  (e1:(match iP tab n all bks is listed ⟨(tc,B true) :: sy.bK,sy.boxes⟩ with | some (l,s)=>some (l,(⟨(eT ks [] s).bK,sy.boxes⟩:Sy)) | none=>none)=some (listed',f true))
  (e2:(match iP tab n all bks is listed ⟨(tc,B false) :: sy.bK,sy.boxes⟩ with | some (l,s)=>some (l,(⟨(eT ks [] s).bK,sy.boxes⟩:Sy)) | none=>none)=some (listed',f false)) (hf:m=fuel+is.length)
  (k:∀ a',St n (f b) ρ a' w χ→Dr P all (qs nrm ret eH) (bP w0 χ0 bxs ρ) listed' fuel a' w):Dr P all (qs nrm ret eH) (bP w0 χ0 bxs ρ) listed m a w:=by
 have hc:St n ⟨(tc,B b) :: sy.bK,sy.boxes⟩ ρ a w χ:=h.conv hl rfl
 cases b with
 | true=>exact take TT is bks ks hc ou hn hb H e1 hf k
 | false=>exact take TT is bks ks hc ou hn hb H e2 hf k
def noG (eH:List (Nat × (Act→World→Prop))):Bool:=eH.all (fun q=>Nat.beq (q.1 % 2) 0)
theorem BZ {eH:List (Nat × (Act→World→Prop))} (h:noG eH=true) (l:Nat):look eH (2 * l+1)=none:=by
 induction eH with
 | nil=>rfl
 | cons q eH ih =>
  obtain ⟨k,K⟩:=q
  simp only [noG,List.all_cons,Bool.and_eq_true] at h
  simp only [look]
  cases hb:Nat.beq k (2 * l+1) with
  | true=>have h1:=Nat.eq_of_beq_eq_true hb; have h2:=Nat.eq_of_beq_eq_true h.1; omega
  | false=>exact ih h.2
theorem F6 {c:Code} {nrm ret:Act→World→Prop} {eH:List (Nat × (Act→World→Prop))} (hn:noG eH=true) (h:c.wp P (qs nrm ret eH) a w):(Code.scope c).wp P (qs nrm ret eH) a w:=by
 refine wp_scope_straight (wp_mono h fun e a w q=>?_)
 cases e with
 | goto l=>simp only [qs,BZ hn] at q
 | _=>exact q
theorem F7 {l:Nat} {nrm ret:Act→World→Prop} {eH:List (Nat × (Act→World→Prop))} (h:nrm a w):(Code.label l).wp P (qs nrm ret eH) a w:=wp_label h
theorem iB {id:Nat} {l:List Oper} {K ret:Act→World→Prop} {eH:List (Nat × (Act→World→Prop))} (bks:List Nat) (hm:P.follows .mixedOrders=true) (h:St n sy ρ a w χ)
  (k:∀ w1 χ1,St n sy ρ a w1 χ1→Ev aL w χ w1 χ1→M0 w1 χ1 w1 χ1→bP w1 χ1 (mX bks sy) ρ w1→Dr P l (qs K ret eH) (bP w1 χ1 (mX bks sy) ρ) (Array.replicate l.toArray.size false) l.toArray.size a w1) :
  (Code.region id l.toArray true).wp P (qs K ret eH) a w:=drawn bks hm h (fun w1=>k w1 χ)
theorem dG {id:Nat} {l:List Oper} {y:Code} {nrm ret:Act→World→Prop} {eH:List (Nat × (Act→World→Prop))} (bks:List Nat) (hm:P.follows .mixedOrders=true) (h:St n sy ρ a w χ)
  (k:∀ w1 χ1,St n sy ρ a w1 χ1→Ev aL w χ w1 χ1→M0 w1 χ1 w1 χ1→bP w1 χ1 (mX bks sy) ρ w1→Dr P l (qs (y.wp P (qs nrm ret eH)) ret eH) (bP w1 χ1 (mX bks sy) ρ) (Array.replicate l.toArray.size false) l.toArray.size a w1) :
  (Code.seq (Code.region id l.toArray true) y).wp P (qs nrm ret eH) a w:=bg (iB bks hm h k)
theorem zt {Q:Exit→Act→World→Prop} {S:World→Prop} {listed:Array Bool} {fuel:Nat} (J:Act→World→Prop) (listed':Array Bool) (F0:Nat)
  (k1:∀ a w,J a w→Dr P all Q S listed' F0 a w) (k2:(∀ a w,J a w→Dr P all Q S listed' F0 a w)→Dr P all Q S listed fuel a w):Dr P all Q S listed fuel a w:=k2 k1
def BL (T E:Nat) (w:World) (χ:Nat→Nat) (col b:Nat) (l:List UInt8):Prop :=
 χ b=col∧∃ p v,(p=.pointer none∨p=.pointer (some ⟨b,0,none⟩))∧w.heap[b]?=some (.cells #[p,v] T (0,0))∧w.ownsRow 0 E 1 v l.length (Lib.byteCells l) ∧
  ((v=.slice none 0 0∧l=[])∨(∃ g cap,1≤cap∧v=.slice (some ⟨g,0,none⟩) l.length cap∧g≠b∧χ g=col))
theorem tM {w w':World} {E:Nat} {v:Value} {n:Nat} {xs:List Value} (h:w.ownsRow 0 E 1 v n xs) (k:∀ g cap,v=.slice (some ⟨g,0,none⟩) n cap→w'.heap[g]?=w.heap[g]?):w'.ownsRow 0 E 1 v n xs:=by
 obtain ⟨h1,h2 | ⟨g,cap,cur,hv,hB,hg,r⟩⟩:=h
 ·exact ⟨h1,.inl h2⟩
 ·exact ⟨h1,.inr ⟨g,cap,cur,hv,hB,(k g cap hv).trans hg,r⟩⟩
theorem qP {w:World} {E:Nat} {v:Value} {n g cap:Nat} {xs:List Value} (h:w.ownsRow 0 E 1 v n xs) (hv:v=.slice (some ⟨g,0,none⟩) n cap):g < w.heap.size:=by
 obtain ⟨_,⟨h2,_⟩ | ⟨g',Nf,cur,xH,_,hg,_⟩⟩:=h
 ·rw [h2] at hv; cases hv
 ·rw [xH] at hv
  simp only [Value.slice.injEq,Option.some.injEq,Addr.mk.injEq] at hv
  rw [← hv.1.1]; exact fH hg
theorem BL.mv {T E:Nat} {w w':World} {χ χ':Nat→Nat} {col b:Nat} {l:List UInt8} {p:Nat→Bool} (h:BL T E w χ col b l) (e:Ev p w χ w' χ') (hp:p col=false) (_:p 0=false):BL T E w' χ' col b l:=by
 obtain ⟨h1,q,v,hq,hb,Hb,hv⟩:=h
 obtain ⟨k1,k2⟩:=e.eT b (fH hb) (by rw [h1]; exact hp)
 refine ⟨k2.trans h1,q,v,hq,k1.trans hb,tM Hb (fun g cap xH=>?_),?_⟩
 ·rcases hv with ⟨hv,_⟩ | ⟨g',Nf,_,hv,_,hg⟩
  ·rw [hv] at xH; cases xH
  ·have ik:=qP Hb xH
   rw [hv] at xH
   simp only [Value.slice.injEq,Option.some.injEq,Addr.mk.injEq] at xH
   rw [← xH.1.1]
   exact (e.eT g' (xH.1.1 ▸ ik) (by rw [hg]; exact hp)).1
 ·rcases hv with hv | ⟨g,cap,hl,hv,hne,hg⟩
  ·exact .inl hv
  ·exact .inr ⟨g,cap,hl,hv,hne,(e.eT g (qP Hb hv) (by rw [hg]; exact hp)).2.trans hg⟩
def BN (T:Nat) (w:World) (χ:Nat→Nat) (col b:Nat):Prop:=χ b=col∧w.heap[b]?=some (.cells #[.pointer none,.slice none 0 0] T (0,0))
theorem BN.mv {T:Nat} {w w':World} {χ χ':Nat→Nat} {col b:Nat} {p:Nat→Bool} (h:BN T w χ col b) (e:Ev p w χ w' χ') (hp:p col=false) (_:p 0=false):BN T w' χ' col b:=by
 obtain ⟨k1,k2⟩:=e.eT b (fH h.2) (by rw [h.1]; exact hp)
 exact ⟨k2.trans h.1,k1.trans h.2⟩
theorem gU (TT:aD P tab) {op:Op} {sv:SV} (h:St n sy ρ a w χ) (hw:ca all sy g=true) (hd:Nat.blt d n=true) (hn:Nat.ble n 999=true) (e:jQ tab sy ⟨some d,op,ty,pos,af,g⟩=some sv)
  (k:∀ a',St n ⟨(d,sv) :: sy.bK,sy.boxes⟩ ρ a' w χ→K a' w):wp1 P all.toArray Q ⟨some d,op,ty,pos,af,g⟩ K a w:=by
 refine fL (dH h (o:=⟨some d,op,ty,pos,af,g⟩) hw) ?_
 refine yf (mem:=false) TT h (fun d' Hk=>?_) (Nat.le_of_ble_eq_true hn) (sy':=⟨(d,sv) :: sy.bK,sy.boxes⟩) (by unfold mf; rw [e]) (fun ρ' a' w' χ' hS _ hm _=>?_)
 ·cases Hk; exact Nat.le_of_ble_eq_true hd
 ·obtain ⟨rfl,rfl,rfl⟩:=hm.1 rfl
  exact k a' hS
theorem EL.len {κ α:Type} {R:na κ} {T:bW α} {ag:Bool}:∀ {es:List MapEntry} {m:List (κ × α)},EL R T ag w χ es m→es.length=m.length
 | [],[],_=>rfl
 | e :: es,(k,x) :: m,h=>by rw [List.length_cons,List.length_cons,EL.len h.2.2]
 | [],_ :: _,h=>h.elim
 | _ :: _,[],h=>h.elim
theorem Cell.ptr {w:World} {χ:Nat→Nat} {b i t id b':Nat} {ρ:Nat→Nat} (h:Cell w χ b i t [.pointer (some ⟨ρ id,0,none⟩)]) (e:ρ id=b'):Cell w χ b i t [.pointer (some ⟨b',0,none⟩)]:=by subst e; exact h
theorem OS.map {α:Type} {T:bW α} {E i j:Nat} {ad:Option Addr} {xs:List α} {c:Nat} {f:Nat→Nat} (h:OS T E w χ i ad xs c) (hf:f i=j) (m0:M0 w χ w (fun b=>f (χ b))):OS T E w (fun b=>f (χ b)) j ad xs c :=
 h.u4 m0 (fun b hb=>by show f (χ b)=j; rw [hb,hf])
theorem kr {p:Prop} (h:p:=by kernel_rfl):p:=h
@[reducible] def Sl {α:Type} (a:Option Addr) (xs:List α) (c:Nat):SV:=V (.slice a xs.length c)
@[reducible] def Z (s:List UInt8):SV:=V (.string (bs s))
def rks (sy:Sy):List Nat:=sy.bK.map (fun q=>q.1)
def rbs (sy:Sy):List Nat:=sy.boxes.map (fun q=>q.1)
theorem oP {all l:List Oper} {Q:Exit→Act→World→Prop} (T:aD P tab) (h:St n sy ρ a w χ) (m:Nat) (sy':Sy) (k:∀ a,St n sy' ρ a w χ→wpList P all.toArray Q (l.drop m) a w) (sp:List Nat:=[])
  (e:run tab false sp n all (l.take m) (rks sy') (rbs sy') sy=some sy':=by kernel_rfl):wpList P all.toArray Q l a w:=Lo T h m e k
section
variable {nrm ret:Act→World→Prop} {eH:List (Nat × (Act→World→Prop))}
theorem eP {all l:List Oper} {K:Act→World→Prop} (T:aD P tab) (h:St n sy ρ a w χ) (sy':Sy) (k:∀ a,St n sy' ρ a w χ→K a w) (sp:List Nat:=[])
  (e:run tab false sp n all l (rks sy') (rbs sy') sy=some sy':=by kernel_rfl):wpList P all.toArray (qs K ret eH) l a w:=Jw T h e k
theorem eM {all l:List Oper} {K:Act→World→Prop} (T:aD P tab) (h:St n sy ρ a w χ) (sy':Sy) (k:∀ ρ' a' w' χ',St n sy' ρ' a' w' χ'→Ev iM w χ w' χ'→(∀ id,n < id→ρ' id=ρ id)→K a' w') (sp:List Nat:=[])
  (e:run tab true sp n all l (rks sy') (rbs sy') sy=some sy':=by kernel_rfl):wpList P all.toArray (qs K ret eH) l a w:=Jx T h e k
theorem rP {id:Nat} {l:List Oper} {y:Code} (T:aD P tab) (h:St n sy ρ a w χ) (sy':Sy) (k:∀ a,St n sy' ρ a w χ→y.wp P (qs nrm ret eH) a w) (sp:List Nat:=[])
  (e:run tab false sp n l l (rks sy') (rbs sy') sy=some sy':=by kernel_rfl):(Code.seq (Code.region id l.toArray false) y).wp P (qs nrm ret eH) a w:=Lk T h e k
theorem rM {id:Nat} {l:List Oper} {y:Code} (T:aD P tab) (h:St n sy ρ a w χ) (sy':Sy) (k:∀ ρ' a' w' χ',St n sy' ρ' a' w' χ'→Ev iM w χ w' χ'→(∀ id,n < id→ρ' id=ρ id)→y.wp P (qs nrm ret eH) a' w') (sp:List Nat:=[])
  (e:run tab true sp n l l (rks sy') (rbs sy') sy=some sy':=by kernel_rfl):(Code.seq (Code.region id l.toArray false) y).wp P (qs nrm ret eH) a w:=Ll T h e k
theorem St.sl (h:St n sy ρ a w χ) (sy':Sy) (e:Sv.eT (rks sy') (rbs sy') sy=sy':=by kernel_rfl):St n sy' ρ a w χ:=h.sel _ _ e
theorem tk {w0:World} {χ0:Nat→Nat} {bxs:List (Nat × (Nat × List SV))} {listed:Array Bool} {m:Nat} (TT:aD P tab) (is bks:List Nat) (h:St n sy ρ a w χ) (H:bP w0 χ0 bxs ρ w) (listed':Array Bool) (fuel:Nat) (sy':Sy)
  (k:∀ a',St n sy' ρ a' w χ→Dr P all (qs nrm ret eH) (bP w0 χ0 bxs ρ) listed' fuel a' w)
  (ou:Region.noSelect all.toArray=true:=by kernel_rfl) (hn:Nat.ble n 999=true:=by kernel_rfl) (hb:mX bks sy=bxs:=by kernel_rfl)
  (e:(match iP tab n all bks is listed sy with | some (l,s)=>some (l,(⟨(eT (rks sy') [] s).bK,sy.boxes⟩:Sy)) | none=>none)=some (listed',sy'):=by kernel_rfl) (hf:m=fuel+is.length:=by rfl) :
  Dr P all (qs nrm ret eH) (bP w0 χ0 bxs ρ) listed m a w:=take TT is bks (rks sy') h ou hn hb H e hf k
end
theorem OS.take {α:Type} {T:bW α} {E col:Nat} {ad:Option Addr} {xs:List α} {c:Nat} (h:OS T E w χ col ad xs c) (m:Nat):OS T E w χ col ad (xs.take m) c:=by
 have hl:(xs.take m).length≤xs.length:=by rw [List.length_take]; exact Nat.min_le_right _ _
 refine ⟨Nat.le_trans (Nat.mul_le_mul_right _ hl) h.bnd,?_⟩
 rcases h.row with ⟨rfl,rfl,rfl⟩ | ⟨b,cells,h1,h2,h3,h4,h5,h6,h7⟩
 ·exact .inl ⟨rfl,by simp,rfl⟩
 ·refine .inr ⟨b,cells,h1,h2,h3,Nat.le_trans hl h4,h5,h6,fun i x hx=>?_⟩
  rw [List.getElem?_take] at hx
  split at hx
  ·exact h7 i x hx
  ·cases hx
theorem BC {α:Type} {T:bW α} (TT:aD P tab) {t E col:Nat} {x hi:Operand} {ad:Option Addr} {xs:List α} {c:Nat} {k:IntKind} {l:Int} (h:St n sy ρ a w χ) (hw:ca all sy g=true) (hd:Nat.blt d n=true)
  (hx:evo sy x=some (V (.slice ad xs.length c))) (Qx:evo sy hi=some (V (.int k l))) (hO:OS T E w χ col ad xs c) (ht:pY tab t E=true) (hs:pW tab E T.n=true) (h0:0≤l) (h1:l≤xs.length)
  (kk:∀ a',OS T E w χ col ad (xs.take l.toNat) c→St n ⟨(d,V (.slice ad (xs.take l.toNat).length c)) :: sy.bK,sy.boxes⟩ ρ a' w χ→K a' w) :
  wp1 P all.toArray Q ⟨some d,.slice t x none (some hi) none,ty,pos,af,g⟩ K a w:=by
 obtain ⟨inf,HZ,hm⟩:=kZ TT hs
 have hu:=ko TT ht
 have Jd:xs.length≤c:=by
  rcases hO.row with ⟨rfl,rfl,rfl⟩ | ⟨b,cells,rfl,hc,hh,hle,wJ,kJ,gJ⟩
  ·simp
  ·exact hle
 have ex:a.eval x=.slice ad xs.length c:=h.evo hx
 have el:a.eval hi=.int k l:=h.evo Qx
 have e2:l≤(c:Int):=by omega
 have hlen:(xs.take l.toNat).length=l.toNat:=by simp; omega
 refine fQ h hw hd (Ev.refl aL w χ) (fun _ _=>rfl) (v:=.slice ad (xs.take l.toNat).length c) (w':=w) ?_ (fun a' h'=>kk a' (hO.take _) h')
 rw [hlen]
 simp [execOp,ex,el,Instr.sliceAt,Instr.slice,run_underlying hu,Instr.sliceBounds,Instr.sliceBound,asIntOf,h0,e2,run_sizeOf HZ,hm]
 intro QR
 have xG:=AN hO
 unfold Hs at xG
 rw [if_neg QR] at xG
 simpa using xG.symm
theorem JD (TT:aD P tab) {x:Operand} {t E:Nat} (h:St n sy ρ a w χ) (hw:ca all sy g=true) (hd:Nat.blt d n=true) (hx:evo sy x=some (V (.slice none 0 0))) (ht:pY tab t E=true)
  (k:∀ a',St n ⟨(d,I 0) :: sy.bK,sy.boxes⟩ ρ a' w χ→K a' w) :
  wp1 P all.toArray Q ⟨some d,.call ⟨.builtin .cap,#[x],#[t]⟩,ty,pos,af,g⟩ K a w:=by
 refine fQ h hw hd (Ev.refl aL w χ) (fun _ _=>rfl) (v:=.int .i64 0) (w':=w) ?_ (fun a' h'=>k a' h')
 have ex:a.eval x=.slice none 0 0:=h.evo hx
 simp [execOp,resolve,invoke,builtin,ex,Builtin.cap_,run_underlying (ko TT ht),goInt]
theorem tf (z:Array Value) (n i:Nat) (hi:i < n * z.size):(Builtin.zeroCells z n)[i]?=some (z[i % z.size]!):=by
 simp [Builtin.zeroCells,hi]
theorem EO {α:Type} {T:bW α} (TT:aD P tab) {t t2 E col:Nat} {x y:Operand} {kn:IntKind} {m:Int} (zz:α) (h:St n sy ρ a w χ) (hw:ca all sy g=true) (hd:Nat.blt d n=true)
  (hx:evo sy x=some (V (.slice none 0 0))) (hy:evo sy y=some (V (.int kn m))) (ht:pY tab t E=true) (Ot:(match look tab t2 with | some ⟨_,_,_,_,.int _⟩=>true | _=>false)=true) (he:vY tab E T.n T.bytes=true) (jF:Nat.ble 1000 col=true)
  (KL:Nat.ble T.bytes 128=true) (h0:0 < m) (IZ:m≤1099511627776)
  (hz:∀ w' χ',(match look tab E with | some s=>T.R w' χ' s.zero zz | none=>False))
  (k:∀ zy c' a' w' χ',Ev aL w χ w' χ'→OS T E w' χ' col zy (List.replicate m.toNat zz) c'→St n ⟨(d,V (.slice zy (List.replicate m.toNat zz).length c')) :: sy.bK,sy.boxes⟩ ρ a' w' χ'→K a' w') :
  wp1 P all.toArray Q ⟨some d,.call ⟨.builtin .append,#[x,y],#[t,t2]⟩,ty,pos,af,g⟩ K a w:=by
 have sR:=he
 unfold vY at sR
 obtain ⟨kq,QA⟩:∃ kq,P.underlying t2=some (.int kq):=by
  split at Ot
  ·rename_i k' hl
   obtain ⟨i',d',z',HZ,Hk,SU,IU,MS,PS,OK,_,_,hk,_⟩:=cB (TT _ _ hl)
   exact ⟨_,by rw [Hk,hk _ rfl]⟩
  ·cases Ot
 cases hE:look tab E with
 | none=>rw [hE] at sR; cases sR
 | some s =>
  obtain ⟨i,dd,z,hi,o5,xG,hs,mN,lz,_⟩:=cB (TT _ _ hE)
  rw [hE] at sR
  simp only [Bool.and_eq_true] at sR
  have e1:=Nat.eq_of_beq_eq_true sR.1.1
  have e2:=Nat.eq_of_beq_eq_true sR.1.2
  have e3:=Nat.eq_of_beq_eq_true sR.2
  have Et:i.size=T.n:=hs.trans e1
  have Ce:z.cells.size=T.n:=by rw [← Array.length_toList,lz,e3]
  have hp:=T.pos
  obtain ⟨q,rfl⟩:∃ q:Nat,m=(q:Int):=⟨m.toNat,by omega⟩
  have Q0:=Nat.le_of_ble_eq_true KL
  have pI:=room (len:=q) (by omega) KL
  have hr:=Lib.run_append_nil_zeros (P:=P) w t t2 ty E i z kn kq (ko TT ht) QA hi xG q (by omega) (by omega) (by omega) (by rw [mN,e2]; omega)
  have hge:=grownCap_ge w q 0 E
  have Cq:=grownCap_le_maxLen w q 0 E (by unfold maxLen; omega)
  have ev:=oB w.drew χ (.cells (Builtin.zeroCells z.cells q++Builtin.zeroCells z.cells (grownCap w q 0 E - q)) E) col
  have OR:Ev aL w χ (w.drew.alloc (.cells (Builtin.zeroCells z.cells q++Builtin.zeroCells z.cells (grownCap w q 0 E - q)) E)) (fun b=>if w.heap.size≤b then col else χ b) :=
   ⟨rfl,rfl,rfl,by simp,fun b hb _=>⟨heap_alloc_old w.drew _ hb,by simp [show ¬ w.heap.size≤b by omega]⟩⟩
  refine fQ h hw hd OR (fun _ _=>rfl) (v:=.slice (some ⟨w.heap.size,0,none⟩) (List.replicate ((q:Int)).toNat zz).length (grownCap w q 0 E)) (w':=w.drew.alloc (.cells (Builtin.zeroCells z.cells q++Builtin.zeroCells z.cells (grownCap w q 0 E - q)) E)) ?_ (fun a' h'=>k _ _ a' _ _ OR ⟨by rw [List.length_replicate]; exact pI,.inr ⟨w.heap.size,_,rfl,by simp,.zero (heap_alloc_new w.drew _),by rw [List.length_replicate]; exact hge,Cq,?_,?_⟩⟩ h')
  ·have ex:a.eval x=.slice none 0 0:=h.evo hx
   have ey:a.eval y=.int kn q:=h.evo hy
   simp [execOp,resolve,invoke,builtin,ex,ey,hr]
  ·simp only [Array.size_append,size_zeroCells,Ce,← Nat.add_mul]
   congr 1; omega
  ·intro j x' IM
   have hj:j < q:=by have:=(List.getElem?_eq_some_iff.1 IM).1; simpa using this
   have wG:x'=zz:=by
    simp [List.getElem?_replicate] at IM; exact IM.2.symm
   subst wG
   have wE:=hz (w.drew.alloc (.cells (Builtin.zeroCells z.cells q++Builtin.zeroCells z.cells (grownCap w q 0 E - q)) E)) (fun b=>if w.heap.size≤b then col else χ b)
   rw [hE] at wE
   simp only [] at wE
   have:chunk (Builtin.zeroCells z.cells q++Builtin.zeroCells z.cells (grownCap w q 0 E - q)) 0 T.n j=s.zero:=by
    rw [← lz]
    have MI:(j+1) * T.n≤q * T.n:=Nat.mul_le_mul_right _ (by omega)
    rw [Nat.add_mul,Nat.one_mul] at MI
    apply List.ext_getElem?
    intro p
    unfold chunk
    rw [List.getElem?_take,Nat.zero_add]
    by_cases np:p < T.n
    ·rw [if_pos np,List.getElem?_drop]
     have ik:j * T.n+p < q * z.cells.size:=by rw [Ce]; omega
     have He:(j * T.n+p) % z.cells.size=p:=by rw [Ce,Nat.mul_comm,Nat.mul_add_mod,Nat.mod_eq_of_lt np]
     have Ao:p < z.cells.size:=by omega
     rw [Array.getElem?_toList,Array.getElem?_append_left (by rw [size_zeroCells]; exact ik),tf _ _ _ ik,He]
     simp [Ao]
    ·rw [if_neg np]
     symm
     rw [List.getElem?_eq_none_iff]
     simp; omega
   show T.R _ _ (chunk _ 0 T.n j) x'
   rw [this]
   exact wE
def Lg:bW Value where
 n:=1
 bytes:=24
 R:=fun _ _ cs v=>cs=[v]∧v.oneCell'=true
 pos:=Nat.le_refl _
 len:=by rintro _ _ _ _ ⟨rfl,_⟩; rfl
 one:=by rintro _ _ _ _ ⟨rfl,h⟩ u hu; simp at hu; subst hu; exact h
 mono:=by intro _ _ _ _ _ _ _ h; exact h
def RW {α:Type} (T:bW α) (E1:Nat) (w:World) (χ:Nat→Nat) (dV:Nat):List Value→List (List α)→Prop
 | [],[]=>True
 | v :: vs,x :: xs=>(match xs with | []=>∃ a c,v=.slice a x.length c∧OS T E1 w χ dV a x c | _ :: _=>∃ a c,v=.slice a x.length c∧RS T w χ a x c)∧RW T E1 w χ dV vs xs
 | [],_ :: _=>False
 | _ :: _,[]=>False
def RF {α:Type} (T:bW α) (w:World) (χ:Nat→Nat):List Value→List (List α)→Prop
 | [],[]=>True
 | v :: vs,x :: xs=>(∃ a c,v=.slice a x.length c∧RS T w χ a x c)∧RF T w χ vs xs
 | [],_ :: _=>False
 | _ :: _,[]=>False
theorem RF.m0 {α:Type} {T:bW α} {w w':World} {χ χ':Nat→Nat} (m:M0 w χ w' χ'):∀ {vs:List Value} {xs:List (List α)},RF T w χ vs xs→RF T w' χ' vs xs
 | [],[],_=>trivial
 | _ :: _,_ :: _,⟨⟨a,c,h1,h2⟩,h3⟩=>⟨⟨a,c,h1,h2.m0 m⟩,RF.m0 m h3⟩
theorem RF.mv {α:Type} {T:bW α} {w w':World} {χ χ':Nat→Nat} {p:Nat→Bool} {vs:List Value} {xs:List (List α)} (h:RF T w χ vs xs) (e:Ev p w χ w' χ') (hp:p 0=false):RF T w' χ' vs xs:=h.m0 (e.m0 hp)
theorem RF.len {α:Type} {T:bW α} {w:World} {χ:Nat→Nat}:∀ {vs:List Value} {xs:List (List α)},RF T w χ vs xs→vs.length=xs.length
 | [],[],_=>rfl
 | _ :: _,_ :: _,⟨_,h⟩=>by simp [RF.len h]
theorem RW.len {α:Type} {T:bW α} {E1 dV:Nat} {w:World} {χ:Nat→Nat}:∀ {vs:List Value} {xs:List (List α)},RW T E1 w χ dV vs xs→vs.length=xs.length
 | [],[],_=>rfl
 | _ :: _,_ :: _,⟨_,h⟩=>by simp [RW.len h]
theorem RW.mvE {α:Type} {T:bW α} {E1 dV:Nat} {w w':World} {χ χ':Nat→Nat} {p:Nat→Bool} (e:Ev p w χ w' χ') (hp:p dV=false) (h0:p 0=false):∀ {vs:List Value} {xs:List (List α)},RW T E1 w χ dV vs xs→RW T E1 w' χ' dV vs xs
 | [],[],_=>trivial
 | _ :: _,[_],⟨⟨a,c,h1,h2⟩,h3⟩=>⟨⟨a,c,h1,h2.mv e hp h0⟩,RW.mvE e hp h0 h3⟩
 | _ :: _,_ :: _ :: _,⟨⟨a,c,h1,h2⟩,h3⟩=>⟨⟨a,c,h1,h2.mv e h0⟩,RW.mvE e hp h0 h3⟩
theorem RW.nil {α:Type} (T:bW α) (E1:Nat) (w:World) (χ:Nat→Nat) (dV:Nat):RW T E1 w χ dV [] ([]:List (List α)):=trivial
theorem RW.last {α:Type} {T:bW α} {E1 dV:Nat} {w:World} {χ:Nat→Nat}:∀ {vs:List Value} {xs:List (List α)},RW T E1 w χ dV vs xs→xs≠[]→∃ KA v Ky x a c,vs=KA++[v]∧xs=Ky++[x]∧RF T w χ KA Ky∧v=.slice a x.length c∧OS T E1 w χ dV a x c
 | [],[],_,h=>absurd rfl h
 | v :: vs,[x],⟨⟨a,c,h1,h2⟩,h3⟩,_=>by
  have:vs=[]:=by cases vs with | nil=>rfl | cons _ _=>exact h3.elim
  subst this
  exact ⟨[],v,[],x,a,c,rfl,rfl,trivial,h1,h2⟩
 | v :: vs,x :: y :: xs,⟨⟨a,c,h1,h2⟩,h3⟩,_=>by
  obtain ⟨KA,v',Ky,x',a',c',e1,e2,r,e3,o⟩:=RW.last h3 (by simp)
  refine ⟨v :: KA,v',x :: Ky,x',a',c',by rw [e1]; rfl,by rw [e2]; rfl,⟨⟨a,c,h1,h2⟩,r⟩,e3,o⟩
theorem RF.push {α:Type} {T:bW α} {E1 dV:Nat} {w:World} {χ:Nat→Nat} {v:Value} {x:List α} {a:Option Addr} {c:Nat} (hv:v=.slice a x.length c) (ho:OS T E1 w χ dV a x c):∀ {vs:List Value} {xs:List (List α)},RF T w χ vs xs→RW T E1 w χ dV (vs++[v]) (xs++[x])
 | [],[],_=>⟨⟨a,c,hv,ho⟩,trivial⟩
 | [_],[_],⟨h,_⟩=>⟨h,⟨a,c,hv,ho⟩,trivial⟩
 | _ :: _ :: _,_ :: _ :: _,⟨h,k⟩=>⟨h,RF.push hv ho k⟩
 | [_],_ :: _ :: _,⟨_,k⟩=>k.elim
 | _ :: _ :: _,[_],⟨_,k⟩=>k.elim
theorem RW.freeze {α:Type} {T:bW α} {E1 dV:Nat} {w:World} {χ:Nat→Nat} (jF:dV≠0) {vs:List Value} {xs:List (List α)} (h:RW T E1 w χ dV vs xs):∃ χ',Ev (fZ dV) w χ w χ'∧RF T w χ' vs xs:=by
 have key:∀ {vs:List Value} {xs:List (List α)},RW T E1 w χ dV vs xs→RF T w (fun b=>if χ b=dV then 0 else χ b) vs xs:=by
  have m:M0 w χ w (fun b=>if χ b=dV then 0 else χ b):=⟨Nat.le_refl _,fun b _ h0=>⟨rfl,by simp [h0]⟩⟩
  intro vs
  induction vs with
  | nil=>intro xs h; cases xs with | nil=>trivial | cons _ _=>exact h.elim
  | cons v vs ih =>
   intro xs h
   match xs,h with
   | [x],⟨⟨a,c,h1,h2⟩,h3⟩=>exact ⟨⟨a,c,h1,h2.fb⟩,ih h3⟩
   | x :: y :: xs,⟨⟨a,c,h1,h2⟩,h3⟩=>exact ⟨⟨a,c,h1,h2.m0 m⟩,ih h3⟩
 have ev:Ev (fZ dV) w χ w (fun b=>if χ b=dV then 0 else χ b):=⟨rfl,rfl,rfl,Nat.le_refl _,fun b _ hp=>⟨rfl,by
  have:χ b≠dV:=by intro e; rw [e] at hp; simp [fZ] at hp
  simp [this]⟩⟩
 exact ⟨_,ev,key h⟩
theorem RF.at {α:Type} {T:bW α} {w:World} {χ:Nat→Nat}:∀ {vs:List Value} {xs:List (List α)},RF T w χ vs xs→∀ (i:Nat) (x:List α),xs[i]?=some x→∃ v a c,vs[i]?=some v∧v=.slice a x.length c∧RS T w χ a x c
 | [],[],_,i,x,h=>by simp at h
 | v :: vs,y :: xs,⟨⟨a,c,h1,h2⟩,k⟩,0,x,h=>by simp at h; subst h; exact ⟨v,a,c,rfl,h1,h2⟩
 | v :: vs,y :: xs,⟨_,k⟩,i+1,x,h=>RF.at k i x (by simpa using h)
theorem RF.rows {α:Type} {T:bW α} {E2 col:Nat} {w:World} {χ:Nat→Nat} {ad:Option Addr} {vs:List Value} {xs:List (List α)} {c:Nat} (hO:OS Lg E2 w χ col ad vs c) (h:RF T w χ vs xs):OS (cd T) E2 w χ col ad xs c:=by
 have hl:=h.len
 refine ⟨by rw [← hl]; exact hO.bnd,?_⟩
 rcases hO.row with ⟨h1,h2,h3⟩ | ⟨b,cells,h1,h2,h3,h4,h5,h6,h7⟩
 ·subst h2; exact .inl ⟨h1,List.eq_nil_of_length_eq_zero (by simpa using hl.symm),h3⟩
 ·refine .inr ⟨b,cells,h1,h2,h3,by rw [← hl]; exact h4,h5,h6,fun i x hx=>?_⟩
  obtain ⟨v,a,c',e1,e2,r⟩:=h.at i x hx
  have:=(h7 i v e1).1
  exact ⟨a,c',by rw [← e2]; exact this,r⟩
theorem RW.mv {α:Type} {T:bW α} {E1 dV:Nat} {w w':World} {χ χ':Nat→Nat} {p:Nat→Bool} {vs:List Value} {xs:List (List α)} (h:RW T E1 w χ dV vs xs) (e:Ev p w χ w' χ') (hp:p dV=false) (h0:p 0=false):RW T E1 w' χ' dV vs xs:=RW.mvE e hp h0 h
end ops
end
end Go.Sv
