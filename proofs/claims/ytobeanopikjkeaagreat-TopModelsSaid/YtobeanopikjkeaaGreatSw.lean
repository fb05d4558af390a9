/- The second part of the walk library. No condition. -/
import Derived.Test.YtobeanopikjkeaaGreatSv
namespace Go.Sv
open Go
section
variable {P:Program}
section ops
variable {tab:Tab} {n:Nat} {sy:Sy} {ρ:Nat→Nat} {a:Act} {w:World} {χ:Nat→Nat} {all:List Oper} {Q:Exit→Act→World→Prop} {K:Act→World→Prop}
variable {d ty:Nat} {pos:String} {af:Array Edge} {g:Option (Nat × Bool)}
def oM (bks:List Nat) (sy:Sy):List (Nat × (Nat × List SV)):=sy.boxes.filter (fun q=>bks.any (Nat.beq q.1))
theorem br.of (h:St n sy ρ a w χ) {bks:List Nat} {bxs:List (Nat × (Nat × List SV))} (hb:oM bks sy=bxs) {w0:World} {χ0:Nat→Nat} (hD:M0 w0 χ0 w χ):br w0 χ0 bxs ρ w:=by
 subst hb
 exact ⟨fun i q hq=>(h.boxes i q (kS hq)).2.2,fun b hb h0=>(hD.bW b hb h0).1⟩
theorem M0.ev {w0:World} {χ0:Nat→Nat} {p:Nat→Bool} {w':World} {χ':Nat→Nat} (h:M0 w0 χ0 w χ) (e:Ev p w χ w' χ') (hp:p 0=false):M0 w0 χ0 w' χ' :=
 ⟨Nat.le_trans h.size e.size,fun b hb h0=>by
  obtain ⟨k1,k2⟩:=h.bW b hb h0
  obtain ⟨l1,l2⟩:=(e.m0 hp).bW b (Nat.lt_of_lt_of_le hb h.size) k2
  exact ⟨l1.trans k1,l2⟩⟩
theorem drawn {id:Nat} {l:List Oper} {K ret:Act→World→Prop} {exs:List (Nat × (Act→World→Prop))} (bks:List Nat) (hm:P.follows .mixedOrders=true) (h:St n sy ρ a w χ)
  (k:∀ w1,St n sy ρ a w1 χ→Ev aB w χ w1 χ→M0 w1 χ w1 χ→br w1 χ (oM bks sy) ρ w1→Dr P l (qs K ret exs) (br w1 χ (oM bks sy) ρ) (Array.replicate l.toArray.size false) l.toArray.size a w1) :
  (Code.region id l.toArray true).wp P (qs K ret exs) a w:=by
 have h1:St n sy ρ a { w with drawn:=w.drawn+1 } χ:=⟨h.size,h.defers,h.bc,h.boxes⟩
 exact wp_region_held hm (k { w with drawn:=w.drawn+1 } h1 ⟨rfl,rfl,rfl,Nat.le_refl _,fun _ _ _=>⟨rfl,rfl⟩⟩ (M0.refl _ _) (br.of h1 rfl (M0.refl _ _)))
theorem take {nrm ret:Act→World→Prop} {exs:List (Nat × (Act→World→Prop))} {w0:World} {χ0:Nat→Nat} {bxs:List (Nat × (Nat × List SV))} {listed listed':Array Bool} {m fuel:Nat} {sy':Sy} (TT:bh P tab) (is bks ks:List Nat) (h:St n sy ρ a w χ)
  (oe:Region.noSelect all.toArray=true) (hn:Nat.ble n 999=true) (hb:oM bks sy=bxs) (H:br w0 χ0 bxs ρ w) (e:(match iV tab n all bks is listed sy with | some (l,s)=>some (l,(⟨(bW ks [] s).bc,sy.boxes⟩:Sy)) | none=>none)=some (listed',sy')) (hf:m=fuel+is.length)
  (k:∀ a',St n sy' ρ a' w χ→Dr P all (qs nrm ret exs) (br w0 χ0 bxs ρ) listed' fuel a' w):Dr P all (qs nrm ret exs) (br w0 χ0 bxs ρ) listed m a w:=by
 subst hb
 subst hf
 cases hs:iV tab n all bks is listed sy with
 | none=>rw [hs] at e; cases e
 | some q =>
  obtain ⟨l,s⟩:=q
  rw [hs] at e
  simp only [Option.some.injEq,Prod.mk.injEq] at e
  obtain ⟨rfl,rfl⟩:=e
  refine sD TT oe (Nat.le_of_ble_eq_true hn) is hs h H (fun a' h' hbx=>?_)
  refine k a' ?_
  refine h'.sub (fun t sv hq=>lI hq) (fun id q hq=>by rw [hbx]; exact hq)
theorem only {nrm ret:Act→World→Prop} {exs:List (Nat × (Act→World→Prop))} {S:World→Prop} {listed:Array Bool} {fuel:Nat} {o:Oper} (i:Nat) (hr:Region.ready .any all.toArray listed=[i]) (ho:all[i]?=some o)
  (k:wp1 P all.toArray (qs nrm ret exs) o (fun a' w'=>S w'∧Dr P all (qs nrm ret exs) S (listed.setIfInBounds i true) fuel a' w') a w):Dr P all (qs nrm ret exs) S listed (fuel+1) a w:=by
 unfold Dr
 refine wpAnyH_all hr (by simp) ?_
 intro j hj
 simp at hj
 subst hj
 unfold wpOp
 rw [List.getElem?_toArray,ho]
 exact k
theorem bn {nrm ret:Act→World→Prop} {exs:List (Nat × (Act→World→Prop))} {S:World→Prop} {listed:Array Bool} {fuel:Nat} (hr:Region.ready .any all.toArray listed=[]) (k:nrm a w):Dr P all (qs nrm ret exs) S listed fuel a w :=
 wpAnyH_done hr k fuel
theorem qU {nrm ret:Act→World→Prop} {exs:List (Nat × (Act→World→Prop))} {S:World→Prop} {listed:Array Bool} {fuel d:Nat} {op:Op} {v:Value} (i:Nat) (h:St n sy ρ a w χ) (oe:Region.noSelect all.toArray=true) (hd:Nat.blt d n=true)
  (hc:(Region.free .any all.toArray listed i && (Region.ready .any all.toArray listed).contains i)=true) (ho:all[i]?=some ⟨some d,op,ty,pos,af,g⟩) (hw:bK all sy g=true) (H:S w) (jZ:∀ w1,S w1→(execOp a.eval ⟨some d,op,ty,pos,af,g⟩).run P w1=.ok (.value v) w1)
  (k:∀ a',St n ⟨(d,V v) :: sy.bc,sy.boxes⟩ ρ a' w χ→Dr P all (qs nrm ret exs) S (listed.setIfInBounds i true) fuel a' w):Dr P all (qs nrm ret exs) S listed (fuel+1) a w:=by
 rw [Bool.and_eq_true] at hc
 unfold Dr
 exact wpAnyH_take (v:=v) (oi:=⟨some d,op,ty,pos,af,g⟩) (by simp [ho]) oe hc.1 hc.2 (fun c a w hq=>hq.elim) (.inl ⟨dE h (o:=⟨some d,op,ty,pos,af,g⟩) hw,jZ⟩) H (k _ (h.put (sv:=V v) (Nat.le_of_ble_eq_true hd)))
theorem eY {α:Type} [Inhabited α] {T:ct α} {nrm ret:Act→World→Prop} {exs:List (Nat × (Act→World→Prop))} {S:World→Prop} {listed:Array Bool} {fuel:Nat} (TT:bh P tab) (q:Nat) {t e:Nat} {x y:Operand} {ad:Option Addr} {xs:List α} {c:Nat} {k:IntKind} {i:Int}
  (h:St n sy ρ a w χ) (oe:Region.noSelect all.toArray=true) (hd:Nat.blt d n=true) (hc:(Region.free .any all.toArray listed q && (Region.ready .any all.toArray listed).contains q)=true) (ho:all[q]?=some ⟨some d,.indexAddr t x y,ty,pos,af,g⟩) (hw:bK all sy g=true) (H:S w)
  (hx:evo sy x=some (V (.slice ad xs.length c))) (hy:evo sy y=some (V (.int k i))) (hR:RS T w χ ad xs c) (ht:rK tab t e=true) (hs:ql tab e T.n=true) (h0:0≤i) (h1:i < xs.length)
  (kk:∀ A a',At T w χ A (gi xs i)→St n ⟨(d,V (.pointer (some A))) :: sy.bc,sy.boxes⟩ ρ a' w χ→Dr P all (qs nrm ret exs) S (listed.setIfInBounds q true) fuel a' w):Dr P all (qs nrm ret exs) S listed (fuel+1) a w:=by
 have hne:xs≠[]:=by intro e; subst e; simp at h1; omega
 obtain ⟨b,o,cells,e',fr,sh,oL,hh,gd⟩:=hR.cells hne
 obtain ⟨inf,hi,hm⟩:=kh TT hs
 have ex:a.eval x=.slice ad xs.length c:=h.evo hx
 have ey:a.eval y=.int k i:=h.evo hy
 refine qU q h oe hd hc ho hw H (v:=.pointer (some ⟨b,o+i.toNat * T.n,none⟩)) (fun w1 _=>?_) (fun a' h'=>kk _ a' ⟨b,o+i.toNat * T.n,cells,e',fr,rfl,oL,hh,gd _ _ (si h0 h1)⟩ h')
 have hr:=kM (P:=P) (w:=w1) (c:=c) (k:=k) (kA TT ht) hi hm sh h0 h1
 simp [execOp,ex,ey,hr]
theorem gu {α:Type} {T:ct α} {nrm ret:Act→World→Prop} {exs:List (Nat × (Act→World→Prop))} {w0:World} {χ0:Nat→Nat} {bxs:List (Nat × (Nat × List SV))} {ρ0:Nat→Nat} {listed:Array Bool} {fuel:Nat} (TT:bh P tab) (q:Nat) {t s:Nat} {A:Addr} {x:α} (h:St n sy ρ a w χ)
  (oe:Region.noSelect all.toArray=true) (hd:Nat.blt d n=true) (hc:(Region.free .any all.toArray listed q && (Region.ready .any all.toArray listed).contains q)=true) (ho:all[q]?=some ⟨some d,.load t (.tmp s),ty,pos,af,g⟩) (hw:bK all sy g=true) (H:br w0 χ0 bxs ρ0 w)
  (hs:look sy.bc s=some (V (.pointer (some A)))) (hA:At T w χ A x) (Ec:A.block < w0.heap.size∧χ0 A.block=0) (hn:T.n=1) (ht:ry tab t false=true)
  (k:∀ v a',T.R w χ [v] x→St n ⟨(d,V v) :: sy.bc,sy.boxes⟩ ρ a' w χ→Dr P all (qs nrm ret exs) (br w0 χ0 bxs ρ0) (listed.setIfInBounds q true) fuel a' w):Dr P all (qs nrm ret exs) (br w0 χ0 bxs ρ0) listed (fuel+1) a w:=by
 obtain ⟨b,o,cells,e',fr,rfl,oL,hh,gd⟩:=hA
 obtain ⟨dd,o0,Dp⟩:=nI TT ht
 have hlen:=T.len gd
 rw [hn] at hlen gd
 have es:a.eval (.tmp s)=.pointer (some ⟨b,o,none⟩):=h.evo (x:=.tmp s) hs
 have hb0:=H.2 b Ec.1 Ec.2
 match hl:(cells.toList.drop o).take 1,hlen with
 | [v],_ =>
  rw [hl] at gd
  have Du:cells[o]?=some v:=by
   have:=congrArg (fun l=>l[0]?) hl
   simpa [List.getElem?_take] using this
  refine qU q h oe hd hc ho hw H (v:=v) (fun w1 H1=>?_) (fun a' h'=>k v a' gd h')
  have hb1:w1.heap[b]?=some (.cells cells e' fr):=(H1.2 b Ec.1 Ec.2).trans (hb0.symm.trans hh)
  have jc:w1.cell? ⟨b,o,none⟩=some v:=by
   simp only [World.cell?,hb1]
   simpa using Du
  simp [execOp,es,Instr.loadAt,Instr.sureAddr,loadVar,fh o0,Dp,jc]
theorem qO {α:Type} {T:ct α} {nrm ret:Act→World→Prop} {exs:List (Nat × (Act→World→Prop))} {w0:World} {χ0:Nat→Nat} {bxs:List (Nat × (Nat × List SV))} {ρ0:Nat→Nat} {listed:Array Bool} {fuel:Nat} (TT:bh P tab) (q:Nat) {t s:Nat} {A:Addr} {x:α} (h:St n sy ρ a w χ)
  (oe:Region.noSelect all.toArray=true) (hd:Nat.blt d n=true) (hc:(Region.free .any all.toArray listed q && (Region.ready .any all.toArray listed).contains q)=true) (ho:all[q]?=some ⟨some d,.load t (.tmp s),ty,pos,af,g⟩) (hw:bK all sy g=true) (H:br w0 χ0 bxs ρ0 w)
  (hs:look sy.bc s=some (V (.pointer (some A)))) (hA:At T w χ A x) (Ec:A.block < w0.heap.size∧χ0 A.block=0) (ht:ry tab t true=true) (gB:ql tab t T.n=true)
  (k:∀ cs a',T.R w χ cs x→St n ⟨(d,V (.agg cs.toArray)) :: sy.bc,sy.boxes⟩ ρ a' w χ→Dr P all (qs nrm ret exs) (br w0 χ0 bxs ρ0) (listed.setIfInBounds q true) fuel a' w):Dr P all (qs nrm ret exs) (br w0 χ0 bxs ρ0) listed (fuel+1) a w:=by
 obtain ⟨b,o,cells,e',fr,rfl,oL,hh,gd⟩:=hA
 obtain ⟨dd,o0,Dp⟩:=nI TT ht
 obtain ⟨inf,hi,hm⟩:=kh TT gB
 have hlen:=T.len gd
 have es:a.eval (.tmp s)=.pointer (some ⟨b,o,none⟩):=h.evo (x:=.tmp s) hs
 have hb0:=H.2 b Ec.1 Ec.2
 refine qU q h oe hd hc ho hw H (v:=.agg ((cells.toList.drop o).take T.n).toArray) (fun w1 H1=>?_) (fun a' h'=>k _ a' gd h')
 have hb1:w1.heap[b]?=some (.cells cells e' fr):=(H1.2 b Ec.1 Ec.2).trans (hb0.symm.trans hh)
 have hl:=run_loadCells_list (P:=P) w1 ⟨b,o,none⟩ ((cells.toList.drop o).take T.n) (fun j v hj=>by
  rw [Addr.add_lit]
  simp only [World.cell?,hb1]
  rw [List.getElem?_take] at hj
  split at hj
  ·simpa [Nat.add_comm] using hj
  ·cases hj)
 rw [hlen] at hl
 simp [execOp,es,Instr.loadAt,Instr.sureAddr,loadVar,fh o0,Dp,run_sizeOf hi,hm,hl]
theorem At.here {α:Type} {T:ct α} {A:Addr} {x:α} (h:At T w χ A x):A.block < w.heap.size∧χ A.block=0:=by
 obtain ⟨b,o,cells,e',fr,rfl,oL,hh,gd⟩:=h
 exact ⟨cQ hh,oL⟩
section dlook
variable {nrm ret:Act→World→Prop} {exs:List (Nat × (Act→World→Prop))} {S:World→Prop} {listed:Array Bool} {fuel:Nat}
theorem DD (i:Nat) (TT:bh P tab) {op:BinOp} {x y:Operand} {t yt:Nat} {xs ys:List Value} {r b:Bool} (h:St n sy ρ a w χ) (oe:Region.noSelect all.toArray=true) (hd:Nat.blt d n=true) (hc:(Region.free .any all.toArray listed i && (Region.ready .any all.toArray listed).contains i)=true) (BW:all[i]?=some ⟨some d,.binOp op t x y yt,ty,pos,af,g⟩) (hw:bK all sy g=true) (H:S w)
  (hx:evo sy x=some (V (.agg xs.toArray))) (hy:evo sy y=some (V (.agg ys.toArray))) (hf:pP P t xs=true) (hn:nf tab t=some xs.length) (he:gq xs ys=some r) (ho:(match op with | .eql=>some r | .neq=>some (!r) | _=>none)=some b)
  (kk:∀ a',St n ⟨(d,V (.bool b)) :: sy.bc,sy.boxes⟩ ρ a' w χ→Dr P all (qs nrm ret exs) S (listed.setIfInBounds i true) fuel a' w):Dr P all (qs nrm ret exs) S listed (fuel+1) a w:=by
 refine qU i h oe hd hc BW hw H (fun w1 _=>?_) kk
 have ex:a.eval x=.agg xs.toArray:=h.evo hx
 have ey:a.eval y=.agg ys.toArray:=h.evo hy
 obtain ⟨fs,hu,h1,h2,h3⟩:=sk hf
 have hlen:∀ fs,P.underlying t=some (.struct fs)→xs.length=fs.size:=by
  intro UQ hu'
  unfold nf at hn
  split at hn
  ·rename_i Qu oJ
   obtain ⟨i,dd,z,hi,o0,hz,Oh,jz,iS,fG,gP,_⟩:=bl (TT _ _ oJ)
   obtain ⟨l,rfl,hm⟩:=gP _ rfl
   rw [o0] at hu'
   cases hu'
   have:=pE hm
   simp at hn
   rw [← hn,this,Array.length_toList]
  ·cases hn
 have hq:=lZ (w:=w1) hf he hlen
 cases op with
 | eql =>
  simp at ho; subst ho
  simp only [execOp,ex,ey,Sem.run_bind,run_eqGuard_agg w1 .eql t x y _ _ h2,Result.andThen_ok,run_eql_struct,hq,Sem.run_pure]
 | neq =>
  have hb:b=!r:=(Option.some.inj ho).symm
  subst hb
  simp only [execOp,ex,ey,Sem.run_bind,run_eqGuard_agg w1 .neq t x y _ _ h2,Result.andThen_ok,run_neq_struct,hq,Sem.run_pure]
 | _=>simp at ho
theorem gN {α β:Type} {T:ct α} {TF:ct β} (i:Nat) (TT:bh P tab) {t s f off fsz ft:Nat} {A:Addr} {x:α} {y:β} (h:St n sy ρ a w χ) (oe:Region.noSelect all.toArray=true) (hd:Nat.blt d n=true) (hc:(Region.free .any all.toArray listed i && (Region.ready .any all.toArray listed).contains i)=true) (ho:all[i]?=some ⟨some d,.fieldAddr t (.tmp s) f,ty,pos,af,g⟩) (hw:bK all sy g=true) (H:S w)
  (hs:look sy.bc s=some (V (.pointer (some A)))) (hA:At T w χ A x)
  (ht:(match look tab t with | some ⟨_,_,_,_,.struct fs⟩=>fs[f]? | _=>none)=some (off,fsz,ft)) (gB:Nat.beq fsz TF.n=true) (hle:Nat.ble (off+TF.n) T.n=true) (hF:∀ cs,T.R w χ cs x→TF.R w χ ((cs.drop off).take TF.n) y)
  (k:∀ A' a',At TF w χ A' y→A'.block=A.block→St n ⟨(d,V (.pointer (some A'))) :: sy.bc,sy.boxes⟩ ρ a' w χ→Dr P all (qs nrm ret exs) S (listed.setIfInBounds i true) fuel a' w):Dr P all (qs nrm ret exs) S listed (fuel+1) a w:=by
 obtain ⟨b,o,cells,e',fr,rfl,oL,hh,gd⟩:=hA
 have es:a.eval (.tmp s)=.pointer (some ⟨b,o,none⟩):=h.evo (x:=.tmp s) hs
 split at ht
 ·rename_i fs oJ
  obtain ⟨i',dd,z,hi,o0,hz,Oh,jz,iS,fG,gP,_⟩:=bl (TT _ _ oJ)
  obtain ⟨l,rfl,hm⟩:=gP _ rfl
  obtain ⟨fd,sg,tz⟩:=ja hm f _ ht
  simp only [Option.map_eq_some_iff,Prod.mk.injEq] at tz
  obtain ⟨j,hj,rfl,rfl,rfl⟩:=tz
  have Up:=Nat.eq_of_beq_eq_true gB
  have hne:¬ j.size=0:=by have:=TF.pos; omega
  have PY:=Nat.le_of_ble_eq_true hle
  simp only [Array.getElem?_toList] at sg
  refine qU i h oe hd hc ho hw H (v:=.pointer (some ⟨b,o+fd.offset,none⟩)) (fun w1 _=>?_) (fun a' h'=>k _ a' ⟨b,o+fd.offset,cells,e',fr,rfl,oL,hh,?_⟩ rfl h')
  ·simp [execOp,es,Instr.fieldAt,run_underlying o0,sg,Instr.sureAddr,fieldPlace,run_sizeOf hj,hne,Addr.add_lit]
  ·have:=hF _ gd
   rw [List.drop_take,List.take_take,List.drop_drop,Nat.min_eq_left (by omega)] at this
   exact this
 ·cases ht
end dlook
theorem AB (TT:bh P tab) {t:Nat} {sy':Sy} (h:St n sy ρ a w χ) (hw:bK all sy g=true) (hd:Nat.blt d n=true) (hn:Nat.ble n 999=true) (e:mH tab true sy ⟨some d,.alloc t,ty,pos,af,g⟩=some sy')
  (k:∀ ρ' a' w' χ',St n sy' ρ' a' w' χ'→Ev ia w χ w' χ'→(∀ id,id≠d+1→ρ' id=ρ id)→K a' w'):wp1 P all.toArray Q ⟨some d,.alloc t,ty,pos,af,g⟩ K a w:=by
 refine gR (dE h (o:=⟨some d,.alloc t,ty,pos,af,g⟩) hw) ?_
 unfold mH at e
 simp only [jO,cond_true] at e
 cases ht:look tab t with
 | none=>simp [ht] at e
 | some Hs =>
  simp only [ht] at e
  obtain ⟨i,dd,zv,hi,o0,hz,hs,jz,iS,fG,_⟩:=bl (TT _ _ ht)
  have Z2:d < n:=Nat.le_of_ble_eq_true hd
  have Ue:=Nat.le_of_ble_eq_true hn
  obtain ⟨s1,s2⟩:=h.box Z2 (by simp [ia]; omega) e (by intro c hc; obtain ⟨y,_,rfl⟩:=List.mem_map.1 hc; rfl)
  have hr:(execOp a.eval ⟨some d,.alloc t,ty,pos,af,g⟩).run P w=.ok (.value (.pointer (some ⟨w.heap.size,0,none⟩))) (w.alloc (.cells ((Hs.zero.map V).map (bj ρ)).toArray t)):=by
   rw [ky]
   have Gt:zv.cells=Hs.zero.toArray:=by rw [← iS]
   simp [execOp,Instr.alloc,newVar,newRow,zeroValue,typeInfo,hi,hz,Gt]
  unfold Oper.wp
  rw [hr]
  simp only [Oper.upon]
  exact k _ _ _ _ s1 s2 (fun id hne=>if_neg hne)
theorem zd (TT:bh P tab) {t:Nat} {x y:Operand} {sy':Sy} (h:St n sy ρ a w χ) (hw:bK all sy g=true) (hn:Nat.ble n 999=true) (e:mH tab true sy ⟨none,.store t x y,ty,pos,af,g⟩=some sy')
  (k:∀ a' w' χ',St n sy' ρ a' w' χ'→Ev ia w χ w' χ'→K a' w'):wp1 P all.toArray Q ⟨none,.store t x y,ty,pos,af,g⟩ K a w:=by
 refine gR (dE h (o:=⟨none,.store t x y,ty,pos,af,g⟩) hw) ?_
 unfold mH at e
 simp only [jO,cond_true] at e
 split at e
 ·rename_i id off v Hs hx hy ht
  split at e
  ·rename_i bt cs hb
   obtain ⟨hc,rfl⟩:=kF e
   simp only [Bool.and_eq_true,List.all_eq_true] at hc
   obtain ⟨⟨c1,c2⟩,c3⟩:=hc
   have c1:=Nat.eq_of_beq_eq_true c1
   have c2:=Nat.le_of_ble_eq_true c2
   obtain ⟨i,dd,zv,hi,o0,hz,hs,jz,iS,fG,_⟩:=bl (TT _ _ ht)
   obtain ⟨s1,s2⟩:=h.wr (off:=off) (new:=cellsOf v) hb
   obtain ⟨_,_,jH⟩:=h.boxes id _ hb
   have hcl:=mr (ρ:=ρ) v
   have gB:(bj ρ v).cells.size=i.size:=by rw [← Array.length_toList,hcl,List.length_map,hs,c1]
   have rO:∀ u∈(cellsOf v).map (bj ρ),u.oneCell'=true:=by
    intro u hu
    obtain ⟨c,hc,rfl⟩:=List.mem_map.1 hu
    have:=c3 c hc
    match c,this with
    | .s (.v (.bool _)),_ | .s (.v (.int _ _)),_ | .s (.v (.float _ _)),_ | .s (.v (.complex _ _ _)),_ | .s (.v (.string _)),_ | .s (.v (.pointer _)),_ | .s (.v (.slice _ _ _)),_ | .s (.v (.map _)),_ | .s (.v (.chan _)),_
    | .s (.v (.func _ _ _)),_ | .s (.v .nilFunc),_ | .s (.v (.iface _ _)),_ | .s (.v .nilIface),_=>rfl
    | .s (.p _ _),_=>rfl
    | .f _ _ _,_=>rfl
   have gP:=run_storeCells_at P (ρ id) off bt ((cellsOf v).map (bj ρ)) 0 _ w jH (by simp; omega) rO
   simp only [Nat.add_zero,List.length_map] at gP
   have hr:(execOp a.eval ⟨none,.store t x y,ty,pos,af,g⟩).run P w=.ok .skip (w.setRow (ρ id) ((cs.map (bj ρ)).take off++(cellsOf v).map (bj ρ)++(cs.map (bj ρ)).drop (off+(cellsOf v).length)).toArray):=by
    have Ac:(storeVar t ⟨ρ id,off,none⟩ (bj ρ v)).run P w=.ok () (w.setRow (ρ id) ((cs.map (bj ρ)).take off++(cellsOf v).map (bj ρ)++(cs.map (bj ρ)).drop (off+(cellsOf v).length)).toArray):=by
     simp only [storeVar,Sem.run_bind,run_sizeOf hi,Result.andThen_ok,gB,ne_eq,not_true_eq_false,if_false,hcl]
     exact gP
    have TZ:a.eval x=.pointer (some ⟨ρ id,off,none⟩):=h.evo hx
    simp only [execOp,TZ,h.evo hy,Instr.storeAt,Instr.sureAddr,Sem.run_bind,Sem.run_pure,Result.andThen_ok,Ac]
   unfold Oper.wp
   rw [hr]
   simp only [Oper.upon]
   exact k _ _ _ s1 s2
  ·cases e
 ·cases e
theorem cm {A B:Prop} (a:A) (k:A→B):A∧B:=⟨a,k a⟩
theorem vh {ρ':Nat→Nat} {k:Nat} (hr:∀ id,id≠k→ρ' id=ρ id) {c:SV} (hc:names k c=false):bj ρ' c=bj ρ c:=by
 have one:∀ x:S0,kx k x=false→cM ρ' x=cM ρ x:=by
  intro x hx
  cases x with
  | v x=>rfl
  | p i off =>
   have:i≠k:=fun e=>by subst e; simp [kx] at hx
   simp [cM,hr i this]
 have many:∀ l:List S0,l.any (kx k)=false→l.map (cM ρ')=l.map (cM ρ):=by
  intro l hl
  refine List.map_congr_left fun x hx=>one x ?_
  have:=List.any_eq_false.1 hl x hx
  simpa using this
 cases c with
 | s x=>exact one x hc
 | f fn l m =>
  simp only [names,Bool.or_eq_false_iff] at hc
  simp [bj,many l hc.1,many m hc.2]
theorem br.rho {bxs:List (Nat × (Nat × List SV))} {w0:World} {χ0:Nat→Nat} {ρ':Nat→Nat} {k:Nat} (H:br w0 χ0 bxs ρ' w) (hr:∀ id,id≠k→ρ' id=ρ id) (hb:nW k ⟨[],bxs⟩=true):br w0 χ0 bxs ρ w:=by
 refine ⟨fun id q hq=>?_,H.2⟩
 simp only [nW,List.all_nil,Bool.true_and,List.all_eq_true] at hb
 have h1:=hb _ (il hq)
 simp only [Bool.and_eq_true,List.all_eq_true,Bool.not_eq_true'] at h1
 have hne:id≠k:=by intro e; have:=h1.1; rw [e] at this; simp at this
 have h2:=H.1 id q hq
 rw [hr id hne] at h2
 rw [h2,List.map_congr_left (fun c hc=>vh hr (h1.2 c hc))]
def Cell (w:World) (χ:Nat→Nat) (b col t:Nat) (vals:List Value):Prop:=χ b=col∧w.heap[b]?=some (.cells vals.toArray t (0,0))
theorem Cell.map {w:World} {χ:Nat→Nat} {b i j t:Nat} {vals:List Value} {f:Nat→Nat} (h:Cell w χ b i t vals) (hf:f i=j):Cell w (fun b=>f (χ b)) b j t vals :=
 ⟨by show f (χ b)=j; rw [h.1,hf],h.2⟩
theorem Cell.out {w:World} {χ χ':Nat→Nat} {b b' col i t:Nat} {vals:List Value} {f:Nat→Nat} (h:Cell w χ b col t vals) (hC:∀ b,χ b≠0→χ b≠1000→χ' b=f (χ b)) (hx:ia col=true) (hf:f col=i) (hb:b=b'):Cell w χ' b' i t vals:=by
 subst hb
 obtain ⟨h1,h2⟩:=h
 simp [ia] at hx
 exact ⟨by rw [hC b (by omega) (by omega),h1,hf],h2⟩
theorem St.cell {n:Nat} {sy:Sy} {ρ:Nat→Nat} {a:Act} {w:World} {χ:Nat→Nat} (h:St n sy ρ a w χ) {id t:Nat} {cs:List SV} (hq:look sy.boxes id=some (t,cs)):Cell w χ (ρ id) id t (cs.map (bj ρ)):=by
 obtain ⟨h1,_,h3⟩:=h.boxes id _ hq
 exact ⟨h1,h3⟩
theorem St.cZ {n:Nat} {sy:Sy} {ρ:Nat→Nat} {a:Act} {w:World} {χ:Nat→Nat} (h:St n sy ρ a w χ) {id t:Nat} {cs:List SV} (hx:ia id=true) (hc:Cell w χ (ρ id) id t (cs.map (bj ρ))) :
  St n ⟨sy.bc,(id,(t,cs)) :: sy.boxes⟩ ρ a w χ :=
 ⟨h.size,h.defers,h.bc,fun D8 q hq=>by
  rcases dv hq with ⟨rfl,rfl⟩ | ⟨_,BT⟩
  ·exact ⟨hc.1,hx,hc.2⟩
  ·exact h.boxes D8 q BT⟩
theorem mh {α:Type} {f:Nat→Bool}:∀ {l:List (Nat × α)} {id:Nat} {q:α},look (l.filter (fun q=>f q.1)) id=some q→f id=true∧look l id=some q
 | [],_,_,h=>by cases h
 | (k,v) :: l,id,q,h=>by
  rw [List.filter_cons] at h
  split at h
  ·rename_i hk
   rcases dv h with ⟨rfl,rfl⟩ | ⟨hne,h'⟩
   ·exact ⟨hk,by simp [look]⟩
   ·obtain ⟨h1,h2⟩:=mh h'
    refine ⟨h1,?_⟩
    simp only [look]
    cases hb:Nat.beq k id with
    | true=>exact absurd (Nat.eq_of_beq_eq_true hb) hne
    | false=>exact h2
  ·rename_i hk
   obtain ⟨h1,h2⟩:=mh h
   refine ⟨h1,?_⟩
   simp only [look]
   cases hb:Nat.beq k id with
   | true =>
    have:=Nat.eq_of_beq_eq_true hb
    subst this
    simp [h1] at hk
   | false=>exact h2
theorem St.evp {n:Nat} {sy:Sy} {ρ:Nat→Nat} {a:Act} {w:World} {χ:Nat→Nat} {p:Nat→Bool} (h:St n sy ρ a w χ) {w':World} {χ':Nat→Nat} (e:Ev p w χ w' χ'):St n ⟨sy.bc,sy.boxes.filter (fun q=>!p q.1)⟩ ρ a w' χ' :=
 ⟨h.size,h.defers,h.bc,fun id q hq=>by
  obtain ⟨hp,BT⟩:=mh (f:=fun c=>!p c) hq
  obtain ⟨h1,h2,h3⟩:=h.boxes id q BT
  have hp':p id=false:=by simpa using hp
  obtain ⟨k1,k2⟩:=e.bW _ (cQ h3) (by rw [h1]; exact hp')
  exact ⟨k2.trans h1,h2,k1.trans h3⟩⟩
def eH:List (Nat × Nat)→Nat→Nat
 | [],c=>bif Nat.beq c 0 then 0 else 1000
 | (i,j) :: l,c=>bif Nat.beq c i then j else eH l c
def dC:List (Nat × Nat)→Nat→Nat
 | [],c=>bif Nat.beq c 0 then 0 else 1000
 | (i,j) :: l,c=>bif Nat.beq c j then i else dC l c
def pR (l:List Nat) (c:Nat):Bool:=l.any (Nat.beq c)
def dL (l:List Nat):Prop:=l.Nodup∧∀ c∈l,c≠0∧c≠1000
theorem cw:∀ {l:List (Nat × Nat)} {c:Nat},l.all (fun q=>Nat.blt 0 q.2)=true→eH l c=0→c=0
 | [],c,_,h=>by
  simp only [eH] at h
  cases hb:Nat.beq c 0 with
  | true=>exact Nat.eq_of_beq_eq_true hb
  | false=>simp [hb] at h
 | (i,j) :: l,c,hl,h=>by
  simp only [List.all_cons,Bool.and_eq_true] at hl
  simp only [eH] at h
  cases hb:Nat.beq c i with
  | true =>
   simp only [hb,cond_true] at h
   have:=Nat.le_of_ble_eq_true hl.1
   omega
  | false =>
   simp only [hb,cond_false] at h
   exact cw hl.2 h
theorem cz:∀ {l:List (Nat × Nat)} {c:Nat},pR (l.map (·.1)) c=false→eH l c=0∨eH l c=1000
 | [],c,_=>by
  simp only [eH]
  cases Nat.beq c 0 <;> simp
 | (i,j) :: l,c,h=>by
  simp only [pR,List.map_cons,List.any_cons,Bool.or_eq_false_iff] at h
  simp only [eH,h.1,cond_false]
  exact cz h.2
theorem fC:∀ {l:List (Nat × Nat)},(∀ q∈l,q.1≠0)→eH l 0=0
 | [],_=>rfl
 | (i,j) :: l,h=>by
  simp only [eH]
  cases hb:Nat.beq 0 i with
  | true=>exact absurd (Nat.eq_of_beq_eq_true hb).symm (h _ (List.mem_cons_self ..))
  | false=>exact fC (fun q hq=>h q (List.mem_cons_of_mem _ hq))
theorem cr:∀ {l:List (Nat × Nat)} (k:Nat) {i j:Nat},(l.map (·.1)).Nodup→l[k]?=some (i,j)→eH l i=j
 | [],k,i,j,_,h=>by simp at h
 | (i',j') :: l,0,i,j,_,h=>by
  simp at h
  obtain ⟨rfl,rfl⟩:=h
  simp [eH]
 | (i',j') :: l,k+1,i,j,hn,h=>by
  simp only [List.map_cons,List.nodup_cons] at hn
  simp only [List.getElem?_cons_succ] at h
  have hm:i∈l.map (·.1):=List.mem_map.2 ⟨_,List.mem_of_getElem? h,rfl⟩
  have hne:Nat.beq i i'=false:=by
   cases hb:Nat.beq i i' with
   | false=>rfl
   | true=>exact absurd ((Nat.eq_of_beq_eq_true hb) ▸ hm) hn.1
  simp only [eH,hne,cond_false]
  exact cr k hn.2 h
structure iR (f0:Nat→Nat) (w0:World) (χc:Nat→Nat) (w:World) (χ:Nat→Nat):Prop where
 os:w.os=w0.os
 tape:w.tape=w0.tape
 output:w.output=w0.output
 size:w0.heap.size≤w.heap.size
 bW:∀ b,b < w0.heap.size→(f0 (χc b)=0∨f0 (χc b)=1000)→w.heap[b]?=w0.heap[b]?∧χ b=f0 (χc b)
theorem iR.mv {f0:Nat→Nat} {p:Nat→Bool} {w0 w w':World} {χc χ χ':Nat→Nat} (h:iR f0 w0 χc w χ) (e:Ev p w χ w' χ') (h0:p 0=false) (h1:p 1000=false):iR f0 w0 χc w' χ' :=
 ⟨e.os.trans h.os,e.tape.trans h.tape,e.output.trans h.output,Nat.le_trans h.size e.size,fun b hb hc=>by
  obtain ⟨k1,k2⟩:=h.bW b hb hc
  have:p (χ b)=false:=by rw [k2]; rcases hc with hc | hc <;> rw [hc] <;> assumption
  obtain ⟨l1,l2⟩:=e.bW b (Nat.lt_of_lt_of_le hb h.size) this
  exact ⟨l1.trans k1,l2.trans k2⟩⟩
theorem iR.start (f0:Nat→Nat) (w:World) (χc:Nat→Nat):iR f0 w χc w (fun b=>f0 (χc b)):=⟨rfl,rfl,rfl,Nat.le_refl _,fun _ _ _=>⟨rfl,rfl⟩⟩
theorem iR.leave {f0:Nat→Nat} {p:Nat→Bool} {w0 w:World} {χc χ:Nat→Nat} (h:iR f0 w0 χc w χ) (P9:∀ c,f0 c=0→c=0) (hp:∀ c,p c=false→f0 c=0∨f0 c=1000) (f:Nat→Nat) (h0:f 0=0) :
  ∃ χ',Ev p w0 χc w χ'∧M0 w χ w χ'∧(∀ b,χ b≠0→χ b≠1000→χ' b=f (χ b)):=by
 refine ⟨fun b=>if b < w0.heap.size∧(f0 (χc b)=0∨f0 (χc b)=1000) then χc b else f (χ b),⟨h.os,h.tape,h.output,h.size,fun b hb WB=>⟨(h.bW b hb (hp _ WB)).1,by simp [hb,hp _ WB]⟩⟩,⟨Nat.le_refl _,fun b _ hz=>⟨rfl,?_⟩⟩,?_⟩
 ·show (if b < w0.heap.size∧(f0 (χc b)=0∨f0 (χc b)=1000) then χc b else f (χ b))=0
  split
  ·rename_i hb
   have:=(h.bW b hb.1 hb.2).2
   rw [hz] at this
   exact P9 _ this.symm
  ·rw [hz,h0]
 ·intro b hb hb1
  have:¬ (b < w0.heap.size∧(f0 (χc b)=0∨f0 (χc b)=1000)):=by
   intro eS
   have:=(h.bW b eS.1 eS.2).2
   rcases eS.2 with e | e <;> rw [e] at this
   ·exact hb this
   ·exact hb1 this
  simp [this]
def pe:Nat→List SV→List (Nat × SV)
 | _,[]=>[]
 | i,v :: l=>(i,v) :: pe (i+1) l
theorem jX:∀ (l:List SV) (i t:Nat) (sv:SV),look (pe i l) t=some sv→i≤t∧l[t - i]?=some sv
 | [],_,_,_,h=>by cases h
 | x :: l,i,t,sv,h=>by
  rcases dv h with ⟨rfl,rfl⟩ | ⟨hne,h'⟩
  ·exact ⟨Nat.le_refl _,by simp⟩
  ·obtain ⟨h2,h3⟩:=jX l (i+1) t sv h'
   refine ⟨by omega,?_⟩
   rw [show t - i=(t - (i+1))+1 by omega]
   simpa using h3
def aY (l:List (Nat × (Nat × List SV))) (ρ:Nat→Nat) (w:World) (χ:Nat→Nat):Prop :=
 ∀ id q,look l id=some q→ia id=true∧Cell w χ (ρ id) id q.1 (q.2.map (bj ρ))
theorem aY.nil {ρ:Nat→Nat} {w:World} {χ:Nat→Nat}:aY [] ρ w χ:=fun _ _ h=>by cases h
theorem aY.cons {l:List (Nat × (Nat × List SV))} {ρ:Nat→Nat} {w:World} {χ:Nat→Nat} {id t:Nat} {cs:List SV} (hx:ia id=true) (hc:Cell w χ (ρ id) id t (cs.map (bj ρ))) (h:aY l ρ w χ):aY ((id,(t,cs)) :: l) ρ w χ:=by
 intro D8 q hq
 rcases dv hq with ⟨rfl,rfl⟩ | ⟨_,BT⟩
 ·exact ⟨hx,hc⟩
 ·exact h D8 q BT
def Pin (l:List (Nat × Nat)) (ρ:Nat→Nat):Prop:=∀ q∈l,ρ q.1=q.2
theorem Pin.mv {l:List (Nat × Nat)} {ρ ρ':Nat→Nat} {n:Nat} (h:Pin l ρ) (hr:∀ id,n < id→ρ' id=ρ id) (hl:l.all (fun q=>Nat.blt n q.1)=true):Pin l ρ':=by
 intro q hq
 rw [hr _ (Nat.le_of_ble_eq_true (List.all_eq_true.1 hl q hq))]
 exact h q hq
theorem Pin.at {l:List (Nat × Nat)} {ρ:Nat→Nat} (h:Pin l ρ) (k:Nat) {i b:Nat} (hk:l[k]?=some (i,b)):ρ i=b:=h _ (List.mem_of_getElem? hk)
theorem fO {P:Program} {f:FuncId} {F:Func} {c:Code} (hf:P.funcs[f]?=some F) (hb:F.body=some c) {vals:List Value} {w:World} {χ:Nat→Nat} {post:World→(Nat→Nat)→Value→Prop} {p:Nat→Bool} (f0:Nat→Nat) (ρ0:Nat→Nat) {args:List SV} {bxs:List (Nat × (Nat × List SV))}
  (hn:Nat.ble args.length F.ntmps=true) (hv:args.map (bj ρ0)=vals) (hx:aY bxs ρ0 w (fun b=>f0 (χ b))) (h00:f0 0=0)
  (k:∀ a,St F.ntmps ⟨pe 0 args,bxs⟩ ρ0 a w (fun b=>f0 (χ b))→iR f0 w χ w (fun b=>f0 (χ b))→M0 w χ w (fun b=>f0 (χ b)) →
   c.wp P (qs (fun a' w'=>bodyPost P F (fun e sA=>∃ v χ',e=.returned v∧Ev p w χ sA χ'∧post sA χ' v) .ret a' w') (fun a' w'=>bodyPost P F (fun e sA=>∃ v χ',e=.returned v∧Ev p w χ sA χ'∧post sA χ' v) .ret a' w') []) a w) :
  Ret P f vals.toArray p w χ post:=by
 unfold Ret
 refine calls_of_wp hf hb ?_
 have hle:=Nat.le_of_ble_eq_true hn
 have hlen:vals.length=args.length:=by rw [← hv]; simp
 refine wp_mono (k { tmps:=vals.toArray++Array.replicate (F.ntmps - vals.toArray.size) undef,defers:=[] } ⟨by simp; omega,rfl,?_,fun id q h=>⟨(hx id q h).2.1,(hx id q h).1,(hx id q h).2.2⟩⟩ (iR.start f0 w χ) ⟨Nat.le_refl _,fun b _ h=>⟨rfl,by rw [h]; exact h00⟩⟩) ?_
 ·intro t sv h
  obtain ⟨_,h3⟩:=jX _ _ _ _ h
  have eS:=(List.getElem?_eq_some_iff.1 h3).1
  simp only [Nat.sub_zero] at h3 eS
  rw [Array.getElem?_append_left (by simp; omega)]
  rw [← hv]
  simp [h3]
 ·intro e a w q
  cases e with
  | normal=>exact q
  | ret=>exact q
  | exit id=>exact absurd q (by simp [qs,look])
  | _=>exact q.elim
theorem jP {P:Program} {tab:Tab} (T:bh P tab) {F:Func} {n:Nat} {sy:Sy} {ρ:Nat→Nat} {a:Act} {w0 w:World} {χc χ:Nat→Nat} {post:World→(Nat→Nat)→Value→Prop} {f0:Nat→Nat} {p:Nat→Bool} (h:St n sy ρ a w χ) (hO:iR f0 w0 χc w χ) (P9:∀ c,f0 c=0→c=0) (hp:∀ c,p c=false→f0 c=0∨f0 c=1000)
  (f:Nat→Nat) (h0:f 0=0) {r:List Value} (e:vP tab sy ρ F.results.toList=some r)
  (hq:∀ χ',M0 w χ w χ'→(∀ b,χ b≠0→χ b≠1000→χ' b=f (χ b))→post w χ' (one r)):bodyPost P F (fun e sA=>∃ v χ',e=.returned v∧Ev p w0 χc sA χ'∧post sA χ' v) .ret a w:=by
 obtain ⟨χ',h1,h2,h3⟩:=hO.leave P9 hp f h0
 exact m7 T h e ⟨_,χ',rfl,h1,hq χ' h2 h3⟩
theorem pY {f:Nat} {as:Array Operand} {lR:Array TypeId} {vals:List Value} {p:Nat→Bool} {post:World→(Nat→Nat)→Value→Prop} (h:St n sy ρ a w χ) (hw:bK all sy g=true) (hd:Nat.blt d n=true) (hb:aD P f=true)
  (hv:jv sy ρ as.toList=some vals) (hc:Ret P f vals.toArray p w χ post)
  (k:∀ v a' w' χ',Ev p w χ w' χ'→post w' χ' v→St n ⟨(d,V v) :: sy.bc,sy.boxes.filter (fun q=>!p q.1)⟩ ρ a' w' χ'→K a' w') :
  wp1 P all.toArray Q ⟨some d,.call ⟨.value (.func f),as,lR⟩,ty,pos,af,g⟩ K a w:=by
 refine jQ h hw (f:=f) (vals:=vals.toArray) (w1:=w) ?_ hc ?_
 ·have:as.map a.eval=vals.toArray:=by rw [← kZ h hv,← Array.toList_map]
  simp [execOp,resolve,Act.eval,Deferred.ofValue,invoke,this,gj hb]
 ·intro v w' χ' h2 h3
  exact k v _ w' χ' h2 h3 ((h.evp h2).put (sv:=V v) (Nat.le_of_ble_eq_true hd))
theorem gJ {f t:Nat} {as:Array Operand} {lR:Array TypeId} {fi cp:List S0} {vals:List Value} {p:Nat→Bool} {post:World→(Nat→Nat)→Value→Prop} (h:St n sy ρ a w χ) (hw:bK all sy g=true) (hd:Nat.blt d n=true) (hb:aD P f=true)
  (hf:look sy.bc t=some (.f (.func f) fi cp)) (hv:(match jv sy ρ as.toList with | some r=>some (fi.map (cM ρ)++r++cp.map (cM ρ)) | none=>none)=some vals) (hc:Ret P f vals.toArray p w χ post)
  (k:∀ v a' w' χ',Ev p w χ w' χ'→post w' χ' v→St n ⟨(d,V v) :: sy.bc,sy.boxes.filter (fun q=>!p q.1)⟩ ρ a' w' χ'→K a' w') :
  wp1 P all.toArray Q ⟨some d,.call ⟨.value (.tmp t),as,lR⟩,ty,pos,af,g⟩ K a w:=by
 refine jQ h hw (f:=f) (vals:=vals.toArray) (w1:=w) ?_ hc ?_
 ·cases hr:jv sy ρ as.toList with
  | none=>simp [hr] at hv
  | some r =>
   simp [hr] at hv
   have h1:as.map a.eval=r.toArray:=by rw [← kZ h hr,← Array.toList_map]
   have h2:a.eval (.tmp t)=.func (.func f) (fi.map (cM ρ)).toArray (cp.map (cM ρ)).toArray:=h.evo (x:=.tmp t) hf
   subst hv
   simp [execOp,resolve,h2,Deferred.ofValue,invoke,h1,gj hb]
 ·intro v w' χ' h2 h3
  exact k v _ w' χ' h2 h3 ((h.evp h2).put (sv:=V v) (Nat.le_of_ble_eq_true hd))
def AtX {α:Type} (T:ct α) (w:World) (χ:Nat→Nat) (A:Addr) (x:α):Prop :=
 ∃ b o cells e fr,A=⟨b,o,none⟩∧w.heap[b]?=some (.cells cells e fr)∧T.R w χ ((cells.toList.drop o).take T.n) x
theorem tl {α:Type} {T:ct α} (TT:bh P tab) {t s:Nat} {A:Addr} {x:α} (h:St n sy ρ a w χ) (hw:bK all sy g=true) (hd:Nat.blt d n=true) (hs:look sy.bc s=some (V (.pointer (some A)))) (hA:AtX T w χ A x) (hn:T.n=1)
  (ht:ry tab t false=true) (k:∀ v a',T.R w χ [v] x→St n ⟨(d,V v) :: sy.bc,sy.boxes⟩ ρ a' w χ→K a' w) :
  wp1 P all.toArray Q ⟨some d,.load t (.tmp s),ty,pos,af,g⟩ K a w:=by
 obtain ⟨b,o,cells,e',fr,rfl,hh,gd⟩:=hA
 obtain ⟨dd,o0,Dp⟩:=nI TT ht
 have hlen:=T.len gd
 rw [hn] at hlen gd
 match hl:(cells.toList.drop o).take 1,hlen with
 | [v],_ =>
  rw [hl] at gd
  have jc:w.cell? ⟨b,o,none⟩=some v:=by
   have:(cells.toList.drop o)[0]?=some v:=by
    have:=congrArg (fun l=>l[0]?) hl
    simpa [List.getElem?_take] using this
   simp only [World.cell?,hh]
   simpa using this
  refine fU h hw hd (Ev.refl aB w χ) (fun _ _=>rfl) (v:=v) (w':=w) ?_ (fun a' h'=>k v a' gd h')
  have es:a.eval (.tmp s)=.pointer (some ⟨b,o,none⟩):=h.evo (x:=.tmp s) hs
  simp [execOp,es,Instr.loadAt,Instr.sureAddr,loadVar,fh o0,Dp,jc]
theorem GG {α β:Type} {T:ct α} {TF:ct β} (TT:bh P tab) {t s f off fsz ft:Nat} {A:Addr} {x:α} {y:β} (h:St n sy ρ a w χ) (hw:bK all sy g=true) (hd:Nat.blt d n=true) (hs:look sy.bc s=some (V (.pointer (some A)))) (hA:AtX T w χ A x)
  (ht:(match look tab t with | some ⟨_,_,_,_,.struct fs⟩=>fs[f]? | _=>none)=some (off,fsz,ft)) (gB:Nat.beq fsz TF.n=true) (hle:Nat.ble (off+TF.n) T.n=true) (hF:∀ cs,T.R w χ cs x→TF.R w χ ((cs.drop off).take TF.n) y)
  (k:∀ A' a',AtX TF w χ A' y→St n ⟨(d,V (.pointer (some A'))) :: sy.bc,sy.boxes⟩ ρ a' w χ→K a' w) :
  wp1 P all.toArray Q ⟨some d,.fieldAddr t (.tmp s) f,ty,pos,af,g⟩ K a w:=by
 obtain ⟨b,o,cells,e',fr,rfl,hh,gd⟩:=hA
 have es:a.eval (.tmp s)=.pointer (some ⟨b,o,none⟩):=h.evo (x:=.tmp s) hs
 split at ht
 ·rename_i fs oJ
  obtain ⟨i,dd,z,hi,o0,hz,Oh,jz,iS,fG,gP,_⟩:=bl (TT _ _ oJ)
  obtain ⟨l,rfl,hm⟩:=gP _ rfl
  obtain ⟨fd,sg,tz⟩:=ja hm f _ ht
  simp only [Option.map_eq_some_iff,Prod.mk.injEq] at tz
  obtain ⟨j,hj,rfl,rfl,rfl⟩:=tz
  have Up:=Nat.eq_of_beq_eq_true gB
  have hne:¬ j.size=0:=by have:=TF.pos; omega
  have PY:=Nat.le_of_ble_eq_true hle
  simp only [Array.getElem?_toList] at sg
  refine fU h hw hd (Ev.refl aB w χ) (fun _ _=>rfl) (v:=.pointer (some ⟨b,o+fd.offset,none⟩)) (w':=w) ?_ (fun a' h'=>k _ a' ⟨b,o+fd.offset,cells,e',fr,rfl,hh,?_⟩ h')
  ·simp [execOp,es,Instr.fieldAt,run_underlying o0,sg,Instr.sureAddr,fieldPlace,run_sizeOf hj,hne,Addr.add_lit]
  ·have:=hF _ gd
   rw [List.drop_take,List.take_take,List.drop_drop,Nat.min_eq_left (by omega)] at this
   exact this
 ·cases ht
theorem iC {α:Type} [Inhabited α] {T:ct α} (TT:bh P tab) {t E col:Nat} {x y:Operand} {ad:Option Addr} {xs:List α} {c:Nat} {k:IntKind} {i:Int} (h:St n sy ρ a w χ) (hw:bK all sy g=true) (hd:Nat.blt d n=true)
  (hx:evo sy x=some (V (.slice ad xs.length c))) (hy:evo sy y=some (V (.int k i))) (hO:OS T E w χ col ad xs c) (ht:rK tab t E=true) (hs:ql tab E T.n=true) (h0:0≤i) (h1:i < xs.length)
  (kk:∀ A a',AtO T E w χ col ad i.toNat A→AtX T w χ A (gi xs i)→St n ⟨(d,V (.pointer (some A))) :: sy.bc,sy.boxes⟩ ρ a' w χ→K a' w) :
  wp1 P all.toArray Q ⟨some d,.indexAddr t x y,ty,pos,af,g⟩ K a w:=by
 rcases hO.row with ⟨rfl,rfl,rfl⟩ | ⟨b,cells,rfl,hc,hh,hle,hcm,gB,gd⟩
 ·simp at h1; omega
 ·obtain ⟨inf,hi,hm⟩:=kh TT hs
  have hr:=kM (P:=P) (w:=w) (c:=c) (k:=k) (ad:=some ⟨b,0,none⟩) (kA TT ht) hi hm rfl h0 h1
  rw [Nat.zero_add] at hr
  have jH:=hh
  obtain ⟨fr,hh,_⟩:=hh
  refine fU h hw hd (Ev.refl aB w χ) (fun _ _=>rfl) (v:=.pointer (some ⟨b,i.toNat * T.n,none⟩)) (w':=w) ?_ (fun a' h'=>kk _ a' ⟨b,cells,rfl,rfl,hc,jH⟩ ⟨b,i.toNat * T.n,cells,E,fr,rfl,hh,?_⟩ h')
  ·have ex:a.eval x=.slice (some ⟨b,0,none⟩) xs.length c:=h.evo hx
   have ey:a.eval y=.int k i:=h.evo hy
   simp [execOp,ex,ey,hr]
  ·have:=gd _ _ (si h0 h1)
   unfold chunk at this
   rwa [Nat.zero_add] at this
def yK (ad:Option Addr) (c l m:Nat):Option Addr:=if c=l then ad else ad.map (·.add (l * m))
theorem vv {α:Type} {T:ct α} {E col:Nat} {ad:Option Addr} {xs:List α} {c:Nat} (h:OS T E w χ col ad xs c):ad=yK ad c 0 T.n:=by
 unfold yK
 split
 ·rfl
 ·rcases h.row with ⟨rfl,rfl,rfl⟩ | ⟨b,cells,rfl,hc,hh,hle,hcm,gB,gd⟩
  ·rfl
  ·simp [Addr.add_lit]
theorem Src.take {α:Type} {T:ct α} {ad:Option Addr} {ys:List α} {c:Nat} {news:List Value} (h:Src T w χ ad ys c news) (m:Nat):Src T w χ ad (ys.take m) c (news.take (m * T.n)):=by
 refine ⟨?_,?_,?_,?_,?_⟩
 ·rw [List.length_take,List.length_take,h.len]
  rcases Nat.le_total m ys.length with hm | hm
  ·rw [Nat.min_eq_left hm,Nat.min_eq_left (Nat.mul_le_mul_right _ hm)]
  ·rw [Nat.min_eq_right hm,Nat.min_eq_right (Nat.mul_le_mul_right _ hm)]
 ·intro e
  obtain ⟨rfl,rfl⟩:=h.nil e
  simp
 ·intro A hA j u hu
  rw [List.getElem?_take] at hu
  split at hu
  ·exact h.cell A hA j u hu
  ·cases hu
 ·intro u hu
  exact h.one u (List.mem_of_mem_take hu)
 ·intro i y hy
  rw [List.getElem?_take] at hy
  split at hy
  ·rename_i hi
   have:=h.el i y hy
   have h1:=dR (m:=T.n) hi
   rw [Nat.add_mul,Nat.one_mul] at h1
   rw [List.drop_take,List.take_take,Nat.min_eq_left (by omega)]
   exact this
  ·cases hy
theorem OS.HW {α:Type} {T:ct α} {E col:Nat} {ad:Option Addr} {xs:List α} {c:Nat} (h:OS T E w χ col ad xs c) (m:Nat):∃ news,Src T w χ ad (xs.take m) c news :=
 have ⟨news,hs⟩:=h.src
 ⟨_,hs.take m⟩
theorem qL {β:Type} {L S:List β} {p q n:Nat} (hp:p≤L.length) (aa4:p+S.length≤L.length) :
  (q+n≤p→((L.take p++S++L.drop (p+S.length)).drop q).take n=(L.drop q).take n) ∧
  (p≤q→q+n≤p+S.length→((L.take p++S++L.drop (p+S.length)).drop q).take n=(S.drop (q - p)).take n) ∧
  (p+S.length≤q→((L.take p++S++L.drop (p+S.length)).drop q).take n=(L.drop q).take n):=by
 have hl:(L.take p).length=p:=by rw [List.length_take]; omega
 refine ⟨fun h=>?_,fun h h2=>?_,fun h=>?_⟩
 ·rw [List.append_assoc,List.drop_append_of_le_length (by omega),List.take_append_of_le_length (by rw [List.length_drop]; omega),List.drop_take,List.take_take,Nat.min_eq_left (by omega)]
 ·rw [List.append_assoc,List.drop_append,List.drop_eq_nil_of_le (by omega),List.nil_append,hl,List.drop_append_of_le_length (by omega),List.take_append_of_le_length (by rw [List.length_drop]; omega)]
 ·rw [List.drop_append,List.drop_eq_nil_of_le (by rw [List.length_append]; omega),List.nil_append,List.length_append,hl,List.drop_drop]
  congr 2
  omega
theorem Jb {α:Type} {T:ct α} {nrm ret:Act→World→Prop} {exs:List (Nat × (Act→World→Prop))} {S:World→Prop} {listed:Array Bool} {fuel:Nat} (TT:bh P tab) (q:Nat) {t E col:Nat} {x lo:Operand} {ad:Option Addr} {xs:List α} {c:Nat} {k:IntKind} {l:Int}
  (h:St n sy ρ a w χ) (oe:Region.noSelect all.toArray=true) (hd:Nat.blt d n=true) (hc:(Region.free .any all.toArray listed q && (Region.ready .any all.toArray listed).contains q)=true) (ho:all[q]?=some ⟨some d,.slice t x (some lo) none none,ty,pos,af,g⟩) (hw:bK all sy g=true) (H:S w)
  (hx:evo sy x=some (V (.slice ad xs.length c))) (Oj:evo sy lo=some (V (.int k l))) (hO:OS T E w χ col ad xs c) (ht:rK tab t E=true) (hs:ql tab E T.n=true) (h0:0≤l) (h1:l≤xs.length)
  (kk:∀ a',St n ⟨(d,V (.slice (yK ad c l.toNat T.n) (xs.length - l.toNat) (c - l.toNat))) :: sy.bc,sy.boxes⟩ ρ a' w χ→Dr P all (qs nrm ret exs) S (listed.setIfInBounds q true) fuel a' w):Dr P all (qs nrm ret exs) S listed (fuel+1) a w:=by
 obtain ⟨inf,wC,hm⟩:=kh TT hs
 have hu:=kA TT ht
 have ex:a.eval x=.slice ad xs.length c:=h.evo hx
 have el:a.eval lo=.int k l:=h.evo Oj
 refine qU q h oe hd hc ho hw H (v:=.slice (yK ad c l.toNat T.n) (xs.length - l.toNat) (c - l.toNat)) (fun w1 _=>?_) kk
 simp [execOp,ex,el,Instr.sliceAt,Instr.slice,run_underlying hu,Instr.sliceBounds,Instr.sliceBound,asIntOf,h0,h1,run_sizeOf wC,hm,yK]
theorem Jc {α:Type} {T:ct α} {nrm ret:Act→World→Prop} {exs:List (Nat × (Act→World→Prop))} {S:World→Prop} {listed:Array Bool} {fuel:Nat} (TT:bh P tab) (q:Nat) {t E col:Nat} {x hi:Operand} {ad:Option Addr} {xs:List α} {c:Nat} {k:IntKind} {l:Int}
  (h:St n sy ρ a w χ) (oe:Region.noSelect all.toArray=true) (hd:Nat.blt d n=true) (hc:(Region.free .any all.toArray listed q && (Region.ready .any all.toArray listed).contains q)=true) (ho:all[q]?=some ⟨some d,.slice t x none (some hi) none,ty,pos,af,g⟩) (hw:bK all sy g=true) (H:S w)
  (hx:evo sy x=some (V (.slice ad xs.length c))) (Oj:evo sy hi=some (V (.int k l))) (hO:OS T E w χ col ad xs c) (ht:rK tab t E=true) (hs:ql tab E T.n=true) (h0:0≤l) (h1:l≤xs.length)
  (kk:∀ a',St n ⟨(d,V (.slice ad (xs.take l.toNat).length c)) :: sy.bc,sy.boxes⟩ ρ a' w χ→Dr P all (qs nrm ret exs) S (listed.setIfInBounds q true) fuel a' w):Dr P all (qs nrm ret exs) S listed (fuel+1) a w:=by
 obtain ⟨inf,wC,hm⟩:=kh TT hs
 have hu:=kA TT ht
 have MZ:xs.length≤c:=by
  rcases hO.row with ⟨rfl,rfl,rfl⟩ | ⟨b,cells,rfl,hc,hh,hle,hcm,gB,gd⟩
  ·simp
  ·exact hle
 have ex:a.eval x=.slice ad xs.length c:=h.evo hx
 have el:a.eval hi=.int k l:=h.evo Oj
 have e2:l≤(c:Int):=by omega
 have hlen:(xs.take l.toNat).length=l.toNat:=by simp; omega
 refine qU q h oe hd hc ho hw H (v:=.slice ad (xs.take l.toNat).length c) (fun w1 _=>?_) kk
 rw [hlen]
 simp [execOp,ex,el,Instr.sliceAt,Instr.slice,run_underlying hu,Instr.sliceBounds,Instr.sliceBound,asIntOf,h0,e2,run_sizeOf wC,hm]
 intro Z4
 have D9:=vv hO
 unfold yK at D9
 rw [if_neg Z4] at D9
 simpa using D9.symm
theorem La {α:Type} {T:ct α} (TT:bh P tab) {t t2 E col l:Nat} {x y:Operand} {ad Oo wZ:Option Addr} {xs ys:List α} {c cx c2:Nat} {news:List Value} (h:St n sy ρ a w χ) (hw:bK all sy g=true) (hd:Nat.blt d n=true)
  (hx:evo sy x=some (V (.slice Oo (xs.length - l) cx))) (UJ:Oo=yK ad c l T.n) (hy:evo sy y=some (V (.slice wZ ys.length c2))) (hO:OS T E w χ col ad xs c) (hs:Src T w χ wZ ys c2 news) (ht:rK tab t E=true) (he:ql tab E T.n=true) (iq:Nat.ble 1000 col=true) (hl:l≤xs.length)
  (k:∀ a' w',Ev (gO col) w χ w' χ→OS T E w' χ col ad (xs.take l++ys.take (xs.length - l)++xs.drop (l+min ys.length (xs.length - l))) c→St n ⟨(d,I (((min ys.length (xs.length - l):Nat)):Int)) :: sy.bc,sy.boxes⟩ ρ a' w' χ→K a' w') :
  wp1 P all.toArray Q ⟨some d,.call ⟨.builtin .copy,#[x,y],#[t,t2]⟩,ty,pos,af,g⟩ K a w:=by
 obtain ⟨inf,hi,hm⟩:=kh TT he
 have hu:=kA TT ht
 have oL:col≠0:=by have:=Nat.le_of_ble_eq_true iq; omega
 have ex:a.eval x=.slice Oo (xs.length - l) cx:=h.evo hx
 have ey:a.eval y=.slice wZ ys.length c2:=h.evo hy
 have hp:=T.pos
 by_cases hz:min ys.length (xs.length - l)=0
 ·have e1:xs.take l++ys.take (xs.length - l)++xs.drop (l+min ys.length (xs.length - l))=xs:=by
   rw [hz,Nat.add_zero]
   have:ys.take (xs.length - l)=[]:=by
    apply List.eq_nil_of_length_eq_zero
    rw [List.length_take,Nat.min_comm]; exact hz
   rw [this,List.append_nil,List.take_append_drop]
  refine fU h hw hd (Ev.refl (gO col) w χ) (cq iq) (v:=.int .i64 (((min ys.length (xs.length - l):Nat)):Int)) (w':=w) ?_ (fun a' h'=>k a' w (Ev.refl _ w χ) (by rw [e1]; exact hO) h')
  have IH:Nat.min ys.length (xs.length - l)=0:=hz
  rw [hz]
  cases wZ with
  | none =>
   cases Oo with
   | none=>simp [execOp,resolve,invoke,builtin,ex,ey,Builtin.copy_,run_underlying hu,Builtin.lenOf,Builtin.firstCells,run_sizeOf hi,goInt,IH]
   | some A=>simp [execOp,resolve,invoke,builtin,ex,ey,Builtin.copy_,run_underlying hu,Builtin.lenOf,Builtin.firstCells,run_sizeOf hi,goInt,IH,storeCells]
  | some A2 =>
   cases Oo with
   | none=>simp [execOp,resolve,invoke,builtin,ex,ey,Builtin.copy_,run_underlying hu,Builtin.lenOf,Builtin.firstCells,run_sizeOf hi,goInt,IH,loadCells,loadCellsFrom]
   | some A=>simp [execOp,resolve,invoke,builtin,ex,ey,Builtin.copy_,run_underlying hu,Builtin.lenOf,Builtin.firstCells,run_sizeOf hi,goInt,IH,storeCells,loadCells,loadCellsFrom]
 ·have ud:0 < min ys.length (xs.length - l):=Nat.pos_of_ne_zero hz
  have ZH:l < xs.length:=by omega
  have Wu:0 < ys.length:=by omega
  rcases hO.row with ⟨rfl,rfl,rfl⟩ | ⟨b,cells,rfl,hc,hh,hle,hcm,II,gd⟩
  ·simp at ZH
  ·have gP:=hs.take (xs.length - l)
   have Uf:(ys.take (xs.length - l)).length=min ys.length (xs.length - l):=by rw [List.length_take,Nat.min_comm]
   rw [show min ys.length (xs.length - l)=(ys.take (xs.length - l)).length from Uf.symm] at k ud
   generalize TW:ys.take (xs.length - l)=zs at gP Uf ud k ⊢
   have Pp:l+zs.length≤xs.length:=by omega
   generalize oe:news.take ((xs.length - l) * T.n)=ns at gP
   have hcl:¬ c=l:=by omega
   have Qe:Oo=some ⟨b,l * T.n,none⟩:=by rw [UJ]; unfold yK; rw [if_neg hcl]; simp [Addr.add_lit]
   have UK:∃ A2,wZ=some A2:=by
    cases h2:wZ with
    | none=>have:=(gP.nil h2).1; rw [this] at ud; simp at ud
    | some A2=>exact ⟨A2,rfl⟩
   obtain ⟨A2,WX⟩:=UK
   have Kq:=run_loadCells_list (P:=P) w A2 ns (gP.cell A2 WX)
   rw [gP.len] at Kq
   have h1:=Nat.mul_le_mul_right T.n Pp
   have h2:=Nat.mul_le_mul_right T.n hle
   rw [Nat.add_mul] at h1
   have ZE:=gP.len
   have jH:=hh
   obtain ⟨fr,hh,BZ⟩:=hh
   have Pz:=dx P b (l * T.n) E fr ns 0 cells w hh BZ (by simp; omega) gP.one
   simp only [Nat.add_zero] at Pz
   have ev:Ev (gO col) w χ (w.setRow b (cells.toList.take (l * T.n)++ns++cells.toList.drop (l * T.n+ns.length)).toArray) χ :=
    ⟨rfl,rfl,rfl,by simp,fun b' _ hp=>⟨setRow_other _ _ _ _ (by intro e; rw [e,hc] at hp; simp [gO] at hp),rfl⟩⟩
   have m:=ev.m0 (show gO col 0=false by cases h:gO col 0 with | false=>rfl | true=>exact absurd (Nat.eq_of_beq_eq_true h).symm oL)
   have Ui:Nat.min ys.length (xs.length - l)=zs.length:=Uf.symm
   refine fU h hw hd ev (cq iq) (v:=.int .i64 ((zs.length:Nat):Int)) (w':=w.setRow b (cells.toList.take (l * T.n)++ns++cells.toList.drop (l * T.n+ns.length)).toArray) ?_ (fun a' h'=>k a' _ ev ⟨?_,.inr ⟨b,_,rfl,hc,jH.set (by simp only [List.size_toArray,List.length_append,List.length_take,List.length_drop,Array.length_toList]; omega),?_,hcm,?_,?_⟩⟩ h')
   ·subst Qe WX
    simp only [execOp,resolve,invoke,builtin,ex,ey,Builtin.copy_,run_underlying hu,Builtin.lenOf,Builtin.firstCells,Sem.run_bind,Sem.run_pure,Result.andThen_ok,run_sizeOf hi,goInt,Ui,hm,Kq,Pz,List.map_toArray,List.map_cons,List.map_nil,List.getElem?_toArray,List.getElem?_cons_zero,List.getElem?_cons_succ,List.getElem?_toArray]
   ·have:(xs.take l++zs++xs.drop (l+zs.length)).length=xs.length:=by simp; omega
    rw [this]; exact hO.bnd
   ·have:(xs.take l++zs++xs.drop (l+zs.length)).length=xs.length:=by simp; omega
    rw [this]; exact hle
   ·simp only [List.size_toArray,List.length_append,List.length_take,List.length_drop,Array.length_toList]
    omega
   ·intro j z hj
    unfold chunk
    simp only [Nat.zero_add]
    obtain ⟨s1,s2,s3⟩:=qL (L:=cells.toList) (S:=ns) (p:=l * T.n) (q:=j * T.n) (n:=T.n) (by simp; omega) (by simp; omega)
    rcases Nat.lt_or_ge j l with hjl | hjl
    ·have Ea:xs[j]?=some z:=by
      rw [List.append_assoc,List.getElem?_append_left (by simp; omega),List.getElem?_take,if_pos hjl] at hj
      exact hj
     have h3:=dR (m:=T.n) hjl
     rw [Nat.add_mul,Nat.one_mul] at h3
     have:=T.mono m (gd j z Ea)
     unfold chunk at this
     rw [Nat.zero_add] at this
     rw [s1 h3]
     exact this
    ·have h3:=Nat.mul_le_mul_right T.n hjl
     rcases Nat.lt_or_ge j (l+zs.length) with hj2 | hj2
     ·have Ea:zs[j - l]?=some z:=by
       rw [List.append_assoc,List.getElem?_append_right (by simp; omega),List.getElem?_append_left (by simp; omega)] at hj
       rw [List.length_take,Nat.min_eq_left (by omega)] at hj
       exact hj
      have h4:=dR (m:=T.n) hj2
      rw [Nat.add_mul,Nat.one_mul,Nat.add_mul] at h4
      rw [s2 h3 (by omega),← Nat.sub_mul]
      exact T.mono m (gP.el _ z Ea)
     ·have Ea:xs[j]?=some z:=by
       rw [List.getElem?_append_right (by simp; omega),List.getElem?_drop] at hj
       rw [← hj]
       congr 1
       rw [List.length_append,List.length_take,Nat.min_eq_left (by omega)]
       omega
      have h4:=Nat.mul_le_mul_right T.n hj2
      rw [Nat.add_mul] at h4
      have:=T.mono m (gd j z Ea)
      unfold chunk at this
      rw [Nat.zero_add] at this
      rw [s3 (by omega)]
      exact this
structure nm (κ:Type) where
 d:TypeDesc
 v:κ→Value
 inj:∀ a b,v a=v b→a=b
 isk:∀ a,MapKept.IsKey d (v a)
def kI:nm Int:=⟨.int .i64,fun k=>.int .i64 k,(fun a b h=>by injection h),fun _=>rfl⟩
def cd {κ α:Type} [DecidableEq κ]:List (κ × α)→κ→Option α
 | [],_=>none
 | (j,x) :: m,k=>if j=k then some x else cd m k
def gb {κ α:Type} [DecidableEq κ]:List (κ × α)→κ→α→List (κ × α)
 | [],k,x=>[(k,x)]
 | (j,y) :: m,k,x=>if j=k then (k,x) :: m else (j,y) :: gb m k x
theorem uQ {κ α:Type} [DecidableEq κ]:∀ (m:List (κ × α)) (k j:κ) (x:α),cd (gb m k x) j=if j=k then some x else cd m j
 | [],k,j,x=>by
  simp only [gb,cd]
  by_cases h:k=j
  ·rw [if_pos h,if_pos h.symm]
  ·rw [if_neg h,if_neg (fun e=>h e.symm)]
 | (i,y) :: m,k,j,x=>by
  simp only [gb]
  by_cases xZ:i=k
  ·subst xZ
   rw [if_pos rfl]
   simp only [cd]
   by_cases h:i=j
   ·rw [if_pos h,if_pos h.symm]
   ·rw [if_neg h,if_neg h,if_neg (fun e=>h e.symm)]
  ·rw [if_neg xZ]
   simp only [cd]
   by_cases h:i=j
   ·subst h
    rw [if_pos rfl,if_pos rfl,if_neg xZ]
   ·rw [if_neg h,if_neg h,uQ]
def VR {α:Type} (T:ct α) (ag:Bool) (w:World) (χ:Nat→Nat) (v:Value) (x:α):Prop :=
 match ag with
 | true=>∃ cs:List Value,v=.agg cs.toArray∧T.R w χ cs x
 | false=>T.R w χ [v] x
theorem VR.mono {α:Type} {T:ct α} {ag:Bool} {w':World} {χ':Nat→Nat} {v:Value} {x:α} (m:M0 w χ w' χ') (h:VR T ag w χ v x):VR T ag w' χ' v x:=by
 cases ag with
 | true=>obtain ⟨cs,e,hr⟩:=h; exact ⟨cs,e,T.mono m hr⟩
 | false=>exact T.mono m h
def EL {κ α:Type} (R:nm κ) (T:ct α) (ag:Bool) (w:World) (χ:Nat→Nat):List MapEntry→List (κ × α)→Prop
 | [],[]=>True
 | e :: es,(k,x) :: m=>e.key=R.v k∧VR T ag w χ e.val x∧EL R T ag w χ es m
 | _,_=>False
theorem EL.mono {κ α:Type} {R:nm κ} {T:ct α} {ag:Bool} {w':World} {χ':Nat→Nat} (mm:M0 w χ w' χ'):∀ {es:List MapEntry} {m:List (κ × α)},EL R T ag w χ es m→EL R T ag w' χ' es m
 | [],[],h=>h
 | _ :: _,(_,_) :: _,h=>⟨h.1,h.2.1.mono mm,EL.mono mm h.2.2⟩
 | [],_ :: _,h=>h.elim
 | _ :: _,[],h=>h.elim
theorem qX {κ:Type} (R:nm κ) (a b:κ) [DecidableEq κ]:Instr.sameNow R.d (R.v a) (R.v b)=some (decide (a=b)):=by
 obtain ⟨r,hr,Ur⟩:=MapKept.sameNow_of_keys (R.isk a) (R.isk b)
 rw [hr]
 congr 1
 rw [Bool.eq_iff_iff,Ur,decide_eq_true_eq]
 exact ⟨R.inj a b,fun h=>by rw [h]⟩
theorem EL.find {κ α:Type} [DecidableEq κ] {R:nm κ} {T:ct α} {ag:Bool} (k:κ):∀ {es:List MapEntry} {m:List (κ × α)} (i:Nat),EL R T ag w χ es m →
  (Instr.findNow R.d (R.v k) es i=some none∧cd m k=none∧∀ (x:α) (e:MapEntry),e.key=R.v k→VR T ag w χ e.val x→EL R T ag w χ (es++[e]) (gb m k x)) ∨
  ∃ j e x,Instr.findNow R.d (R.v k) es i=some (some (i+j,e.val))∧es[j]?=some e∧e.key=R.v k∧cd m k=some x∧VR T ag w χ e.val x ∧
   ∀ (f:MapEntry→MapEntry) (y:α),(f e).key=R.v k→VR T ag w χ (f e).val y→EL R T ag w χ (es.modify j f) (gb m k y)
 | [],[],i,_=>.inl ⟨rfl,rfl,fun x e h1 h2=>⟨h1,h2,trivial⟩⟩
 | e :: es,(j,x) :: m,i,h=>by
  obtain ⟨h1,h2,h3⟩:=h
  by_cases hk:k=j
  ·subst hk
   refine .inr ⟨0,e,x,?_,rfl,h1,by simp [cd],h2,fun f y Uw Z1=>?_⟩
   ·simp only [Instr.findNow,h1,qX,decide_true,Nat.add_zero]
   ·simp only [gb,if_true,List.modify_zero_cons]
    exact ⟨Uw,Z1,h3⟩
  ·have hs:Instr.sameNow R.d (R.v k) e.key=some false:=by rw [h1,qX]; simp [hk]
   have Dn:¬ j=k:=fun q=>hk q.symm
   rcases EL.find k (i+1) h3 with ⟨g1,g2,g3⟩ | ⟨q,e',x',g1,g2,g3,g4,g5,g6⟩
   ·refine .inl ⟨by simp only [Instr.findNow,hs,g1],by simp only [cd,if_neg Dn,g2],fun y e' a b=>?_⟩
    simp only [gb,if_neg Dn,List.cons_append]
    exact ⟨h1,h2,g3 y e' a b⟩
   ·refine .inr ⟨q+1,e',x',?_,by simpa using g2,g3,by simp only [cd,if_neg Dn,g4],g5,fun f y a b=>?_⟩
    ·simp only [Instr.findNow,hs,g1]
     congr 3; omega
    ·simp only [gb,if_neg Dn,List.modify_succ_cons]
     exact ⟨h1,h2,g6 f y a b⟩
 | [],_ :: _,_,h=>h.elim
 | _ :: _,[],_,h=>h.elim
def OM {κ α:Type} (R:nm κ) (T:ct α) (ag:Bool) (w:World) (χ:Nat→Nat) (col r:Nat) (m:List (κ × α)):Prop :=
 χ r=col∧∃ es clock,w.heap[r]?=some (.map es clock)∧EL R T ag w χ es.toList m
theorem OM.mv {κ α:Type} {R:nm κ} {T:ct α} {ag:Bool} {w w':World} {χ χ':Nat→Nat} {col r:Nat} {m:List (κ × α)} {p:Nat→Bool} (h:OM R T ag w χ col r m) (e:Ev p w χ w' χ') (hp:p col=false) (h0:p 0=false):OM R T ag w' χ' col r m:=by
 obtain ⟨h1,es,clock,h2,h3⟩:=h
 obtain ⟨k1,k2⟩:=e.bW r (cQ h2) (by rw [h1]; exact hp)
 exact ⟨k2.trans h1,es,clock,k1.trans h2,h3.mono (e.m0 h0)⟩
theorem J9 {κ α:Type} (R:nm κ) (T:ct α) (ag:Bool) (col:Nat) {t:Nat} (h:St n sy ρ a w χ) (hw:bK all sy g=true) (hd:Nat.blt d n=true)
  (k:∀ r a' w' χ',Ev aB w χ w' χ'→OM R T ag w' χ' col r ([]:List (κ × α))→St n ⟨(d,V (.map (some r))) :: sy.bc,sy.boxes⟩ ρ a' w' χ'→K a' w') :
  wp1 P all.toArray Q ⟨some d,.makeMap t none,ty,pos,af,g⟩ K a w:=by
 have ev:=sn w χ (.map #[] 0) col
 refine fU h hw hd ev (fun _ _=>rfl) (v:=.map (some w.heap.size)) (w':=w.alloc (.map #[] 0)) ?_ (fun a' h'=>k _ a' _ _ ev ⟨by simp,#[],0,heap_alloc_new w _,trivial⟩ h')
 simp [execOp,Instr.makeMap,Result.andThen]
theorem pB {κ α:Type} [DecidableEq κ] (R:nm κ) (T:ct α) (ag:Bool) {t kt et col r:Nat} {x y:Operand} {m:List (κ × α)} {z:α} (q:κ) {zv:Value} (h:St n sy ρ a w χ) (hw:bK all sy g=true) (hd:Nat.blt d n=true)
  (hx:evo sy x=some (V (.map (some r)))) (hy:evo sy y=some (V (R.v q))) (hm:P.underlying t=some (.map kt et)) (hk:P.underlying kt=some R.d) (hz:(P.info? et).bind (·.zero)=some zv) (MC:VR T ag w χ zv z) (hO:OM R T ag w χ col r m)
  (k:∀ v a',VR T ag w χ v ((cd m q).getD z)→St n ⟨(d,V v) :: sy.bc,sy.boxes⟩ ρ a' w χ→K a' w) :
  wp1 P all.toArray Q ⟨some d,.lookup t x y false,ty,pos,af,g⟩ K a w:=by
 obtain ⟨h1,es,clock,h2,h3⟩:=hO
 have ex:a.eval x=.map (some r):=h.evo hx
 have ey:a.eval y=R.v q:=h.evo hy
 obtain ⟨zs,Pq,Oe⟩:=Option.bind_eq_some_iff.1 hz
 have D9:(zeroValue et).run P w=.ok zv w:=by simp [zeroValue,typeInfo,Pq,Oe]
 rcases EL.find q 0 h3 with ⟨g1,g2,_⟩ | ⟨j,e,x',g1,g2,g3,g4,g5,_⟩
 ·refine fU h hw hd (Ev.refl aB w χ) (fun _ _=>rfl) (v:=zv) (w':=w) ?_ (fun a' h'=>k _ a' (by rw [g2]; exact MC) h')
  simp [execOp,ex,ey,Instr.lookup,run_underlying hm,MapKept.run_getObj_map h2,MapKept.run_checkKey hk (R.isk q),MapKept.run_findKey hk g1,D9]
 ·refine fU h hw hd (Ev.refl aB w χ) (fun _ _=>rfl) (v:=e.val) (w':=w) ?_ (fun a' h'=>k _ a' (by rw [g4]; exact g5) h')
  simp [execOp,ex,ey,Instr.lookup,run_underlying hm,MapKept.run_getObj_map h2,MapKept.run_checkKey hk (R.isk q),MapKept.run_findKey hk g1]
theorem LW {κ α:Type} [DecidableEq κ] (R:nm κ) (T:ct α) (ag:Bool) {t kt et col r:Nat} {x y:Operand} {m:List (κ × α)} {z:α} (q:κ) {zv:Value} (h:St n sy ρ a w χ) (hw:bK all sy g=true) (hd:Nat.blt d n=true)
  (hx:evo sy x=some (V (.map (some r)))) (hy:evo sy y=some (V (R.v q))) (hm:P.underlying t=some (.map kt et)) (hk:P.underlying kt=some R.d) (hz:(P.info? et).bind (·.zero)=some zv) (MC:VR T ag w χ zv z) (hO:OM R T ag w χ col r m)
  (k:∀ v a',VR T ag w χ v ((cd m q).getD z)→St n ⟨(d,V (.tuple #[v,.bool (cd m q).isSome])) :: sy.bc,sy.boxes⟩ ρ a' w χ→K a' w) :
  wp1 P all.toArray Q ⟨some d,.lookup t x y true,ty,pos,af,g⟩ K a w:=by
 obtain ⟨h1,es,clock,h2,h3⟩:=hO
 have ex:a.eval x=.map (some r):=h.evo hx
 have ey:a.eval y=R.v q:=h.evo hy
 obtain ⟨zs,Pq,Oe⟩:=Option.bind_eq_some_iff.1 hz
 have D9:(zeroValue et).run P w=.ok zv w:=by simp [zeroValue,typeInfo,Pq,Oe]
 rcases EL.find q 0 h3 with ⟨g1,g2,_⟩ | ⟨j,e,x',g1,g2,g3,g4,g5,_⟩
 ·refine fU h hw hd (Ev.refl aB w χ) (fun _ _=>rfl) (v:=.tuple #[zv,.bool (cd m q).isSome]) (w':=w) ?_ (fun a' h'=>k _ a' (by rw [g2]; exact MC) h')
  simp [execOp,ex,ey,Instr.lookup,run_underlying hm,MapKept.run_getObj_map h2,MapKept.run_checkKey hk (R.isk q),MapKept.run_findKey hk g1,D9,g2]
 ·refine fU h hw hd (Ev.refl aB w χ) (fun _ _=>rfl) (v:=.tuple #[e.val,.bool (cd m q).isSome]) (w':=w) ?_ (fun a' h'=>k _ a' (by rw [g4]; exact g5) h')
  simp [execOp,ex,ey,Instr.lookup,run_underlying hm,MapKept.run_getObj_map h2,MapKept.run_checkKey hk (R.isk q),MapKept.run_findKey hk g1,g4]
theorem Ip {κ α:Type} [DecidableEq κ] (R:nm κ) (T:ct α) (ag:Bool) {t kt et col r:Nat} {x y z:Operand} {m:List (κ × α)} {v:SV} {u:α} (q:κ) (h:St n sy ρ a w χ) (hw:bK all sy g=true)
  (hx:evo sy x=some (V (.map (some r)))) (hy:evo sy y=some (V (R.v q))) (hv:evo sy z=some v) (hm:P.underlying t=some (.map kt et)) (hk:P.underlying kt=some R.d) (iq:Nat.ble 1000 col=true) (hO:OM R T ag w χ col r m) (hR:VR T ag w χ (bj ρ v) u)
  (k:∀ a' w',Ev (gO col) w χ w' χ→OM R T ag w' χ col r (gb m q u)→St n sy ρ a' w' χ→K a' w') :
  wp1 P all.toArray Q ⟨none,.mapUpdate t x y z,ty,pos,af,g⟩ K a w:=by
 obtain ⟨h1,es,clock,h2,h3⟩:=hO
 have ex:a.eval x=.map (some r):=h.evo hx
 have ey:a.eval y=R.v q:=h.evo hy
 have ez:a.eval z=bj ρ v:=h.evo hv
 have oL:col≠0:=by have:=Nat.le_of_ble_eq_true iq; omega
 refine gR (dE h (o:=⟨none,.mapUpdate t x y z,ty,pos,af,g⟩) hw) ?_
 have fin:∀ (Ap:Array MapEntry) (oO:Nat),EL R T ag w χ Ap.toList (gb m q u)→({ w with heap:=w.heap.setIfInBounds r (.map Ap oO) }:World).heap.size=w.heap.size∧Ev (gO col) w χ { w with heap:=w.heap.setIfInBounds r (.map Ap oO) } χ∧OM R T ag { w with heap:=w.heap.setIfInBounds r (.map Ap oO) } χ col r (gb m q u):=by
  intro Ap oO he
  have hs:=MapKept.heap_set (w:=w) (o':=.map Ap oO) h2
  have ev:Ev (gO col) w χ { w with heap:=w.heap.setIfInBounds r (.map Ap oO) } χ:=⟨rfl,rfl,rfl,by simp,fun b' _ hp=>⟨hs.2 b' (by intro e; rw [e,h1] at hp; simp [gO] at hp),rfl⟩⟩
  have mm:=ev.m0 (show gO col 0=false by cases h:gO col 0 with | false=>rfl | true=>exact absurd (Nat.eq_of_beq_eq_true h).symm oL)
  exact ⟨by simp,ev,h1,Ap,oO,hs.1,he.mono mm⟩
 unfold Oper.wp
 rcases EL.find q 0 h3 with ⟨g1,g2,g3⟩ | ⟨j,e,x',g1,g2,g3,g4,g5,g6⟩
 ·have gd:=g3 u { key:=R.v q,val:=bj ρ v,born:=clock } rfl hR
  obtain ⟨_,ev,Uc⟩:=fin (es.push { key:=R.v q,val:=bj ρ v,born:=clock }) (clock+1) (by rw [Array.toList_push]; exact gd)
  have hr:(execOp a.eval ⟨none,.mapUpdate t x y z,ty,pos,af,g⟩).run P w=.ok .skip { w with heap:=w.heap.setIfInBounds r (.map (es.push { key:=R.v q,val:=bj ρ v,born:=clock }) (clock+1)) }:=by
   simp [execOp,ex,ey,ez,Instr.mapUpdate,run_underlying hm,MapKept.run_getObj_map h2,MapKept.run_checkKey hk (R.isk q),MapKept.run_findKey hk g1,MapKept.run_setObj_map _ h2]
  rw [hr]
  exact k _ _ ev Uc (h.ev ev (cq iq))
 ·have hj:es[j]?=some e:=by simpa using g2
  have gd:=g6 (fun e=>{ e with key:=R.v q,val:=bj ρ v }) u rfl hR
  obtain ⟨_,ev,Uc⟩:=fin (es.modify j fun e=>{ e with key:=R.v q,val:=bj ρ v }) clock (by rw [Array.toList_modify]; exact gd)
  have hr:(execOp a.eval ⟨none,.mapUpdate t x y z,ty,pos,af,g⟩).run P w=.ok .skip { w with heap:=w.heap.setIfInBounds r (.map (es.modify j fun e=>{ e with key:=R.v q,val:=bj ρ v }) clock) }:=by
   simp [execOp,ex,ey,ez,Instr.mapUpdate,run_underlying hm,MapKept.run_getObj_map h2,MapKept.run_checkKey hk (R.isk q),MapKept.run_findKey hk g1,hj,g3,MapKept.run_keyThatStays (R.isk q),MapKept.run_setObj_map _ h2]
  rw [hr]
  exact k _ _ ev Uc (h.ev ev (cq iq))
theorem OM.map {κ α:Type} {R:nm κ} {T:ct α} {ag:Bool} {i j r:Nat} {m:List (κ × α)} {f:Nat→Nat} (h:OM R T ag w χ i r m) (hf:f i=j) (m0:M0 w χ w (fun b=>f (χ b))):OM R T ag w (fun b=>f (χ b)) j r m:=by
 obtain ⟨h1,es,clock,h2,h3⟩:=h
 exact ⟨by show f (χ r)=j; rw [h1,hf],es,clock,h2,h3.mono m0⟩
theorem OM.out {κ α:Type} {R:nm κ} {T:ct α} {ag:Bool} {k i r:Nat} {m:List (κ × α)} {χ':Nat→Nat} {f:Nat→Nat} (h:OM R T ag w χ k r m) (mm:M0 w χ w χ') (hC:∀ b,χ b≠0→χ b≠1000→χ' b=f (χ b)) (h0:Nat.ble 1001 k=true) (hf:f k=i):OM R T ag w χ' i r m:=by
 obtain ⟨h1,es,clock,h2,h3⟩:=h
 have:=Nat.le_of_ble_eq_true h0
 exact ⟨by rw [hC r (by omega) (by omega),h1,hf],es,clock,h2,h3.mono mm⟩
def upd (ρ:Nat→Nat) (id b:Nat) (q:Nat):Nat:=bif Nat.beq q id then b else ρ q
theorem EJ {ρ:Nat→Nat} {id b:Nat}:∀ q,q≠id→upd ρ id b q=ρ q:=fun q h=>by
 unfold upd
 cases hb:Nat.beq q id with
 | true=>exact absurd (Nat.eq_of_beq_eq_true hb) h
 | false=>rfl
theorem St.LR (h:St n sy ρ a w χ) {id t b:Nat} {cs:List SV} {vals:List Value} (hno:nW id sy=true) (hx:ia id=true) (hc:Cell w χ b id t vals) (hv:cs.map (bj (upd ρ id b))=vals):St n ⟨sy.bc,(id,(t,cs)) :: sy.boxes⟩ (upd ρ id b) a w χ:=by
 unfold nW at hno
 rw [Bool.and_eq_true,List.all_eq_true,List.all_eq_true] at hno
 have mem:∀ {β:Type} {l:List (Nat × β)} {k:Nat} {v:β},look l k=some v→(k,v)∈l:=by
  intro β l
  induction l with
  | nil=>intro k v hq; cases hq
  | cons q l ih =>
   intro k v hq
   obtain ⟨k',v'⟩:=q
   rcases dv hq with ⟨rfl,rfl⟩ | ⟨_,BT⟩
   ·exact List.mem_cons_self ..
   ·exact List.mem_cons_of_mem _ (ih BT)
 have same:∀ {c:SV},names id c=false→bj (upd ρ id b) c=bj ρ c:=fun hn=>vh (k:=id) EJ hn
 refine ⟨h.size,h.defers,fun t' sv hq=>?_,fun D8 q hq=>?_⟩
 ·have hn:=hno.1 _ (mem hq)
  simp only [Bool.not_eq_true'] at hn
  rw [same hn]
  exact h.bc t' sv hq
 ·rcases dv hq with ⟨rfl,rfl⟩ | ⟨hne,BT⟩
  ·refine ⟨?_,hx,?_⟩
   ·show χ (upd ρ id b id)=id
    have:upd ρ id b id=b:=by simp [upd]
    rw [this]; exact hc.1
   ·show w.heap[upd ρ id b id]?=_
    have:upd ρ id b id=b:=by simp [upd]
    rw [this,hv]; exact hc.2
  ·have hb:=h.boxes D8 q BT
   have hn:=hno.2 _ (mem BT)
   rw [Bool.and_eq_true,List.all_eq_true] at hn
   have Hy:upd ρ id b D8=ρ D8:=EJ D8 (by intro e; rw [e] at hn; simp at hn)
   rw [Hy]
   refine ⟨hb.1,hb.2.1,?_⟩
   have hm:q.2.map (bj (upd ρ id b))=q.2.map (bj ρ):=by
    apply List.map_congr_left
    intro c hcm
    have:=hn.2 c hcm
    simp only [Bool.not_eq_true'] at this
    exact same this
   rw [hm]
   exact hb.2.2
theorem St.QU (h:St n sy ρ a w χ) {t:Nat} {x y:SV} (hl:look sy.bc t=some x) (hb:bj ρ x=bj ρ y):St n ⟨(t,y) :: sy.bc,sy.boxes⟩ ρ a w χ:=by
 refine ⟨h.size,h.defers,?_,h.boxes⟩
 intro t' sv e
 rcases dv e with ⟨rfl,rfl⟩ | ⟨_,e'⟩
 ·rw [← hb]; exact h.bc _ _ hl
 ·exact h.bc _ _ e'
theorem vn {nrm ret:Act→World→Prop} {exs:List (Nat × (Act→World→Prop))} {S:World→Prop} {listed:Array Bool} {fuel:Nat} {is:List Nat} (hr:Region.ready .any all.toArray listed=is) (hne:is≠[])
  (k:∀ i∈is,∃ o,all[i]?=some o∧wp1 P all.toArray (qs nrm ret exs) o (fun a' w'=>S w'∧Dr P all (qs nrm ret exs) S (listed.setIfInBounds i true) fuel a' w') a w):Dr P all (qs nrm ret exs) S listed (fuel+1) a w:=by
 unfold Dr
 refine wpAnyH_all hr hne ?_
 intro j hj
 obtain ⟨o,ho,hk⟩:=k j hj
 unfold wpOp
 rw [List.getElem?_toArray,ho]
 exact hk
theorem mz {i:Nat} {o:Oper} {Q':Exit→Act→World→Prop} {K':Act→World→Prop} (ho:all[i]?=some o) (k:wp1 P all.toArray Q' o K' a w):∃ o,all[i]?=some o∧wp1 P all.toArray Q' o K' a w:=⟨o,ho,k⟩
theorem De {i a b:Nat} (h:i∈[a,b]):i=a∨i=b:=by simpa using h
theorem JY {nrm ret:Act→World→Prop} {exs:List (Nat × (Act→World→Prop))} {w0:World} {χ0:Nat→Nat} {bxs:List (Nat × (Nat × List SV))} {listed listed':Array Bool} {m fuel tc:Nat} {b:Bool} {f:Bool→Sy} (TT:bh P tab) (is bks ks:List Nat) (h:St n sy ρ a w χ) (hl:look sy.bc tc=some (B b))
  (oe:Region.noSelect all.toArray=true) (hn:Nat.ble n 999=true) (hb:oM bks sy=bxs) (H:br w0 χ0 bxs ρ w)
  (e1:(match iV tab n all bks is listed ⟨(tc,B true) :: sy.bc,sy.boxes⟩ with | some (l,s)=>some (l,(⟨(bW ks [] s).bc,sy.boxes⟩:Sy)) | none=>none)=some (listed',f true))
  (e2:(match iV tab n all bks is listed ⟨(tc,B false) :: sy.bc,sy.boxes⟩ with | some (l,s)=>some (l,(⟨(bW ks [] s).bc,sy.boxes⟩:Sy)) | none=>none)=some (listed',f false)) (hf:m=fuel+is.length)
  (k:∀ a',St n (f b) ρ a' w χ→Dr P all (qs nrm ret exs) (br w0 χ0 bxs ρ) listed' fuel a' w):Dr P all (qs nrm ret exs) (br w0 χ0 bxs ρ) listed m a w:=by
 have hc:St n ⟨(tc,B b) :: sy.bc,sy.boxes⟩ ρ a w χ:=h.conv hl rfl
 cases b with
 | true=>exact take TT is bks ks hc oe hn hb H e1 hf k
 | false=>exact take TT is bks ks hc oe hn hb H e2 hf k
theorem je {id:Nat} {l:List Oper} {K ret:Act→World→Prop} {exs:List (Nat × (Act→World→Prop))} (bks:List Nat) (hm:P.follows .mixedOrders=true) (h:St n sy ρ a w χ)
  (k:∀ w1 χ1,St n sy ρ a w1 χ1→Ev aB w χ w1 χ1→M0 w1 χ1 w1 χ1→br w1 χ1 (oM bks sy) ρ w1→Dr P l (qs K ret exs) (br w1 χ1 (oM bks sy) ρ) (Array.replicate l.toArray.size false) l.toArray.size a w1) :
  (Code.region id l.toArray true).wp P (qs K ret exs) a w:=drawn bks hm h (fun w1=>k w1 χ)
theorem eT {id:Nat} {l:List Oper} {y:Code} {nrm ret:Act→World→Prop} {exs:List (Nat × (Act→World→Prop))} (bks:List Nat) (hm:P.follows .mixedOrders=true) (h:St n sy ρ a w χ)
  (k:∀ w1 χ1,St n sy ρ a w1 χ1→Ev aB w χ w1 χ1→M0 w1 χ1 w1 χ1→br w1 χ1 (oM bks sy) ρ w1→Dr P l (qs (y.wp P (qs nrm ret exs)) ret exs) (br w1 χ1 (oM bks sy) ρ) (Array.replicate l.toArray.size false) l.toArray.size a w1) :
  (Code.seq (Code.region id l.toArray true) y).wp P (qs nrm ret exs) a w:=a8 (je bks hm h k)
theorem QM {Q:Exit→Act→World→Prop} {S:World→Prop} {listed:Array Bool} {fuel:Nat} (J:Act→World→Prop) (listed':Array Bool) (K2:Nat)
  (k1:∀ a w,J a w→Dr P all Q S listed' K2 a w) (k2:(∀ a w,J a w→Dr P all Q S listed' K2 a w)→Dr P all Q S listed fuel a w):Dr P all Q S listed fuel a w:=k2 k1
theorem AA (s:List UInt8) (l h:Nat):(bs s).extract l h=bs ((s.take h).drop l):=by
 apply ByteArray.ext
 apply Array.toList_inj.mp
 rw [ByteArray.data_extract]
 simp [bs,List.take_drop]
 by_cases hl:l≤h
 ·rw [show l+(h - l)=h by omega]
 ·rw [List.drop_eq_nil_of_le (by rw [List.length_take]; omega),List.drop_eq_nil_of_le (by rw [List.length_take]; omega)]
theorem LK (TT:bh P tab) {op:Op} {sv:SV} (h:St n sy ρ a w χ) (hw:bK all sy g=true) (hd:Nat.blt d n=true) (hn:Nat.ble n 999=true) (e:jO tab sy ⟨some d,op,ty,pos,af,g⟩=some sv)
  (k:∀ a',St n ⟨(d,sv) :: sy.bc,sy.boxes⟩ ρ a' w χ→K a' w):wp1 P all.toArray Q ⟨some d,op,ty,pos,af,g⟩ K a w:=by
 refine gR (dE h (o:=⟨some d,op,ty,pos,af,g⟩) hw) ?_
 refine Bc (mem:=false) TT h (fun d' hd'=>?_) (Nat.le_of_ble_eq_true hn) (sy':=⟨(d,sv) :: sy.bc,sy.boxes⟩) (by unfold mH; rw [e]) (fun ρ' a' w' χ' hS _ hm _=>?_)
 ·cases hd'; exact Nat.le_of_ble_eq_true hd
 ·obtain ⟨rfl,rfl,rfl⟩:=hm.1 rfl
  exact k a' hS
theorem LX {κ α:Type} (R:nm κ) (T:ct α) (ag:Bool) (col:Nat) {t kt et:Nat} {x:Operand} {hk:IntKind} {hn:Int} (h:St n sy ρ a w χ) (hw:bK all sy g=true) (hd:Nat.blt d n=true)
  (hx:evo sy x=some (V (.int hk hn))) (hm:P.underlying t=some (.map kt et))
  (k:∀ r a' w' χ',Ev aB w χ w' χ'→OM R T ag w' χ' col r ([]:List (κ × α))→St n ⟨(d,V (.map (some r))) :: sy.bc,sy.boxes⟩ ρ a' w' χ'→K a' w') :
  wp1 P all.toArray Q ⟨some d,.makeMap t (some x),ty,pos,af,g⟩ K a w:=by
 have ev:=sn w χ (.map #[] 0) col
 have ex:a.eval x=.int hk hn:=h.evo hx
 refine fU h hw hd ev (fun _ _=>rfl) (v:=.map (some w.heap.size)) (w':=w.alloc (.map #[] 0)) ?_ (fun a' h'=>k _ a' _ _ ev ⟨by simp,#[],0,heap_alloc_new w _,trivial⟩ h')
 simp [execOp,Instr.makeMap,Result.andThen,ex,run_underlying hm,asInt,asIntOf]
theorem EL.len {κ α:Type} {R:nm κ} {T:ct α} {ag:Bool}:∀ {es:List MapEntry} {m:List (κ × α)},EL R T ag w χ es m→es.length=m.length
 | [],[],_=>rfl
 | e :: es,(k,x) :: m,h=>by rw [List.length_cons,List.length_cons,EL.len h.2.2]
 | [],_ :: _,h=>h.elim
 | _ :: _,[],h=>h.elim
theorem Tn {κ α:Type} {R:nm κ} {T:ct α} {ag:Bool} {t kt et col r:Nat} {x:Operand} {m:List (κ × α)} (h:St n sy ρ a w χ) (hw:bK all sy g=true) (hd:Nat.blt d n=true)
  (hx:evo sy x=some (V (.map (some r)))) (hm:P.underlying t=some (.map kt et)) (hO:OM R T ag w χ col r m)
  (k:∀ a',St n ⟨(d,I ((m.length:Nat):Int)) :: sy.bc,sy.boxes⟩ ρ a' w χ→K a' w) :
  wp1 P all.toArray Q ⟨some d,.call { callee:=.builtin .len,args:=#[x],argTypes:=#[t] },ty,pos,af,g⟩ K a w:=by
 obtain ⟨h1,es,clock,h2,h3⟩:=hO
 have ex:a.eval x=.map (some r):=h.evo hx
 refine fU h hw hd (Ev.refl aB w χ) (fun _ _=>rfl) (v:=.int .i64 ((m.length:Nat):Int)) (w':=w) ?_ (fun a' h'=>k a' h')
 have hl:=EL.len h3
 simp [execOp,resolve,invoke,builtin,ex,Builtin.len_,run_underlying hm,MapKept.run_getObj_map h2,goInt]
 rw [← hl]; simp
theorem OS.map {α:Type} {T:ct α} {E i j:Nat} {ad:Option Addr} {xs:List α} {c:Nat} {f:Nat→Nat} (h:OS T E w χ i ad xs c) (hf:f i=j) (m0:M0 w χ w (fun b=>f (χ b))):OS T E w (fun b=>f (χ b)) j ad xs c :=
 h.J1 m0 (fun b hb=>by show f (χ b)=j; rw [hb,hf])
theorem kr {p:Prop} (h:p:=by kernel_rfl):p:=h
@[reducible] def Sl {α:Type} (a:Option Addr) (xs:List α) (c:Nat):SV:=V (.slice a xs.length c)
def rks (sy:Sy):List Nat:=sy.bc.map (fun q=>q.1)
def rbs (sy:Sy):List Nat:=sy.boxes.map (fun q=>q.1)
theorem oP {all l:List Oper} {Q:Exit→Act→World→Prop} (T:bh P tab) (h:St n sy ρ a w χ) (m:Nat) (sy':Sy) (k:∀ a,St n sy' ρ a w χ→wpList P all.toArray Q (l.drop m) a w) (sp:List Nat:=[])
  (e:run tab false sp n all (l.take m) (rks sy') (rbs sy') sy=some sy':=by kernel_rfl):wpList P all.toArray Q l a w:=Ti T h m e k
section
variable {nrm ret:Act→World→Prop} {exs:List (Nat × (Act→World→Prop))}
theorem eP {all l:List Oper} {K:Act→World→Prop} (T:bh P tab) (h:St n sy ρ a w χ) (sy':Sy) (k:∀ a,St n sy' ρ a w χ→K a w) (sp:List Nat:=[])
  (e:run tab false sp n all l (rks sy') (rbs sy') sy=some sy':=by kernel_rfl):wpList P all.toArray (qs K ret exs) l a w:=QJ T h e k
theorem eM {all l:List Oper} {K:Act→World→Prop} (T:bh P tab) (h:St n sy ρ a w χ) (sy':Sy) (k:∀ ρ' a' w' χ',St n sy' ρ' a' w' χ'→Ev ia w χ w' χ'→(∀ id,n < id→ρ' id=ρ id)→K a' w') (sp:List Nat:=[])
  (e:run tab true sp n all l (rks sy') (rbs sy') sy=some sy':=by kernel_rfl):wpList P all.toArray (qs K ret exs) l a w:=QK T h e k
theorem rP {id:Nat} {l:List Oper} {y:Code} (T:bh P tab) (h:St n sy ρ a w χ) (sy':Sy) (k:∀ a,St n sy' ρ a w χ→y.wp P (qs nrm ret exs) a w) (sp:List Nat:=[])
  (e:run tab false sp n l l (rks sy') (rbs sy') sy=some sy':=by kernel_rfl):(Code.seq (Code.region id l.toArray false) y).wp P (qs nrm ret exs) a w:=Tb T h e k
theorem rM {id:Nat} {l:List Oper} {y:Code} (T:bh P tab) (h:St n sy ρ a w χ) (sy':Sy) (k:∀ ρ' a' w' χ',St n sy' ρ' a' w' χ'→Ev ia w χ w' χ'→(∀ id,n < id→ρ' id=ρ id)→y.wp P (qs nrm ret exs) a' w') (sp:List Nat:=[])
  (e:run tab true sp n l l (rks sy') (rbs sy') sy=some sy':=by kernel_rfl):(Code.seq (Code.region id l.toArray false) y).wp P (qs nrm ret exs) a w:=Tc T h e k
theorem St.sl (h:St n sy ρ a w χ) (sy':Sy) (e:Sv.bW (rks sy') (rbs sy') sy=sy':=by kernel_rfl):St n sy' ρ a w χ:=h.sel _ _ e
theorem tk {w0:World} {χ0:Nat→Nat} {bxs:List (Nat × (Nat × List SV))} {listed:Array Bool} {m:Nat} (TT:bh P tab) (is bks:List Nat) (h:St n sy ρ a w χ) (H:br w0 χ0 bxs ρ w) (listed':Array Bool) (fuel:Nat) (sy':Sy)
  (k:∀ a',St n sy' ρ a' w χ→Dr P all (qs nrm ret exs) (br w0 χ0 bxs ρ) listed' fuel a' w)
  (oe:Region.noSelect all.toArray=true:=by kernel_rfl) (hn:Nat.ble n 999=true:=by kernel_rfl) (hb:oM bks sy=bxs:=by kernel_rfl)
  (e:(match iV tab n all bks is listed sy with | some (l,s)=>some (l,(⟨(bW (rks sy') [] s).bc,sy.boxes⟩:Sy)) | none=>none)=some (listed',sy'):=by kernel_rfl) (hf:m=fuel+is.length:=by rfl) :
  Dr P all (qs nrm ret exs) (br w0 χ0 bxs ρ) listed m a w:=take TT is bks (rks sy') h oe hn hb H e hf k
end
end ops
end
end Go.Sv
