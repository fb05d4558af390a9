/- The third part of the walk library. -/
import Derived.Test.YteahldlmkheleaaGreatSw
namespace Go.Sv
open Go
section
variable {P:Program}
section ops
variable {tab:Tab} {n:Nat} {sy:Sy} {ρ:Nat→Nat} {a:Act} {w:World} {χ:Nat→Nat} {all:List Oper} {Q:Exit→Act→World→Prop} {K:Act→World→Prop}
variable {d ty:Nat} {pos:String} {af:Array Edge} {g:Option (Nat × Bool)}
structure KOK {κ:Type} [DecidableEq κ] (P:Program) (kt:Nat) (kv:κ→Value):Prop where
 ck:∀ (k:κ) (b:Bool) (w:World),(Instr.checkKey b 10000 kt (kv k)).run P w=.ok () w
 un:∃ d,P.underlying kt=some d∧∀ a b,Instr.sameNow d (kv a) (kv b)=none
 eq:∀ (a b:κ) (w:World),(Op.equal kt (kv a) (kv b)).run P w=.ok (decide (a=b)) w
 ks:∀ (k:κ) (w:World),(Instr.keyThatStays (kv k) (kv k)).run P w=.ok (kv k) w
 inj:∀ a b,kv a=kv b→a=b
def ELS {κ α:Type} (kv:κ→Value) (T:bW α) (ag:Bool) (w:World) (χ:Nat→Nat):List MapEntry→List (κ × α)→Prop
 | [],[]=>True
 | e :: es,(k,x) :: m=>e.key=kv k∧VR T ag w χ e.val x∧ELS kv T ag w χ es m
 | _,_=>False
theorem ELS.mono {κ α:Type} {kv:κ→Value} {T:bW α} {ag:Bool} {w':World} {χ':Nat→Nat} (mm:M0 w χ w' χ'):∀ {es:List MapEntry} {m:List (κ × α)},ELS kv T ag w χ es m→ELS kv T ag w' χ' es m
 | [],[],h=>h
 | _ :: _,(_,_) :: _,h=>⟨h.1,h.2.1.mono mm,ELS.mono mm h.2.2⟩
 | [],_ :: _,h=>h.elim
 | _ :: _,[],h=>h.elim
theorem ELS.find {κ α:Type} [DecidableEq κ] {kv:κ→Value} {T:bW α} {ag:Bool} {kt:Nat} (H:KOK P kt kv) (k:κ):∀ {es:List MapEntry} {m:List (κ × α)} (i:Nat),ELS kv T ag w χ es m →
  ((∀ w0,(Instr.findAsking kt (kv k) es i).run P w0=.ok none w0)∧aF m k=none∧(∀ x∈es,x.key≠kv k)∧∀ (x:α) (e:MapEntry),e.key=kv k→VR T ag w χ e.val x→ELS kv T ag w χ (es++[e]) (dv m k x)) ∨
  ∃ j e x,(∀ w0,(Instr.findAsking kt (kv k) es i).run P w0=.ok (some (i+j,e.val)) w0)∧es[j]?=some e∧e.key=kv k∧aF m k=some x∧VR T ag w χ e.val x ∧
   ∀ (f:MapEntry→MapEntry) (y:α),(f e).key=kv k→VR T ag w χ (f e).val y→ELS kv T ag w χ (es.modify j f) (dv m k y)
 | [],[],i,_=>.inl ⟨fun _=>by simp [Instr.findAsking],rfl,by simp,fun x e h1 h2=>⟨h1,h2,trivial⟩⟩
 | e :: es,(j,x) :: m,i,h=>by
  obtain ⟨h1,h2,h3⟩:=h
  by_cases hk:k=j
  ·subst hk
   refine .inr ⟨0,e,x,fun w0=>?_,rfl,h1,by simp [aF],h2,fun f y I8 MP=>?_⟩
   ·simp [Instr.findAsking,h1,H.eq,Result.andThen]
   ·simp only [dv,if_true,List.modify_zero_cons]
    exact ⟨I8,MP,h3⟩
  ·have xJ:¬ j=k:=fun q=>hk q.symm
   have st:∀ w0,(Instr.findAsking kt (kv k) (e :: es) i).run P w0=(Instr.findAsking kt (kv k) es (i+1)).run P w0:=fun w0=>by
    simp [Instr.findAsking,h1,H.eq,Result.andThen,hk]
   have hne:e.key≠kv k:=by rw [h1]; exact fun q=>hk (H.inj _ _ q).symm
   rcases ELS.find H k (i+1) h3 with ⟨g1,g2,g0,g3⟩ | ⟨q,e',x',g1,g2,g3,g4,g5,g6⟩
   ·refine .inl ⟨fun w0=>by rw [st,g1],by simp only [aF,if_neg xJ,g2],fun x hx=>?_,fun y e' a b=>?_⟩
    ·rcases List.mem_cons.1 hx with rfl | hx
     ·exact hne
     ·exact g0 x hx
    ·simp only [dv,if_neg xJ,List.cons_append]
     exact ⟨h1,h2,g3 y e' a b⟩
   ·refine .inr ⟨q+1,e',x',fun w0=>?_,by simpa using g2,g3,by simp only [aF,if_neg xJ,g4],g5,fun f y a b=>?_⟩
    ·rw [st,g1]
     congr 3; omega
    ·simp only [dv,if_neg xJ,List.modify_succ_cons]
     exact ⟨h1,h2,g6 f y a b⟩
 | [],_ :: _,_,h=>h.elim
 | _ :: _,[],_,h=>h.elim
theorem iQ {κ:Type} [DecidableEq κ] {kv:κ→Value} {kt:Nat} (H:KOK P kt kv) (k:κ) {es:List MapEntry} {r:Option (Nat × Value)} (he:∀ x∈es,∃ q,x.key=kv q) (h:∀ w0,(Instr.findAsking kt (kv k) es 0).run P w0=.ok r w0) (w0:World):(Instr.findKey kt (kv k) es).run P w0=.ok r w0:=by
 obtain ⟨d,hd,hn⟩:=H.un
 cases es with
 | nil =>
  have:=h w0
  simp [Instr.findAsking] at this
  simp [Instr.findKey,run_underlying hd,Result.andThen,Instr.findNow,this]
 | cons e es =>
  obtain ⟨q,hq⟩:=he e (by simp)
  simp [Instr.findKey,run_underlying hd,Result.andThen,Instr.findNow,hq,hn]
  exact h w0
theorem ELS.keys {κ α:Type} {kv:κ→Value} {T:bW α} {ag:Bool}:∀ {es:List MapEntry} {m:List (κ × α)},ELS kv T ag w χ es m→∀ x∈es,∃ q,x.key=kv q
 | [],[],_=>by simp
 | e :: es,(k,x) :: m,h=>by
  intro y hy
  rcases List.mem_cons.1 hy with rfl | hy
  ·exact ⟨k,h.1⟩
  ·exact ELS.keys h.2.2 y hy
 | [],_ :: _,h=>h.elim
 | _ :: _,[],h=>h.elim
def OMS {κ α:Type} (kv:κ→Value) (T:bW α) (ag:Bool) (w:World) (χ:Nat→Nat) (col r:Nat) (m:List (κ × α)):Prop :=
 χ r=col∧∃ es clock,w.heap[r]?=some (.map es clock)∧MapKept.Stamped es clock∧ELS kv T ag w χ es.toList m
theorem OMS.mv {κ α:Type} {kv:κ→Value} {T:bW α} {ag:Bool} {w w':World} {χ χ':Nat→Nat} {col r:Nat} {m:List (κ × α)} {p:Nat→Bool} (h:OMS kv T ag w χ col r m) (e:Ev p w χ w' χ') (hp:p col=false) (h0:p 0=false):OMS kv T ag w' χ' col r m:=by
 obtain ⟨h1,es,clock,h2,hs,h3⟩:=h
 obtain ⟨k1,k2⟩:=e.eT r (fH h2) (by rw [h1]; exact hp)
 exact ⟨k2.trans h1,es,clock,k1.trans h2,hs,h3.mono (e.m0 h0)⟩
theorem OMS.map {κ α:Type} {kv:κ→Value} {T:bW α} {ag:Bool} {i j r:Nat} {m:List (κ × α)} {f:Nat→Nat} (h:OMS kv T ag w χ i r m) (hf:f i=j) (m0:M0 w χ w (fun b=>f (χ b))):OMS kv T ag w (fun b=>f (χ b)) j r m:=by
 obtain ⟨h1,es,clock,h2,hs,h3⟩:=h
 exact ⟨by show f (χ r)=j; rw [h1,hf],es,clock,h2,hs,h3.mono m0⟩
theorem OMS.out {κ α:Type} {kv:κ→Value} {T:bW α} {ag:Bool} {k i r:Nat} {m:List (κ × α)} {χ':Nat→Nat} {f:Nat→Nat} (h:OMS kv T ag w χ k r m) (mm:M0 w χ w χ') (hC:∀ b,χ b≠0→χ b≠1000→χ' b=f (χ b)) (h0:Nat.ble 1001 k=true) (hf:f k=i):OMS kv T ag w χ' i r m:=by
 obtain ⟨h1,es,clock,h2,hs,h3⟩:=h
 have:=Nat.le_of_ble_eq_true h0
 exact ⟨by rw [hC r (by omega) (by omega),h1,hf],es,clock,h2,hs,h3.mono mm⟩
def OME {κ α:Type} [DecidableEq κ] (kv:κ→Value) (T:bW α) (ag:Bool) (w:World) (χ:Nat→Nat) (col r:Nat) (m:List (κ × α)) (q:κ) (z:α) (b:Nat):Prop :=
 χ r=col∧∃ es clock m',w.heap[r]?=some (.map es clock)∧MapKept.Stamped es clock∧ELS kv T ag w χ es.toList m'∧aF m' q=some ((aF m q).getD z)∧(∀ y,dv m' q y=dv m q y)∧∃ (j:Nat) (e:MapEntry),es[j]?=some e∧e.key=kv q∧e.born=b
theorem OME.mv {κ α:Type} [DecidableEq κ] {kv:κ→Value} {T:bW α} {ag:Bool} {w w':World} {χ χ':Nat→Nat} {col r b:Nat} {m:List (κ × α)} {q:κ} {z:α} {p:Nat→Bool} (h:OME kv T ag w χ col r m q z b) (e:Ev p w χ w' χ') (hp:p col=false) (h0:p 0=false):OME kv T ag w' χ' col r m q z b:=by
 obtain ⟨h1,es,clock,m',h2,hs,h3,h4⟩:=h
 obtain ⟨k1,k2⟩:=e.eT r (fH h2) (by rw [h1]; exact hp)
 exact ⟨k2.trans h1,es,clock,m',k1.trans h2,hs,h3.mono (e.m0 h0),h4⟩
theorem B3 {κ α:Type} (kv:κ→Value) (T:bW α) (ag:Bool) (col:Nat) {t:Nat} (h:St n sy ρ a w χ) (hw:ca all sy g=true) (hd:Nat.blt d n=true)
  (k:∀ r a' w' χ',Ev aL w χ w' χ'→OMS kv T ag w' χ' col r ([]:List (κ × α))→St n ⟨(d,V (.map (some r))) :: sy.bK,sy.boxes⟩ ρ a' w' χ'→K a' w') :
  wp1 P all.toArray Q ⟨some d,.makeMap t none,ty,pos,af,g⟩ K a w:=by
 have ev:=oB w χ (.map #[] 0) col
 refine fQ h hw hd ev (fun _ _=>rfl) (v:=.map (some w.heap.size)) (w':=w.alloc (.map #[] 0)) ?_ (fun a' h'=>k _ a' _ _ ev ⟨by simp,#[],0,heap_alloc_new w _,MapKept.stamped_empty 0,trivial⟩ h')
 simp [execOp,Instr.makeMap,Result.andThen]
theorem B2 {κ α:Type} [DecidableEq κ] (kv:κ→Value) (T:bW α) (ag:Bool) {t kt et col r:Nat} {x y:Operand} {m:List (κ × α)} {z:α} (q:κ) {zv:Value} (h:St n sy ρ a w χ) (hw:ca all sy g=true) (hd:Nat.blt d n=true)
  (hx:evo sy x=some (V (.map (some r)))) (hy:evo sy y=some (V (kv q))) (hm:P.underlying t=some (.map kt et)) (H:KOK P kt kv) (hz:(P.info? et).bind (·.zero)=some zv) (wE:VR T ag w χ zv z) (hO:OMS kv T ag w χ col r m)
  (k:∀ v a',VR T ag w χ v ((aF m q).getD z)→St n ⟨(d,V v) :: sy.bK,sy.boxes⟩ ρ a' w χ→K a' w) :
  wp1 P all.toArray Q ⟨some d,.lookup t x y false,ty,pos,af,g⟩ K a w:=by
 obtain ⟨h1,es,clock,h2,hs,h3⟩:=hO
 have ex:a.eval x=.map (some r):=h.evo hx
 have ey:a.eval y=kv q:=h.evo hy
 obtain ⟨zs,G5,G4⟩:=Option.bind_eq_some_iff.1 hz
 have xG:(zeroValue et).run P w=.ok zv w:=by simp [zeroValue,typeInfo,G5,G4]
 rcases ELS.find H q 0 h3 with ⟨g1,g2,_⟩ | ⟨j,e,x',g1,g2,g3,g4,g5,_⟩
 ·refine fQ h hw hd (Ev.refl aL w χ) (fun _ _=>rfl) (v:=zv) (w':=w) ?_ (fun a' h'=>k _ a' (by rw [g2]; exact wE) h')
  simp [execOp,ex,ey,Instr.lookup,run_underlying hm,MapKept.run_getObj_map h2,H.ck,iQ H q h3.keys g1,xG]
 ·refine fQ h hw hd (Ev.refl aL w χ) (fun _ _=>rfl) (v:=e.val) (w':=w) ?_ (fun a' h'=>k _ a' (by rw [g4]; exact g5) h')
  simp [execOp,ex,ey,Instr.lookup,run_underlying hm,MapKept.run_getObj_map h2,H.ck,iQ H q h3.keys g1]
theorem GA {κ α:Type} [DecidableEq κ] (kv:κ→Value) (T:bW α) (ag:Bool) {t kt et col r b:Nat} {x y:Operand} {m:List (κ × α)} {z:α} (q:κ) (h:St n sy ρ a w χ) (hw:ca all sy g=true) (hd:Nat.blt d n=true)
  (hx:evo sy x=some (V (.map (some r)))) (hy:evo sy y=some (V (kv q))) (hm:P.underlying t=some (.map kt et)) (H:KOK P kt kv) (hO:OME kv T ag w χ col r m q z b)
  (k:∀ v a',VR T ag w χ v ((aF m q).getD z)→St n ⟨(d,V v) :: sy.bK,sy.boxes⟩ ρ a' w χ→K a' w) :
  wp1 P all.toArray Q ⟨some d,.lookup t x y false,ty,pos,af,g⟩ K a w:=by
 obtain ⟨h1,es,clock,m',h2,hs,h3,h4,_⟩:=hO
 have ex:a.eval x=.map (some r):=h.evo hx
 have ey:a.eval y=kv q:=h.evo hy
 rcases ELS.find H q 0 h3 with ⟨g1,g2,_⟩ | ⟨j,e,x',g1,g2,g3,g4,g5,_⟩
 ·rw [h4] at g2; cases g2
 ·have IM:x'=(aF m q).getD z:=by rw [h4] at g4; exact (Option.some.inj g4).symm
  subst IM
  refine fQ h hw hd (Ev.refl aL w χ) (fun _ _=>rfl) (v:=e.val) (w':=w) ?_ (fun a' h'=>k _ a' g5 h')
  simp [execOp,ex,ey,Instr.lookup,run_underlying hm,MapKept.run_getObj_map h2,H.ck,iQ H q h3.keys g1]
theorem oY {κ α:Type} [DecidableEq κ]:∀ (m:List (κ × α)) (k:κ) (x y:α),dv (dv m k x) k y=dv m k y
 | [],k,x,y=>by simp [dv]
 | (i,u) :: m,k,x,y=>by
  simp only [dv]
  by_cases h:i=k
  ·simp [h,dv]
  ·simp [h,dv,oY m k x y]
theorem ud {r col:Nat} {es':Array MapEntry} {clock':Nat} {o:Obj} (h1:χ r=col) (h2:w.heap[r]?=some o):Ev (fZ col) w χ { w with heap:=w.heap.setIfInBounds r (.map es' clock') } χ∧({ w with heap:=w.heap.setIfInBounds r (.map es' clock') }:World).heap[r]?=some (.map es' clock'):=by
 have hr:r < w.heap.size:=fH h2
 refine ⟨⟨rfl,rfl,rfl,by simp,fun b' _ hp=>⟨?_,rfl⟩⟩,by simp [Array.getElem?_setIfInBounds,hr]⟩
 have hne:r≠b':=by intro e; subst e; rw [h1] at hp; simp [fZ] at hp
 simp [Array.getElem?_setIfInBounds,hne]
theorem Ff {κ α:Type} [DecidableEq κ] (kv:κ→Value) (T:bW α) (ag:Bool) {t kt et col r:Nat} {x y:Operand} {m:List (κ × α)} {z:α} (q:κ) {zv:Value} (h:St n sy ρ a w χ) (hw:ca all sy g=true) (hd:Nat.blt d n=true)
  (hx:evo sy x=some (V (.map (some r)))) (hy:evo sy y=some (V (kv q))) (hm:P.underlying t=some (.map kt et)) (H:KOK P kt kv) (hz:(P.info? et).bind (·.zero)=some zv) (wE:VR T ag w χ zv z) (jF:Nat.ble 1000 col=true) (hO:OMS kv T ag w χ col r m)
  (k:∀ v b a' w',Ev (fZ col) w χ w' χ→OME kv T ag w' χ col r m q z b→VR T ag w' χ v ((aF m q).getD z)→St n ⟨(d,V (.tuple #[v,.int .i64 (b:Int)])) :: sy.bK,sy.boxes⟩ ρ a' w' χ→K a' w') :
  wp1 P all.toArray Q ⟨some d,.mapEntry t x y,ty,pos,af,g⟩ K a w:=by
 obtain ⟨h1,es,clock,h2,hs,h3⟩:=hO
 have ex:a.eval x=.map (some r):=h.evo hx
 have ey:a.eval y=kv q:=h.evo hy
 have nq:col≠0:=by have:=Nat.le_of_ble_eq_true jF; omega
 have h0:fZ col 0=false:=by cases h:fZ col 0 with | false=>rfl | true=>exact absurd (Nat.eq_of_beq_eq_true h).symm nq
 obtain ⟨zs,G5,G4⟩:=Option.bind_eq_some_iff.1 hz
 have xG:(zeroValue et).run P w=.ok zv w:=by simp [zeroValue,typeInfo,G5,G4]
 rcases ELS.find H q 0 h3 with ⟨g1,g2,g0,g3⟩ | ⟨j,e,x',g1,g2,g3,g4,g5,g6⟩
 ·obtain ⟨ev,hh⟩:=ud (es':=es.push { key:=kv q,val:=zv,born:=clock }) (clock':=clock+1) h1 h2
  have gJ:=(g3 z { key:=kv q,val:=zv,born:=clock } rfl wE).mono (ev.m0 h0)
  refine fQ h hw hd ev (cA jF) (v:=.tuple #[zv,.int .i64 (clock:Int)]) ?_ (fun a' h'=>k zv clock a' _ ev ⟨h1,_,_,dv m q z,hh,MapKept.stamped_push hs g0,by rw [Array.toList_push]; exact gJ,by rw [fm,if_pos rfl,g2]; rfl,fun y=>oY _ _ _ _,es.size,{ key:=kv q,val:=zv,born:=clock },by simp,rfl,rfl⟩ (by rw [g2]; exact wE.mono (ev.m0 h0)) h')
  simp [execOp,ex,ey,Instr.mapEntry,run_underlying hm,MapKept.run_getObj_map h2,H.ck,iQ H q h3.keys g1,xG,MapKept.run_setObj_map _ h2,goInt]
 ·have hj:es[j]?=some e:=by simpa using g2
  obtain ⟨ev,hh⟩:=ud (es':=es.modify j fun e=>{ e with key:=kv q }) (clock':=clock) h1 h2
  have gJ:=(g6 (fun e=>{ e with key:=kv q }) x' rfl g5).mono (ev.m0 h0)
  have kp:MapKept.Stamped (es.modify j fun e=>{ e with key:=kv q }) clock:=MapKept.stamped_modify hs _ _ (fun _ _=>rfl) (fun e' _ sR=>by rw [hj] at sR; cases sR; exact g3.symm)
  refine fQ h hw hd ev (cA jF) (v:=.tuple #[e.val,.int .i64 (e.born:Int)]) ?_ (fun a' h'=>k e.val e.born a' _ ev ⟨h1,_,_,dv m q x',hh,kp,by rw [Array.toList_modify]; exact gJ,by rw [fm,if_pos rfl,g4]; rfl,fun y=>oY _ _ _ _,j,{ e with key:=kv q },by simp [Array.getElem?_modify,hj],rfl,rfl⟩ (by rw [g4]; exact g5.mono (ev.m0 h0)) h')
  simp [execOp,ex,ey,Instr.mapEntry,run_underlying hm,MapKept.run_getObj_map h2,H.ck,iQ H q h3.keys g1,hj,g3,H.ks,MapKept.run_setObj_map _ h2,goInt]
theorem q7 {α:Type} {l:List α} (h:l.Nodup) {i j:Nat} (hi:i < l.length) (hj:j < l.length) (e:l[i]=l[j]):i=j:=by
 have p:=List.pairwise_iff_getElem.1 h
 rcases Nat.lt_trichotomy i j with h1 | h1 | h1
 ·exact absurd e (p i j hi hj h1)
 ·exact h1
 ·exact absurd e.symm (p j i hj hi h1)
theorem uh {es:Array MapEntry} {clock j:Nat} {e:MapEntry} (hs:MapKept.Stamped es clock) (hj:es[j]?=some e):es.findIdx? (fun x=>(x.born:Int) == (e.born:Int))=some j:=by
 rw [Array.findIdx?_eq_some_iff_getElem]
 have ik:j < es.size:=by
  by_cases h:j < es.size
  ·exact h
  ·rw [Array.getElem?_eq_none (by omega)] at hj; cases hj
 have he:es[j]=e:=by rw [Array.getElem?_eq_getElem ik] at hj; exact Option.some.inj hj
 refine ⟨ik,by rw [he]; simp,fun i hi hb=>?_⟩
 have hb:(es[i]).born=e.born:=by
  have h9:((es[i]).born:Int)=(e.born:Int):=by simpa using hb
  omega
 have nd:=hs.2.1
 have:=q7 nd (i:=i) (j:=j) (by simp; omega) (by simpa using ik) (by simp [he,hb])
 omega
theorem Lq {κ α:Type} [DecidableEq κ] (kv:κ→Value) (T:bW α) (ag:Bool) {t kt col r b:Nat} {x y zo:Operand} {m:List (κ × α)} {v:SV} {z u:α} (q:κ) (h:St n sy ρ a w χ) (hw:ca all sy g=true)
  (hx:evo sy x=some (V (.map (some r)))) (hy:evo sy y=some (V (.int .i64 (b:Int)))) (hv:evo sy zo=some v) (H:KOK P kt kv) (jF:Nat.ble 1000 col=true) (hO:OME kv T ag w χ col r m q z b)
  (hR:∀ {w':World},M0 w χ w' χ→VR T ag w' χ (bD ρ v) u)
  (k:∀ a' w',Ev (fZ col) w χ w' χ→OMS kv T ag w' χ col r (dv m q u)→St n sy ρ a' w' χ→K a' w') :
  wp1 P all.toArray Q ⟨none,.entryStore t x y zo,ty,pos,af,g⟩ K a w:=by
 obtain ⟨h1,es,clock,m',h2,hs,h3,h4,h5,j,e,hj,hk,hb⟩:=hO
 have ex:a.eval x=.map (some r):=h.evo hx
 have ey:a.eval y=.int .i64 (b:Int):=h.evo hy
 have ez:a.eval zo=bD ρ v:=h.evo hv
 have nq:col≠0:=by have:=Nat.le_of_ble_eq_true jF; omega
 have h0:fZ col 0=false:=by cases h:fZ col 0 with | false=>rfl | true=>exact absurd (Nat.eq_of_beq_eq_true h).symm nq
 refine fL (dH h (o:=⟨none,.entryStore t x y zo,ty,pos,af,g⟩) hw) ?_
 rcases ELS.find H q 0 h3 with ⟨g1,g2,_⟩ | ⟨j',e',x',g1,g2,g3,g4,g5,g6⟩
 ·rw [h4] at g2; cases g2
 ·have QF:j'=j:=by
   have DD:es[j']?=some e':=by simpa using g2
   have ik:j < es.size:=by
    by_cases h:j < es.size
    ·exact h
    ·rw [Array.getElem?_eq_none (by omega)] at hj; cases hj
   have Cl:j' < es.size:=by
    by_cases h:j' < es.size
    ·exact h
    ·rw [Array.getElem?_eq_none (by omega)] at DD; cases DD
   have a1:es[j]=e:=by rw [Array.getElem?_eq_getElem ik] at hj; exact Option.some.inj hj
   have a2:es[j']=e':=by rw [Array.getElem?_eq_getElem Cl] at DD; exact Option.some.inj DD
   exact q7 hs.2.2 (i:=j') (j:=j) (by simpa using Cl) (by simpa using ik) (by simp [a1,a2,g3,hk])
  subst QF
  have QN:e'=e:=by
   have h9:es[j']?=some e':=by simpa using g2
   rw [hj] at h9; exact (Option.some.inj h9).symm
  subst QN
  obtain ⟨ev,hh⟩:=ud (es':=es.modify j' fun e=>{ e with val:=bD ρ v }) (clock':=clock) h1 h2
  have gJ:ELS kv T ag { w with heap:=w.heap.setIfInBounds r (.map (es.modify j' fun e=>{ e with val:=bD ρ v }) clock) } χ (es.toList.modify j' fun e=>{ e with val:=bD ρ v }) (dv m' q u):=by
   have Rf:=h3.mono (ev.m0 h0)
   rcases ELS.find H q 0 Rf with ⟨_,ON,_⟩ | ⟨j2,e2,x2,_,f2,f3,f4,_,f6⟩
   ·rw [h4] at ON; cases ON
   ·have DD:es[j2]?=some e2:=by simpa using f2
    have ik:j' < es.size:=by
     by_cases h:j' < es.size
     ·exact h
     ·rw [Array.getElem?_eq_none (by omega)] at hj; cases hj
    have Cl:j2 < es.size:=by
     by_cases h:j2 < es.size
     ·exact h
     ·rw [Array.getElem?_eq_none (by omega)] at DD; cases DD
    have a1:es[j']=e':=by rw [Array.getElem?_eq_getElem ik] at hj; exact Option.some.inj hj
    have a2:es[j2]=e2:=by rw [Array.getElem?_eq_getElem Cl] at DD; exact Option.some.inj DD
    have:j2=j':=q7 hs.2.2 (i:=j2) (j:=j') (by simpa using Cl) (by simpa using ik) (by simp [a1,a2,f3,hk])
    subst this
    exact f6 _ u f3 (hR (ev.m0 h0))
  rw [h5] at gJ
  have kp:MapKept.Stamped (es.modify j' fun e=>{ e with val:=bD ρ v }) clock:=MapKept.stamped_modify hs _ _ (fun _ _=>rfl) (fun _ _ _=>rfl)
  have hr:(execOp a.eval ⟨none,.entryStore t x y zo,ty,pos,af,g⟩).run P w=.ok .skip { w with heap:=w.heap.setIfInBounds r (.map (es.modify j' fun e=>{ e with val:=bD ρ v }) clock) }:=by
   have hf:=uh hs hj
   rw [hb] at hf
   simp [execOp,ex,ey,ez,Instr.entryStore,MapKept.run_getObj_map h2,asInt,asIntOf,hf,MapKept.run_setObj_map _ h2]
  unfold Oper.wp
  rw [hr]
  exact k _ _ ev ⟨h1,_,_,hh,kp,by rw [Array.toList_modify]; exact gJ⟩ (h.ev ev (cA jF))
theorem Jy (i:Nat) {nrm ret:Act→World→Prop} {eH:List (Nat × (Act→World→Prop))} {S:World→Prop} {listed:Array Bool} {fuel:Nat} {x y:Operand} {t yt:Nat} {k k2:IntKind} {p q:Int} (h:St n sy ρ a w χ) (ou:Region.noSelect all.toArray=true) (hd:Nat.blt d n=true) (hc:(Region.free .any all.toArray listed i && (Region.ready .any all.toArray listed).contains i)=true) (ho:all[i]?=some ⟨some d,.binOp .shl t x y yt,ty,pos,af,g⟩) (hw:ca all sy g=true) (H:S w)
  (hx:evo sy x=some (V (.int k p))) (hy:evo sy y=some (V (.int k2 q))) (hq:0≤q) (kk:∀ a',St n ⟨(d,V (.int k (k.wrap (p * 2 ^ (min q.toNat k.bits))))) :: sy.bK,sy.boxes⟩ ρ a' w χ→Dr P all (qs nrm ret eH) S (listed.setIfInBounds i true) fuel a' w):Dr P all (qs nrm ret eH) S listed (fuel+1) a w:=by
 refine qu i h ou hd hc ho hw H (fun w1 _=>?_) kk
 have ex:a.eval x=.int k p:=h.evo hx
 have ey:a.eval y=.int k2 q:=h.evo hy
 have hn:¬ q < 0:=by omega
 have hg:(eqGuard .shl t x y (.int k p) (.int k2 q)).run P w1=.ok () w1:=jC _ _ _ _ _ _ _
 simp [execOp,ex,ey,binOp,Op.shift,hn,hg]
theorem F1 {x y:Operand} {t yt e m c:Nat} {a0:Option Addr} {b:Bool} (h:St n sy ρ a w χ) (hw:ca all sy g=true) (hd:Nat.blt d n=true) (hx:evo sy x=some (V (.slice a0 m c))) (hy:evo sy y=some (V (.slice none 0 0))) (hu:P.underlying t=some (.slice e)) (hb:a0.isNone=b)
  (kk:∀ a',St n ⟨(d,V (.bool b)) :: sy.bK,sy.boxes⟩ ρ a' w χ→K a' w):wp1 P all.toArray Q ⟨some d,.binOp .eql t x y yt,ty,pos,af,g⟩ K a w:=by
 refine fQ h hw hd (Ev.refl aL w χ) (fun _ _=>rfl) (w':=w) ?_ (fun a' h'=>kk a' h')
 have ex:a.eval x=.slice a0 m c:=h.evo hx
 have ey:a.eval y=.slice none 0 0:=h.evo hy
 have hq:(Op.equal t (.slice a0 m c) (.slice none 0 0)).run P w=.ok b w:=by
  subst hb
  unfold Op.equal Op.maxDepth
  rw [show (10000:Nat)=9999+1 from rfl,Op.equalIn]
  cases a0 <;> simp [run_underlying hu,Result.andThen]
 have hg:(eqGuard .eql t x y (.slice a0 m c) (.slice none 0 0)).run P w=.ok () w:=by simp [eqGuard]
 simp [execOp,ex,ey,binOp,hg,hq,Result.andThen]
theorem RS.IH {α:Type} {T:bW α} {a0:Option Addr} {xs:List α} {c:Nat} {b:Bool} (h:RS T w χ a0 xs c) (hb:a0.isNone=b):b=true→xs=[]:=by
 rintro rfl
 cases a0 with
 | none=>exact (h.nil rfl).1
 | some _=>cases hb
theorem OMS.Fg {κ α:Type} {kv:κ→Value} {T:bW α} {ag:Bool} {col c r:Nat} {m:List (κ × α)} (h:OMS kv T ag w χ c r m) (hne:Nat.beq c col=false):OMS kv T ag w (Sv.fb col χ) c r m:=by
 obtain ⟨h1,es,clock,h2,hs,h3⟩:=h
 have hc:¬ c=col:=by intro e; subst e; simp at hne
 exact ⟨by simp [Sv.fb,h1,hc],es,clock,h2,hs,h3.mono (M0.fb col)⟩
theorem ELS.u4 {κ α:Type} {kv:κ→Value} {T:bW α} {ag:Bool} {χ':Nat→Nat} (hfl:∀ {v:Value} {x:α},VR T ag w χ v x→VR T ag w χ' v x):∀ {es:List MapEntry} {m:List (κ × α)},ELS kv T ag w χ es m→ELS kv T ag w χ' es m
 | [],[],h=>h
 | _ :: _,(_,_) :: _,h=>⟨h.1,hfl h.2.1,ELS.u4 hfl h.2.2⟩
 | [],_ :: _,h=>h.elim
 | _ :: _,[],h=>h.elim
theorem OMS.back {κ α:Type} {kv:κ→Value} {T:bW α} {ag:Bool} {w w':World} {χ χ' uF:Nat→Nat} {col r:Nat} {m m0:List (κ × α)} (h:OMS kv T ag w' uF col r m) (h0:OMS kv T ag w χ col r m0) (hk:∀ b,b < w.heap.size→χ' b=χ b) (hfl:∀ {v:Value} {x:α},VR T ag w' uF v x→VR T ag w' χ' v x):OMS kv T ag w' χ' col r m:=by
 obtain ⟨_,es,clock,h2,hs,h3⟩:=h
 obtain ⟨g1,es',clock',g2,_,_⟩:=h0
 exact ⟨(hk r (fH g2)).trans g1,es,clock,h2,hs,h3.u4 hfl⟩
theorem Ret.DW {f:FuncId} {vals:Array Value} {col:Nat} {post:World→(Nat→Nat)→Value→Prop} (h:Ret P f vals aL w (Sv.fb col χ) post):Ret P f vals aL w χ (fun w' χ' v=>∃ uF,(∀ b,uF b≠0→χ' b=uF b)∧post w' uF v) :=
 Calls.mono h fun _ _ ⟨v,χ',h1,h2,h3⟩=>⟨v,_,h1,h2.oQ,χ',fun b hb=>by
  by_cases ik:b < w.heap.size
  ·have hc:=(h2.eT b ik rfl).2
   simp only [ik,if_true]
   rw [hc] at hb ⊢
   unfold Sv.fb at hb ⊢
   split
   ·rename_i e; rw [if_pos e] at hb; exact absurd rfl hb
   ·rfl
  ·simp only [ik,if_false],h3⟩
theorem OS.JS {α:Type} {T:bW α} {E col:Nat} {w':World} {χ' uF:Nat→Nat} {ad:Option Addr} {xs:List α} {c:Nat} (h:OS T E w' uF col ad xs c) (hk:∀ b,uF b≠0→χ' b=uF b) (h0:Nat.beq col 0=false) (hfl:∀ {cs:List Value} {x:α},T.R w' uF cs x→T.R w' χ' cs x):OS T E w' χ' col ad xs c:=by
 refine ⟨h.bnd,?_⟩
 rcases h.row with h1 | ⟨b,cells,ha,hb,hr,h2,h3,h4,h5⟩
 ·exact .inl h1
 ·refine .inr ⟨b,cells,ha,?_,hr,h2,h3,h4,fun i x hx=>hfl (h5 i x hx)⟩
  have hc:uF b≠0:=by rw [hb]; intro e; subst e; simp at h0
  rw [hk b hc,hb]
theorem JR {t:Nat} {x:Operand} {cs:Array Value} {sy':Sy} (h:St n sy ρ a w χ) (hw:ca all sy g=true) (hd:Nat.blt d n=true) (hn:Nat.ble n 999=true) (hx:evo sy x=some (V (.agg cs))) (e:ra sy d t (cellsOf (V (.agg cs)))=some sy')
  (k:∀ ρ' a' w' χ',St n sy' ρ' a' w' χ'→Ev iM w χ w' χ'→(∀ id,id≠d+1→ρ' id=ρ id)→K a' w'):wp1 P all.toArray Q ⟨some d,.box t x,ty,pos,af,g⟩ K a w:=by
 refine fL (dH h (o:=⟨some d,.box t x,ty,pos,af,g⟩) hw) ?_
 have MQ:d < n:=Nat.le_of_ble_eq_true hd
 have KG:=Nat.le_of_ble_eq_true hn
 obtain ⟨s1,s2⟩:=h.box MQ (by simp [iM]; omega) e (by intro c hc; simp only [cellsOf,List.mem_map] at hc; obtain ⟨y,_,rfl⟩:=hc; rfl)
 have hr:(execOp a.eval ⟨some d,.box t x,ty,pos,af,g⟩).run P w=.ok (.value (.pointer (some ⟨w.heap.size,0,none⟩))) (w.alloc (.cells ((cellsOf (V (.agg cs))).map (bD ρ)).toArray t)):=by
  have hc:=jV (ρ:=ρ) (V (.agg cs))
  have Cv:(bD ρ (V (.agg cs))).cells=((cellsOf (V (.agg cs))).map (bD ρ)).toArray:=by rw [← hc]
  simp [execOp,h.evo hx,Instr.box,newVar,newRow,Cv]
 unfold Oper.wp
 rw [hr]
 simp only [Oper.upon]
 exact k _ _ _ _ s1 s2 (fun id hne=>if_neg hne)
theorem bP.Gs {bxs:List (Nat × (Nat × List SV))} {w0:World} {χ0:Nat→Nat} {ρ':Nat→Nat} {k:Nat} (hr:∀ id,id≠k→ρ' id=ρ id) (hb:ni k ⟨[],bxs⟩=true):bP w0 χ0 bxs ρ'=bP w0 χ0 bxs ρ :=
 funext fun _=>propext ⟨fun H=>H.rho hr hb,fun H=>H.rho (fun id h=>(hr id h).symm) hb⟩
theorem Fa {nrm ret:Act→World→Prop} {eH:List (Nat × (Act→World→Prop))} {w0:World} {χ0:Nat→Nat} {bxs:List (Nat × (Nat × List SV))} {listed listed':Array Bool} {m fuel:Nat} {sy':Sy} {ρz:Nat→Nat} {kz:Nat} (TT:aD P tab) (hr:∀ id,id≠kz→ρ id=ρz id) (hno:ni kz ⟨[],bxs⟩=true) (is bks ks:List Nat) (h:St n sy ρ a w χ)
  (ou:Region.noSelect all.toArray=true) (hn:Nat.ble n 999=true) (hb:mX bks sy=bxs) (H:bP w0 χ0 bxs ρz w) (e:(match iP tab n all bks is listed sy with | some (l,s)=>some (l,(⟨(eT ks [] s).bK,sy.boxes⟩:Sy)) | none=>none)=some (listed',sy')) (hf:m=fuel+is.length)
  (k:∀ a',St n sy' ρ a' w χ→Dr P all (qs nrm ret eH) (bP w0 χ0 bxs ρz) listed' fuel a' w):Dr P all (qs nrm ret eH) (bP w0 χ0 bxs ρz) listed m a w:=by
 have he:=bP.Gs (w0:=w0) (χ0:=χ0) hr hno
 rw [← he] at H k ⊢
 exact take TT is bks ks h ou hn hb H e hf k
theorem Cell.conv {b i t:Nat} {vals vals':List Value} (h:Cell w χ b i t vals) (e:vals=vals'):Cell w χ b i t vals':=e ▸ h
def AdF {α:Type} (T:bW α) (ad:Option Addr) (i off:Nat) (A:Addr):Prop:=∃ b,ad=some ⟨b,0,none⟩∧A=⟨b,i * T.n+off,none⟩
theorem AtO.ad {α:Type} {T:bW α} {E col:Nat} {ad:Option Addr} {i:Nat} {A:Addr} (h:AtO T E w χ col ad i A):AdF T ad i 0 A:=by
 obtain ⟨b,_,h1,h2,_⟩:=h
 exact ⟨b,h1,h2⟩
theorem ui {α:Type} {T:bW α} (TT:aD P tab) {t s f off fsz ft i o:Nat} {ad:Option Addr} {A:Addr} (h:St n sy ρ a w χ) (hw:ca all sy g=true) (hd:Nat.blt d n=true) (hs:look sy.bK s=some (V (.pointer (some A)))) (hA:AdF T ad i o A)
  (ht:(match look tab t with | some ⟨_,_,_,_,.struct fs⟩=>fs[f]? | _=>none)=some (off,fsz,ft)) (kJ:Nat.ble 1 fsz=true)
  (k:∀ A' a',AdF T ad i (o+off) A'→St n ⟨(d,V (.pointer (some A'))) :: sy.bK,sy.boxes⟩ ρ a' w χ→K a' w) :
  wp1 P all.toArray Q ⟨some d,.fieldAddr t (.tmp s) f,ty,pos,af,g⟩ K a w:=by
 obtain ⟨b,hb,rfl⟩:=hA
 have es:a.eval (.tmp s)=.pointer (some ⟨b,i * T.n+o,none⟩):=h.evo (x:=.tmp s) hs
 split at ht
 ·rename_i fs ua
  obtain ⟨i',dd,z,hi,o5,hz,IU,mN,lz,ju,kp,_⟩:=cB (TT _ _ ua)
  obtain ⟨l,rfl,hm⟩:=kp _ rfl
  obtain ⟨fd,xM,zc⟩:=lv hm f _ ht
  simp only [Option.map_eq_some_iff,Prod.mk.injEq] at zc
  obtain ⟨j,hj,rfl,rfl,rfl⟩:=zc
  have hne:¬ j.size=0:=by have:=Nat.le_of_ble_eq_true kJ; omega
  simp only [Array.getElem?_toList] at xM
  refine fQ h hw hd (Ev.refl aL w χ) (fun _ _=>rfl) (v:=.pointer (some ⟨b,i * T.n+o+fd.offset,none⟩)) (w':=w) ?_ (fun a' h'=>k _ a' ⟨b,hb,by rw [Nat.add_assoc]⟩ h')
  simp [execOp,es,Instr.fieldAt,run_underlying o5,xM,Instr.sureAddr,fieldPlace,run_sizeOf hj,hne,Addr.add_lit]
 ·cases ht
theorem IG {x:Operand} {A:Addr} (h:St n sy ρ a w χ) (hw:ca all sy g=true) (hd:Nat.blt d n=true) (hx:evo sy x=some (V (.pointer (some A))))
  (k:∀ a',St n ⟨(d,V (.pointer (some A))) :: sy.bK,sy.boxes⟩ ρ a' w χ→K a' w) :
  wp1 P all.toArray Q ⟨some d,.nilCheck x,ty,pos,af,g⟩ K a w:=by
 have es:a.eval x=.pointer (some A):=h.evo hx
 refine fQ h hw hd (Ev.refl aL w χ) (fun _ _=>rfl) (v:=.pointer (some A)) (w':=w) ?_ (fun a' h'=>k a' h')
 simp [execOp,es]
theorem tu {α:Type} [Inhabited α] {T:bW α} (TT:aD P tab) {t E col s m off:Nat} {y:Operand} {ad:Option Addr} {xs:List α} {c i:Nat} {A:Addr} {x:α} {v:SV} (h:St n sy ρ a w χ) (hw:ca all sy g=true) (jF:Nat.ble 1000 col=true)
  (hs:look sy.bK s=some (V (.pointer (some A)))) (hy:evo sy y=some v) (hO:OS T E w χ col ad xs c) (hA:AdF T ad i off A) (hi:i < xs.length) (kJ:pW tab t m=true) (hle:Nat.ble (off+m) T.n=true) (hl:(bD ρ v).cells.size=m)
  (hR:∀ w' χ' cs,T.R w' χ' cs (xs.getD i default)→T.R w' χ' (cs.take off++(bD ρ v).cells.toList++cs.drop (off+m)) x)
  (k:∀ a' w',Ev (fZ col) w χ w' χ→OS T E w' χ col ad (xs.set i x) c→St n sy ρ a' w' χ→K a' w') :
  wp1 P all.toArray Q ⟨none,.store t (.tmp s) y,ty,pos,af,g⟩ K a w:=by
 obtain ⟨b',rS,rfl⟩:=hA
 have hle:=Nat.le_of_ble_eq_true hle
 rcases hO.row with ⟨rfl,rfl,rfl⟩ | ⟨b,cells,xN,hc,hh,I5,wJ,G8,gJ⟩
 ·simp at hi
 ·rw [xN] at rS
  simp only [Option.some.injEq,Addr.mk.injEq,and_true] at rS
  subst rS
  obtain ⟨inf,Hh,hm⟩:=kZ TT kJ
  have IL:=gJ i _ (List.getElem?_eq_getElem hi)
  have OG:xs.getD i default=xs[i]:=by rw [List.getD_eq_getElem?_getD,List.getElem?_eq_getElem hi]; rfl
  have DF:=hR w χ _ (by rw [OG]; exact IL)
  have HW:(bD ρ v).cells.toList.length=m:=by rw [Array.length_toList,hl]
  have vv:∀ c∈(bD ρ v).cells.toList,c.oneCell'=true:=fun c hc=>T.one DF c (by simp [hc])
  have Cg:(bD ρ v).cells.size=inf.size:=by rw [hl,hm]
  have h1:=e9 (m:=T.n) hi
  have h2:=Nat.mul_le_mul_right T.n I5
  rw [Nat.add_mul,Nat.one_mul] at h1
  have xL:i * T.n+off+(bD ρ v).cells.toList.length≤cells.size:=by
   rw [HW,G8]; omega
  have kM:=hh
  obtain ⟨fr,hh,A7⟩:=hh
  have kp:=gu P b (i * T.n+off) E fr (bD ρ v).cells.toList 0 cells w hh A7 (by simpa using xL) vv
  simp only [Nat.add_zero] at kp
  have ev:Ev (fZ col) w χ (w.setRow b (cells.toList.take (i * T.n+off)++(bD ρ v).cells.toList++cells.toList.drop (i * T.n+off+(bD ρ v).cells.toList.length)).toArray) χ :=
   ⟨rfl,rfl,rfl,by simp,fun b' _ hp=>⟨setRow_other _ _ _ _ (by intro e; rw [e,hc] at hp; simp [fZ] at hp),rfl⟩⟩
  have nq:col≠0:=by have:=Nat.le_of_ble_eq_true jF; omega
  have mm:=ev.m0 (show fZ col 0=false by cases h:fZ col 0 with | false=>rfl | true=>exact absurd (Nat.eq_of_beq_eq_true h).symm nq)
  refine fL (dH h (o:=⟨none,.store t (.tmp s) y,ty,pos,af,g⟩) hw) ?_
  have es:a.eval (.tmp s)=.pointer (some ⟨b,i * T.n+off,none⟩):=h.evo (x:=.tmp s) hs
  have xI:(storeVar t ⟨b,i * T.n+off,none⟩ (bD ρ v)).run P w=.ok () (w.setRow b (cells.toList.take (i * T.n+off)++(bD ρ v).cells.toList++cells.toList.drop (i * T.n+off+(bD ρ v).cells.toList.length)).toArray):=by
   simp only [storeVar,Sem.run_bind,run_sizeOf Hh,Result.andThen_ok,Cg,ne_eq,not_true_eq_false,if_false]
   exact kp
  have hr:(execOp a.eval ⟨none,.store t (.tmp s) y,ty,pos,af,g⟩).run P w=.ok .skip (w.setRow b (cells.toList.take (i * T.n+off)++(bD ρ v).cells.toList++cells.toList.drop (i * T.n+off+(bD ρ v).cells.toList.length)).toArray):=by
   simp only [execOp,es,h.evo hy,Instr.storeAt,Instr.sureAddr,Sem.run_bind,Sem.run_pure,Result.andThen_ok,xI]
  unfold Oper.wp
  rw [hr]
  simp only [Oper.upon]
  refine k _ _ ev ⟨by simpa using hO.bnd,.inr ⟨b,_,xN,hc,kM.set (by simp only [List.size_toArray,List.length_append,List.length_take,List.length_drop,Array.length_toList]; omega),by simpa using I5,wJ,?_,?_⟩⟩ (h.ev ev (cA jF))
  ·simp only [List.size_toArray,List.length_append,List.length_take,List.length_drop,Array.length_toList]
   omega
  ·intro j z hz
   have HX:j < xs.length:=by have:=(List.getElem?_eq_some_iff.1 hz).1; simpa using this
   rw [List.getElem?_set] at hz
   have M7:=e9 (m:=T.n) HX
   rw [Nat.add_mul,Nat.one_mul] at M7
   have As:cells.toList.length=cells.size:=Array.length_toList
   have Am:(cells.toList.take (i * T.n+off)).length=i * T.n+off:=by simp; omega
   unfold chunk
   simp only [Nat.zero_add]
   by_cases xK:i=j
   ·subst xK
    rw [if_pos rfl] at hz
    split at hz
    ·cases hz
     have hx:=hR _ χ _ (by rw [OG]; exact T.mono mm IL)
     unfold chunk at hx
     rw [Nat.zero_add] at hx
     have e:List.take T.n (List.drop (i * T.n) (cells.toList.take (i * T.n+off)++(bD ρ v).cells.toList++cells.toList.drop (i * T.n+off+(bD ρ v).cells.toList.length)))=(List.take T.n (List.drop (i * T.n) cells.toList)).take off++(bD ρ v).cells.toList++(List.take T.n (List.drop (i * T.n) cells.toList)).drop (off+m):=by
      rw [HW]
      generalize hV:(bD ρ v).cells.toList=V at *
      apply List.ext_getElem?
      intro q
      have e1:(List.take off (List.take T.n (List.drop (i * T.n) cells.toList))).length=off:=by simp; omega
      by_cases hq:q < T.n
      ·rw [List.getElem?_take,if_pos hq,List.getElem?_drop]
       by_cases q1:q < off
       ·rw [List.append_assoc,List.getElem?_append_left (by omega),List.getElem?_take,if_pos (by omega),List.append_assoc,List.getElem?_append_left (by omega),List.getElem?_take,if_pos q1,List.getElem?_take,if_pos hq,List.getElem?_drop]
       ·by_cases q2:q < off+m
        ·rw [List.append_assoc,List.getElem?_append_right (by omega),List.getElem?_append_left (by omega),List.append_assoc,List.getElem?_append_right (by omega),List.getElem?_append_left (by omega),Am,e1]
         congr 1; omega
        ·rw [List.getElem?_append_right (by rw [List.length_append]; omega),List.getElem?_append_right (by rw [List.length_append]; omega),List.getElem?_drop,List.getElem?_drop,List.getElem?_take,List.length_append,List.length_append,Am,e1,if_pos (by omega),List.getElem?_drop]
         congr 1; omega
      ·rw [List.getElem?_eq_none (by rw [List.length_take]; omega),List.getElem?_eq_none]
       simp only [List.length_append,List.length_take,List.length_drop]
       omega
     show T.R _ _ (List.take T.n (List.drop (i * T.n) (cells.toList.take (i * T.n+off)++(bD ρ v).cells.toList++cells.toList.drop (i * T.n+off+(bD ρ v).cells.toList.length)))) x
     rw [e]
     exact hx
    ·omega
   ·rw [if_neg xK] at hz
    have hx:=T.mono mm (gJ j z hz)
    unfold chunk at hx
    rw [Nat.zero_add] at hx
    have:List.take T.n (List.drop (j * T.n) (cells.toList.take (i * T.n+off)++(bD ρ v).cells.toList++cells.toList.drop (i * T.n+off+(bD ρ v).cells.toList.length)))=List.take T.n (List.drop (j * T.n) cells.toList):=by
     apply List.ext_getElem?
     intro q
     rw [List.getElem?_take,List.getElem?_take]
     by_cases hq:q < T.n
     ·rw [if_pos hq,if_pos hq,List.getElem?_drop,List.getElem?_drop]
      rcases Nat.lt_or_gt_of_ne xK with ik | hgt
      ·have h3:=Nat.mul_le_mul_right T.n ik
       rw [Nat.succ_mul] at h3
       rw [List.getElem?_append_right (by rw [List.length_append,Am,HW]; omega),List.length_append,Am,HW,List.getElem?_drop]
       congr 1
       omega
      ·have h3:=Nat.mul_le_mul_right T.n hgt
       rw [Nat.succ_mul] at h3
       rw [List.append_assoc,List.getElem?_append_left (by omega),List.getElem?_take,if_pos (by omega)]
     ·rw [if_neg hq,if_neg hq]
    show T.R _ _ (List.take T.n (List.drop (j * T.n) (cells.toList.take (i * T.n+off)++(bD ρ v).cells.toList++cells.toList.drop (i * T.n+off+(bD ρ v).cells.toList.length)))) z
    rw [this]
    exact hx
section
variable {nrm ret:Act→World→Prop} {eH:List (Nat × (Act→World→Prop))} {rg:List (Nat × SV)} {bx:List (Nat × (Nat × List SV))}
def tts (n:Nat):Array Bool:=Array.replicate n true
def edr:List Nat→List (Nat × SV)→List (Nat × SV)
 | _,[]=>[]
 | d,q :: l=>bif d.any (Nat.beq q.1) then edr d l else q :: edr (q.1 :: d) l
def ed (d:List Nat) (nw rg:List (Nat × SV)):List (Nat × SV):=nw++edr (nw.map (fun q=>q.1)++d) rg
theorem oPe {all l:List Oper} {Q:Exit→Act→World→Prop} (T:aD P tab) (h:St n ⟨rg,bx⟩ ρ a w χ) (m:Nat) (d:List Nat) (nw:List (Nat × SV)) (k:∀ a,St n ⟨ed d nw rg,bx⟩ ρ a w χ→wpList P all.toArray Q (l.drop m) a w) (sp:List Nat:=[])
  (e:run tab false sp n all (l.take m) (rks ⟨ed d nw rg,bx⟩) (rbs ⟨ed d nw rg,bx⟩) ⟨rg,bx⟩=some ⟨ed d nw rg,bx⟩:=by kernel_rfl):wpList P all.toArray Q l a w:=oP T h m _ k sp e
theorem ePe {all l:List Oper} {K:Act→World→Prop} (T:aD P tab) (h:St n ⟨rg,bx⟩ ρ a w χ) (d:List Nat) (nw:List (Nat × SV)) (k:∀ a,St n ⟨ed d nw rg,bx⟩ ρ a w χ→K a w) (sp:List Nat:=[])
  (e:run tab false sp n all l (rks ⟨ed d nw rg,bx⟩) (rbs ⟨ed d nw rg,bx⟩) ⟨rg,bx⟩=some ⟨ed d nw rg,bx⟩:=by kernel_rfl):wpList P all.toArray (qs K ret eH) l a w:=eP T h _ k sp e
theorem rPe {id:Nat} {l:List Oper} {y:Code} (T:aD P tab) (h:St n ⟨rg,bx⟩ ρ a w χ) (d:List Nat) (nw:List (Nat × SV)) (k:∀ a,St n ⟨ed d nw rg,bx⟩ ρ a w χ→y.wp P (qs nrm ret eH) a w) (sp:List Nat:=[])
  (e:run tab false sp n l l (rks ⟨ed d nw rg,bx⟩) (rbs ⟨ed d nw rg,bx⟩) ⟨rg,bx⟩=some ⟨ed d nw rg,bx⟩:=by kernel_rfl):(Code.seq (Code.region id l.toArray false) y).wp P (qs nrm ret eH) a w:=rP T h _ k sp e
theorem St.sle (h:St n ⟨rg,bx⟩ ρ a w χ) (d:List Nat) (nw:List (Nat × SV)) (e:Sv.eT (rks ⟨ed d nw rg,bx⟩) (rbs ⟨ed d nw rg,bx⟩) ⟨rg,bx⟩=⟨ed d nw rg,bx⟩:=by kernel_rfl):St n ⟨ed d nw rg,bx⟩ ρ a w χ:=h.sl _ e
theorem tke {w0:World} {χ0:Nat→Nat} {bxs:List (Nat × (Nat × List SV))} {listed:Array Bool} {m:Nat} (TT:aD P tab) (is bks:List Nat) (h:St n ⟨rg,bx⟩ ρ a w χ) (H:bP w0 χ0 bxs ρ w) (listed':Array Bool) (fuel:Nat) (d:List Nat) (nw:List (Nat × SV))
  (k:∀ a',St n ⟨ed d nw rg,bx⟩ ρ a' w χ→Dr P all (qs nrm ret eH) (bP w0 χ0 bxs ρ) listed' fuel a' w)
  (ou:Region.noSelect all.toArray=true:=by kernel_rfl) (hn:Nat.ble n 999=true:=by kernel_rfl) (hb:mX bks ⟨rg,bx⟩=bxs:=by kernel_rfl)
  (e:(match iP tab n all bks is listed ⟨rg,bx⟩ with | some (l,s)=>some (l,(⟨(eT (rks ⟨ed d nw rg,bx⟩) [] s).bK,bx⟩:Sy)) | none=>none)=some (listed',⟨ed d nw rg,bx⟩):=by as_aux_lemma=>kernel_rfl) (hf:m=fuel+is.length:=by rfl) :
  Dr P all (qs nrm ret eH) (bP w0 χ0 bxs ρ) listed m a w:=tk TT is bks h H listed' fuel _ k ou hn hb e hf
end
section
variable {p:Nat→Bool} {w':World} {χ':Nat→Nat}
theorem RS.m1 {α:Type} {T:bW α} {a:Option Addr} {xs:List α} {c:Nat} (h:RS T w χ a xs c) (e:Ev p w χ w' χ') (hp:p 0=false:=by rfl):RS T w' χ' a xs c:=h.mv e hp
theorem At.m1 {α:Type} {T:bW α} {A:Addr} {x:α} (h:At T w χ A x) (e:Ev p w χ w' χ') (hp:p 0=false:=by rfl):At T w' χ' A x:=h.mv e hp
theorem RF.m1 {α:Type} {T:bW α} {vs:List Value} {xs:List (List α)} (h:RF T w χ vs xs) (e:Ev p w χ w' χ') (hp:p 0=false:=by rfl):RF T w' χ' vs xs:=h.mv e hp
theorem OS.m2 {α:Type} {T:bW α} {E col:Nat} {a:Option Addr} {xs:List α} {c:Nat} (h:OS T E w χ col a xs c) (e:Ev p w χ w' χ') (hp:p col=false:=by rfl) (h0:p 0=false:=by rfl):OS T E w' χ' col a xs c:=h.mv e hp h0
theorem RW.m2 {α:Type} {T:bW α} {E col:Nat} {vs:List Value} {xs:List (List α)} (h:RW T E w χ col vs xs) (e:Ev p w χ w' χ') (hp:p col=false:=by rfl) (h0:p 0=false:=by rfl):RW T E w' χ' col vs xs:=h.mv e hp h0
theorem OM.m2 {κ α:Type} {R:na κ} {T:bW α} {ag:Bool} {col r:Nat} {m:List (κ × α)} (h:OM R T ag w χ col r m) (e:Ev p w χ w' χ') (hp:p col=false:=by rfl) (h0:p 0=false:=by rfl):OM R T ag w' χ' col r m:=h.mv e hp h0
theorem OMS.m2 {κ α:Type} {kv:κ→Value} {T:bW α} {ag:Bool} {col r:Nat} {m:List (κ × α)} (h:OMS kv T ag w χ col r m) (e:Ev p w χ w' χ') (hp:p col=false:=by rfl) (h0:p 0=false:=by rfl):OMS kv T ag w' χ' col r m:=h.mv e hp h0
theorem OME.m2 {κ α:Type} [DecidableEq κ] {kv:κ→Value} {T:bW α} {ag:Bool} {col r b:Nat} {m:List (κ × α)} {q:κ} {z:α} (h:OME kv T ag w χ col r m q z b) (e:Ev p w χ w' χ') (hp:p col=false:=by rfl) (h0:p 0=false:=by rfl):OME kv T ag w' χ' col r m q z b:=h.mv e hp h0
theorem gj.m2 {f0:Nat→Nat} {w0:World} {χc:Nat→Nat} (h:gj f0 w0 χc w χ) (e:Ev p w χ w' χ') (h0:p 0=false:=by rfl) (h1:p 1000=false:=by rfl):gj f0 w0 χc w' χ':=h.mv e h0 h1
theorem Old.m2 {w0:World} {χc:Nat→Nat} (h:Old w0 χc w χ) (e:Ev p w χ w' χ') (h0:p 0=false:=by rfl) (h1:p 1000=false:=by rfl):Old w0 χc w' χ':=h.mv e h0 h1
end
end ops
end
end Go.Sv
