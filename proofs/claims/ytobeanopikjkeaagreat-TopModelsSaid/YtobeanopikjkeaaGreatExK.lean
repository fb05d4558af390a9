/- The evaluator is sound. Conditions: in each lemma. -/
import Derived.Test.YtobeanopikjkeaaGreatExH
set_option linter.all false
namespace Go.Ex
open Go Go.Sv
section
variable {P:Program} {tt:Tr TyS} {mt:Tr (Nat × Nat × Value)} {tb:Tab} {ka:Nat→Nat→Bool}
variable {M:Mp} {a:Act} {w w0:World} {o:Oper} {av:AV} {vs:List AV} {z z':Z}
def Wr (P:Program) (w0:World) (M:Mp) (a:Act) (w:World) (o:Oper) (z:Z) (av:AV) (z':Z):Prop :=
 ∃ nx v w' M',(execOp a.eval o).run P w=.ok nx w'∧(nx=.value v∨nx=.skip∧v=undef)∧Ext z M z' M'∧VA M' av v∧Rel w0 M' z' w'
theorem Ii {x:S} {v:Value} (h:Fo x=true) (hv:VS M x v):v.oneCell'=true:=by
 cases x with
 | v y =>
  have:v=y:=hv
  subst this
  cases v <;> first | rfl | simp [Fo] at h
 | p i o=>obtain ⟨b,s,N,_,rfl⟩:=hv; rfl
 | sl i o m n=>obtain ⟨b,s,N,cap,ad,_,rfl,_⟩:=hv; rfl
 | m i=>obtain ⟨b,_,rfl⟩:=hv; rfl
 | c i=>obtain ⟨_,p,q,r,rfl⟩:=hv; rfl
theorem sa:∀ {l:List S} {vs:List Value},l.all Fo=true→VL M l vs→∀ v∈vs,v.oneCell'=true
 | [],[],_,_,v,hv=>by cases hv
 | x :: l,u :: vs,h,k,v,hv=>by
  simp only [List.all_cons,Bool.and_eq_true] at h
  rcases List.mem_cons.1 hv with rfl | hv
  ·exact Ii h.1 k.1
  ·exact sa h.2 k.2 v hv
 | [],_ :: _,_,k,_,_=>k.elim
 | _ :: _,[],_,k,_,_=>k.elim
theorem sj {i j:Nat} {x:Option Bk} {y:Bk} (h:get (upd z i x).h j=some y):(j=i∧x=some y)∨(j≠i∧get z.h j=some y):=jd _ _ _ _ _ _ (show get (set depth z.h i x) j=some y from h)
theorem Ext.upd {i:Nat} {b:Option Bk}:Ext z M (upd z i b) M:=⟨Le.refl _,fun _ _=>rfl,Nat.le_refl _⟩
theorem mo {j:Nat} {x y:Bk} (h:get (new z x).h j=some y):(j=z.n∧x=y)∨(j≠z.n∧get z.h j=some y):=by
 rcases jd _ _ _ _ _ _ (show get (set depth z.h z.n (some x)) j=some y from h) with ⟨h1,h2⟩ | h
 ·cases h2; exact .inl ⟨h1,rfl⟩
 ·exact .inr h
theorem Rel.write (R:Rel w0 M z w) {i b:Nat} {e:En} {x x':Bk} {w':World} (hi:get z.h i=some x) (hM:M i=some e) (hb:e.blk=some b) (Ub:w'.os=w.os) (Pv:w'.tape=w.tape) (Ge:w'.output=w.output) (gB:w'.heap.size=w.heap.size)
  (hoth:∀ k,k≠b→w'.heap[k]?=w.heap[k]?) (hB:BR M w' e x'):Rel w0 M (upd z i (some x')) w':=by
 have Gu:w0.heap.size≤b:=R.fresh i e b hM hb
 refine ⟨Ub.trans R.os,Pv.trans R.tape,Ge.trans R.output,by rw [gB]; exact R.size,fun k hk=>(hoth k (by omega)).trans (R.old k hk),R.nx,R.fresh,?_,?_⟩
 ·intro j k y y' e1 e2 c hj hk h1 h2 h3 h4
  have live:∀ {j y},get (upd z i (some x')).h j=some y→∃ y0,get z.h j=some y0:=by
   intro j y h
   rcases sj h with ⟨rfl,_⟩ | ⟨_,h⟩
   ·exact ⟨x,hi⟩
   ·exact ⟨y,h⟩
  obtain ⟨y0,g1⟩:=live hj
  obtain ⟨y1,g2⟩:=live hk
  exact R.inj j k y0 y1 e1 e2 c g1 g2 h1 h2 h3 h4
 ·intro j y e1 hj h1
  rcases sj hj with ⟨rfl,h⟩ | ⟨hne,h⟩
  ·cases h
   rw [hM] at h1
   cases h1
   exact hB
  ·have:=R.hp j y e1 h h1
   refine this.mono (Le.refl M) (fun c hc=>hoth c fun e2=>hne ?_)
   subst e2
   exact R.inj j i y x e1 e c h hi h1 hM hc hb
theorem Ey {arr rT:List Value} {l q:List S} {s N off:Nat} {qs:List Value} (hs:arr.length=s+N) (hl:l.length≤N) (h:VL M l ((arr.drop s).take l.length)) (hq:VL M q qs) (hle:off+q.length≤l.length)
  (ha:rT=arr.take (s+off)++qs++arr.drop (s+off+qs.length)):rT.length=arr.length∧(JW l off q).length=l.length∧VL M (JW l off q) ((rT.drop s).take (JW l off q).length):=by
 have T8:=hq.len
 have hlen:(JW l off q).length=l.length:=by simp [JW]; omega
 refine ⟨by rw [ha]; simp; omega,hlen,?_⟩
 rw [hlen]
 have h1:=(h.take off).app (hq.app (h.drop (off+q.length)))
 have e:(rT.drop s).take l.length=((arr.drop s).take l.length).take off++(qs++((arr.drop s).take l.length).drop (off+q.length)):=by
  rw [ha]
  apply List.ext_getElem?
  intro j
  by_cases c1:j < l.length
  ·rw [List.getElem?_take,if_pos c1,List.getElem?_drop]
   by_cases c2:j < off
   ·rw [List.append_assoc,List.getElem?_append_left (by simp; omega),List.getElem?_append_left (by simp; omega)]
    rw [List.getElem?_take,if_pos (by omega),List.getElem?_take,if_pos c2,List.getElem?_take,if_pos c1,List.getElem?_drop]
   ·by_cases c3:j < off+q.length
    ·rw [List.append_assoc,List.getElem?_append_right (by simp; omega),List.getElem?_append_left (by simp; omega),List.getElem?_append_right (by simp; omega),List.getElem?_append_left (by simp; omega)]
     congr 1
     simp
     omega
    ·rw [List.getElem?_append_right (by simp; omega),List.getElem?_append_right (by simp; omega),List.getElem?_append_right (by simp; omega)]
     simp only [List.length_append,List.length_take,List.length_drop]
     rw [List.getElem?_drop,List.getElem?_drop,List.getElem?_take,if_pos (by omega),List.getElem?_drop]
     congr 1
     omega
  ·rw [List.getElem?_eq_none (by simp; omega),List.getElem?_eq_none (by simp; omega)]
 rw [e]
 exact h1
theorem Rel.cells (R:Rel w0 M z w) {i b s N off t:Nat} {l q:List S} {arr:Array Value} {qs:List Value} (hi:get z.h i=some (.c l)) (hM:M i=some (.b b s N)) (ha:w.heap[b]?=some (.cells arr t (0,0))) (hq:VL M q qs) (hle:off+q.length≤l.length) :
  s+off+qs.length≤arr.size∧Rel w0 M (upd z i (some (.c (JW l off q)))) (w.setRow b (arr.toList.take (s+off)++qs++arr.toList.drop (s+off+qs.length)).toArray):=by
 obtain ⟨aaW,t0,h1,h2,h3,h4⟩:=R.hp _ _ _ hi hM
 rw [ha] at h1
 cases h1
 have T8:=hq.len
 obtain ⟨g1,g2,g3⟩:=Ey (arr:=arr.toList) (by simpa using h2) h3 h4 hq hle rfl
 refine ⟨by omega,R.write hi hM rfl (by simp) (by simp) (by simp) (by simp) (fun k hk=>setRow_other w b k _ hk) ⟨_,t,setRow_heap w b arr _ t (0,0) ha,?_,by rw [g2]; exact h3,by simpa using g3⟩⟩
 rw [List.size_toArray,g1]; simpa using h2
theorem Fw (n:Nat):Fx (0,0) n:=.inl (Nat.le_refl _)
theorem Dh (T:TOK P tt mt tb ka) (R:Rel w0 M z w) {t:Nat} {x y:Operand} (e:lStore tt t vs z=some (av,z')) (ho:o.op=.store t x y) (hv:OR M a [x,y] vs):Wr P w0 M a w o z av z':=by
 unfold lStore at e
 split at e
 ·rename_i i off u
  obtain ⟨⟨b,s,N,h1,h2⟩,hu⟩:=hv.two
  split at e
  ·rename_i ty q l ht hq hg
   replace e:=fw e
   obtain ⟨hc,e⟩:=e
   rw [Bool.and_eq_true] at hc
   cases e
   have T8:=Nat.eq_of_beq_eq_true hc.1
   have hle:=Nat.le_of_ble_eq_true hc.2
   obtain ⟨inf,d,zv,hi,hd,hz,hs,_⟩:=bl (T.t _ _ ht)
   have T1:=oR hq hu
   obtain ⟨arr,bt,g1,g2,g3,g4⟩:=R.hp _ _ _ hg h1
   obtain ⟨k1,k2⟩:=R.cells hg h1 g1 T1 hle
   have hlen:=T1.len
   have rO:∀ v∈(a.eval y).cells.toList,v.oneCell'=true:=by
    refine sa ?_ T1
    cases u with
    | g q'=>simp only [cellsOf] at hq; replace hq:=fw hq; obtain ⟨hc,hq⟩:=hq; cases hq; exact hc
    | s s'=>simp only [cellsOf] at hq; replace hq:=fw hq; obtain ⟨Gt,hq⟩:=hq; cases hq; show (Fo s' && true)=true; rw [Gt]; rfl
   have gP:=dx P b (s+off) bt (0,0) (a.eval y).cells.toList 0 arr w g1 (Fw _) (by simpa using k1) rO
   simp only [Nat.add_zero] at gP
   have gB:(a.eval y).cells.size=inf.size:=by rw [hs,← T8,hlen,Array.length_toList]
   refine ⟨.skip,undef,_,M,?_,.inr ⟨rfl,rfl⟩,Ext.upd,⟨[],rfl,trivial⟩,k2⟩
   simp [execOp,ho,h2,Instr.storeAt,Instr.sureAddr,storeVar,Sv.run_sizeOf hi,gB,gP]
  ·cases e
 ·cases e
theorem Bh {x:Int} {u:V1} {uv:Value} {ck:Nat} (hu:VV M u uv):∀ {es Ap:List (Value × V1 × Nat)} {g:Bool} {l:List MapEntry} (j:Nat),CW (.int .i64 x) u ck es=some (Ap,g)→FL (EN M) es l →
  (g=true∧Instr.findNow (.int .i64) (.int .i64 x) l j=some none∧FL (EN M) Ap (l++[{ key:=.int .i64 x,val:=uv,born:=ck }])) ∨
  (g=false∧∃ k e,Instr.findNow (.int .i64) (.int .i64 x) l j=some (some (j+k,e.val))∧l[k]?=some e∧e.key=.int .i64 x∧FL (EN M) Ap (l.modify k (fun e=>{ e with key:=.int .i64 x,val:=uv })))
 | [],Ap,g,[],j,e,_=>by cases e; exact .inl ⟨rfl,rfl,⟨rfl,hu,rfl⟩,trivial⟩
 | (y,v,b) :: es,Ap,g,en :: l,j,e,h=>by
  obtain ⟨⟨h1,h2,h4⟩,h3⟩:=h
  simp only [CW] at e
  cases y with
  | int k z =>
   simp only [uV] at e
   cases hk:sameKind .i64 k with
   | false=>rw [hk] at e; cases e
   | true =>
    have:=iH hk
    subst this
    rw [hk] at e
    simp only [cond_true] at e
    simp only at h1
    by_cases MD:x=z
    ·subst MD
     simp only [decide_true] at e
     cases e
     exact .inr ⟨rfl,0,en,by simp [Instr.findNow,Instr.sameNow,h1],rfl,h1,by simp only [List.modify_zero_cons]; exact ⟨⟨rfl,hu,h4⟩,h3⟩⟩
    ·simp only [MD,decide_false] at e
     have hs:Instr.sameNow (.int .i64) (.int .i64 x) en.key=some false:=by simp [Instr.sameNow,h1,MD]
     cases hp:CW (.int .i64 x) u ck es with
     | none=>rw [hp] at e; cases e
     | some r =>
      obtain ⟨q,g'⟩:=r
      rw [hp] at e
      cases e
      rcases Bh hu (j+1) hp h3 with ⟨a1,a2,a3⟩ | ⟨a1,k,e',a2,a3,a4,a5⟩
      ·exact .inl ⟨a1,by simp only [Instr.findNow,hs]; exact a2,⟨h1,h2,h4⟩,a3⟩
      ·refine .inr ⟨a1,k+1,e',by simp only [Instr.findNow,hs]; rw [a2]; congr 3; omega,by simpa using a3,a4,?_⟩
       simp only [List.modify_succ_cons]
       exact ⟨⟨h1,h2,h4⟩,a5⟩
  | _=>simp [uV] at e
 | [],_,_,_ :: _,_,_,h=>h.elim
 | _ :: _,_,_,[],_,_,h=>h.elim
theorem Ix (T:TOK P tt mt tb ka) (R:Rel w0 M z w) {t:Nat} {x y u:Operand} (e:lPut mt ka t vs z=some (av,z')) (ho:o.op=.mapUpdate t x y u) (hv:OR M a [x,y,u] vs):Wr P w0 M a w o z av z':=by
 unfold lPut at e
 split at e
 ·rename_i i n v
  obtain ⟨⟨b,h1,h2⟩,hk,hu,_⟩:=hv
  have hk:a.eval y=.int .i64 n:=hk
  have hu:VV M v (a.eval u):=hu
  split at e
  ·rename_i kt q0 es ck hm hg
   obtain ⟨Wy,_,Sk⟩:=T.m _ kt q0.1 q0.2 hm
   split at e
   ·rename_i q Dx rL
    cases MQ:ka 0 kt with
    | true=>rw [MQ] at rL; cases rL
    | false =>
     rw [MQ] at rL
     have rL:CW (.int .i64 n) v ck es=some (q,Dx):=rL
     have Sm:P.underlying kt=some (.int .i64):=by
      rcases Sk with h | ⟨h,_⟩
      ·exact h
      ·rw [MQ] at h; cases h
     have e:=Option.some.inj e
     simp only [Prod.mk.injEq] at e
     obtain ⟨rfl,rfl⟩:=e
     obtain ⟨arr,g1,g2⟩:=R.hp _ _ _ hg h1
     have fin:∀ (rT:Array MapEntry) (U5:Nat),(bif Dx then Nat.succ ck else ck)=U5→FL (EN M) q rT.toList→(execOp a.eval o).run P w=.ok .skip { w with heap:=w.heap.setIfInBounds b (.map rT U5) }→Wr P w0 M a w o z (.t []) (upd z i (some (.m q (bif Dx then Nat.succ ck else ck)))):=by
      intro rT U5 Z6 hf run
      subst Z6
      have Gb:=MapKept.heap_set (w:=w) (o':=.map rT (bif Dx then Nat.succ ck else ck)) g1
      refine ⟨.skip,undef,_,M,run,.inr ⟨rfl,rfl⟩,Ext.upd,⟨[],rfl,trivial⟩,R.write hg h1 rfl rfl rfl rfl (by simp) Gb.2 ⟨rT,Gb.1,hf⟩⟩
     rcases Bh hu 0 rL g2 with ⟨rfl,a2,a3⟩ | ⟨rfl,k,en,a2,a3,a4,a5⟩
     ·refine fin (arr.push { key:=.int .i64 n,val:=a.eval u,born:=ck }) (ck+1) rfl (by rw [Array.toList_push]; exact a3) ?_
      simp [execOp,ho,h2,hk,Instr.mapUpdate,run_underlying Wy,MapKept.run_getObj_map g1,MapKept.run_checkKey (k:=.int .i64 n) Sm rfl,MapKept.run_findKey Sm a2,MapKept.run_setObj_map _ g1]
     ·have hj:arr[k]?=some en:=by simpa using a3
      rw [Nat.zero_add] at a2
      refine fin (arr.modify k fun e=>{ e with key:=.int .i64 n,val:=a.eval u }) ck rfl (by rw [Array.toList_modify]; exact a5) ?_
      simp [execOp,ho,h2,hk,Instr.mapUpdate,run_underlying Wy,MapKept.run_getObj_map g1,MapKept.run_checkKey (k:=.int .i64 n) Sm rfl,MapKept.run_findKey Sm a2,hj,a4,MapKept.run_keyThatStays (k:=.int .i64 n) (d:=.int .i64) rfl,MapKept.run_setObj_map _ g1]
   ·cases e
  ·cases e
 ·cases e
end
end Go.Ex
namespace Go.Ex
open Go Go.Sv
section
variable {P:Program} {tt:Tr TyS} {mt:Tr (Nat × Nat × Value)} {tb:Tab} {ka:Nat→Nat→Bool}
variable {M:Mp} {a:Act} {w w0:World} {o:Oper} {av:AV} {vs:List AV} {z z':Z}
theorem nS (R:Rel w0 M z w) {m:Nat} {x:V1} {l:List S} {v:Value} (e:lX z.h m x=some l) (hv:VV M x v) :
  (v=.slice none 0 0∧l=[])∨∃ i off n b s N cap ad us,x=.s (.sl i off m n)∧M i=some (.b b s N)∧v=.slice (some ad) n cap∧n≤cap∧(ad=⟨b,s+off,none⟩∧off+cap * m≤N∨cap=0)∧VL M l us∧l.length=n * m∧(∀ j u,us[j]?=some u→w.cell? (ad.add j)=some u):=by
 unfold lX at e
 split at e
 ·rename_i y
  replace e:=fw e
  obtain ⟨hc,e⟩:=e
  cases e
  exact .inl ⟨by rw [← kf hc]; exact hv,rfl⟩
 ·rename_i i off m' n
  obtain ⟨b,s,N,cap,ad,h1,h2,h3,h4⟩:=hv
  replace e:=fw e
  obtain ⟨hc,e⟩:=e
  have:=Nat.eq_of_beq_eq_true hc
  subst this
  refine .inr ?_
  cases hn:Nat.beq n 0 with
  | true =>
   rw [hn] at e
   have hn:=Nat.eq_of_beq_eq_true hn
   subst hn
   cases e
   exact ⟨i,off,0,b,s,N,cap,ad,[],rfl,h1,h2,h3,h4,trivial,by simp,by simp⟩
  | false =>
   rw [hn] at e
   have hn:n≠0:=fun q=>by subst q; cases hn
   obtain ⟨arr,t,g1,g2,g3,g4⟩:=pX R.hp e h1
   rcases h4 with ⟨rfl,h4⟩ | h4
   ·refine ⟨i,off,n,b,s,N,cap,_,_,rfl,h1,h2,h3,.inl ⟨rfl,h4⟩,g3,g4,fun j u hj=>?_⟩
    rw [Addr.add_lit]
    simp only [World.cell?,g1]
    rw [List.getElem?_take] at hj
    split at hj
    ·simpa using hj
    ·cases hj
   ·omega
 ·cases e
theorem tM {b p n:Nat}:(⟨b,p,none⟩:Addr).add n=⟨b,p+n,none⟩:=Addr.add_lit ..
theorem run_append_room {t ty e g p ou zj m c:Nat} {i:TypeInfo} {cur:Array Value} (ht:P.underlying t=some (.slice e)) (hi:P.info? e=some i) {bt:Nat} (hg:w.heap[g]?=some (.cells cur bt (0,0)))
  {ad:Addr} {news:List Value} (hl:news.length=m * i.size) (Gg:∀ j u,news[j]?=some u→w.cell? (ad.add j)=some u) (h1:∀ u∈news,u.oneCell'=true) (mC:ou+m≤zj) (oK:p+ou * i.size+news.length≤cur.size) :
  (Builtin.append_ #[t,t] ty #[.slice (some ⟨g,p,none⟩) ou zj,.slice (some ad) m c]).run P w =
   .ok (.slice (some ⟨g,p,none⟩) (ou+m) zj) (w.setRow g (cur.toList.take (p+ou * i.size)++news++cur.toList.drop (p+ou * i.size+news.length)).toArray):=by
 have hf:=run_firstCells_some (P:=P) w i.size m ad m c news hl Gg
 have gP:=dx P g (p+ou * i.size) bt (0,0) news 0 cur w hg (Fw _) (by simpa using oK) h1
 simp only [Nat.add_zero] at gP
 simp [Builtin.append_,run_underlying ht,sizeOf,typeInfo,hi,Builtin.lenOf,mC,hf,tM,gP]
theorem mw {t ty e n cap:Nat} {i:TypeInfo} {p:Option Addr} {v:Value} (ht:P.underlying t=some (.slice e)) (hi:P.info? e=some i) (hn:n≤cap) (hv:v=.slice none 0 0∨∃ ad c,v=.slice (some ad) 0 c) :
  (Builtin.append_ #[t,t] ty #[.slice p n cap,v]).run P w=.ok (.slice p n cap) w:=by
 rcases hv with rfl | ⟨ad,c,rfl⟩
 ·cases p <;> simp [Builtin.append_,run_underlying ht,sizeOf,typeInfo,hi,Builtin.lenOf,Builtin.firstCells,hn,storeCells]
 ·have:=run_firstCells_some (P:=P) w i.size 0 ad 0 c [] (by simp) (by simp)
  cases p <;> simp [Builtin.append_,run_underlying ht,sizeOf,typeInfo,hi,Builtin.lenOf,this,hn,storeCells]
theorem tL {c:Call} {x y:Operand} {t:Nat} {r:Value} {w':World} (ho:o.op=.call ⟨.builtin .append,#[x,y],#[t,t]⟩) (h:∀ ty,(Builtin.append_ #[t,t] ty #[a.eval x,a.eval y]).run P w=.ok r w'):(execOp a.eval o).run P w=.ok (.value r) w':=by
 simp [execOp,ho,resolve,invoke,builtin,h]
theorem Rel.move (R:Rel w0 M z w) {i b s N:Nat} {x:Bk} {en:En} {l:List S} {w':World} (hi:get z.h i=some x) (hM:M i=some (.b b s N)) (Ub:w'.os=w.os) (Pv:w'.tape=w.tape) (Ge:w'.output=w.output) (gB:w.heap.size≤w'.heap.size)
  (Eb:en.blk=some b∨en.blk=some w.heap.size) (hoth:∀ k,k < w.heap.size→k≠b→w'.heap[k]?=w.heap[k]?) (hB:BR (ki M z.n en) w' en (.c l)) (hb:(∃ c,en.blk=some c∧c≠b)→w'.heap[b]?=w.heap[b]?) :
  Ext z M (new (upd z i none) (.c l)) (ki M z.n en)∧Rel w0 (ki M z.n en) (new (upd z i none) (.c l)) w':=by
 have hn:M z.n=none:=R.nx z.n (Nat.le_refl _)
 have Gu:w0.heap.size≤b:=R.fresh i _ b hM rfl
 have kV:b < w.heap.size:=(R.hp i x _ hi hM).lt rfl
 have live:∀ {j y},get (new (upd z i none) (.c l)).h j=some y→j≠z.n→j≠i∧get z.h j=some y:=by
  intro j y h hj
  rcases mo h with ⟨h1,_⟩ | ⟨_,h⟩
  ·exact absurd h1 hj
  ·rcases sj h with ⟨_,h⟩ | h
   ·cases h
   ·exact h
 have LP:∀ {j y e c},get z.h j=some y→j≠i→M j=some e→e.blk=some c→c≠b∧c < w.heap.size:=by
  intro j y e c h hj h1 h2
  exact ⟨fun q=>by subst q; exact hj (R.inj j i y x e _ c h hi h1 hM h2 rfl),(R.hp j y e h h1).lt h2⟩
 refine ⟨⟨gK hn,fun j hj=>dB _ _ (by omega),Nat.le_succ _⟩,Ub.trans R.os,Pv.trans R.tape,Ge.trans R.output,Nat.le_trans R.size gB,fun k hk=>(hoth k (by omega) (by omega)).trans (R.old k hk),?_,?_,?_,?_⟩
 ·intro j hj
  have hj:z.n+1≤j:=hj
  rw [dB _ _ (by omega)]
  exact R.nx j (by omega)
 ·intro j e c h1 h2
  by_cases hj:j=z.n
  ·subst hj
   rw [eJ] at h1
   cases h1
   rcases Eb with h | h <;> rw [h2] at h <;> cases h
   ·exact Gu
   ·exact R.size
  ·rw [dB _ _ hj] at h1
   exact R.fresh j e c h1 h2
 ·intro j k y y' e e' c hj hk h1 h2 h3 h4
  by_cases cj:j=z.n <;> by_cases ck:k=z.n
  ·rw [cj,ck]
  ·subst cj
   rw [eJ] at h1
   cases h1
   rw [dB _ _ ck] at h2
   obtain ⟨q1,q2⟩:=live hk ck
   obtain ⟨q3,q4⟩:=LP q2 q1 h2 h4
   rcases Eb with h | h <;> rw [h3] at h <;> cases h
   ·exact absurd rfl q3
   ·omega
  ·subst ck
   rw [eJ] at h2
   cases h2
   rw [dB _ _ cj] at h1
   obtain ⟨q1,q2⟩:=live hj cj
   obtain ⟨q3,q4⟩:=LP q2 q1 h1 h3
   rcases Eb with h | h <;> rw [h4] at h <;> cases h
   ·exact absurd rfl q3
   ·omega
  ·rw [dB _ _ cj] at h1
   rw [dB _ _ ck] at h2
   exact R.inj j k y y' e e' c (live hj cj).2 (live hk ck).2 h1 h2 h3 h4
 ·intro j y e hj h1
  by_cases cj:j=z.n
  ·subst cj
   rw [eJ] at h1
   cases h1
   rcases mo hj with ⟨_,h⟩ | ⟨h,_⟩
   ·cases h; exact hB
   ·exact absurd rfl h
  ·rw [dB _ _ cj] at h1
   obtain ⟨q1,q2⟩:=live hj cj
   have:=R.hp j y e q2 h1
   refine this.mono (gK hn) (fun c hc=>?_)
   obtain ⟨q3,q4⟩:=LP q2 q1 h1 hc
   exact hoth c q4 q3
theorem Cf {n oS:Nat} (h1:n≤100000) (h2:oS≤1000):n * oS≤140737488355328:=by
 have:=Nat.mul_le_mul h1 h2
 omega
theorem Iz (T:TOK P tt mt tb ka) (R:Rel w0 M z w) {t:Nat} {x y:V1} {xo yo:Operand} (e:LY tt t x y z=some (av,z')) (ho:o.op=.call ⟨.builtin .append,#[xo,yo],#[t,t]⟩) (hx:VV M x (a.eval xo)) (hy:VV M y (a.eval yo)):Wr P w0 M a w o z av z':=by
 unfold LY at e
 split at e
 ·rename_i el gd
  have hu:=iL T gd
  split at e
  ·rename_i ty ht
   obtain ⟨inf,d,zv,hi,hd,hz,hs,jz,iS,_⟩:=bl (T.t _ _ ht)
   split at e
   ·rename_i te news ZA Zz
    have cx:=nS R ZA hx
    have cy:=nS R Zz hy
    have hn:M z.n=none:=R.nx z.n (Nat.le_refl _)
    have grown:∀ (l:List S) (us:List Value) (k rQ:Nat) (arr:Array Value) (w1:World) (z1:Z),w1.heap=w.heap→w1.os=w.os→w1.tape=w.tape→w1.output=w.output →
      VL M l us→l.length=k * ty.size→k≤rQ→arr.toList.take l.length=us→rQ * ty.size≤arr.size →
      (∀ j y,get z1.h j=some y→get z.h j=some y)→z1.n=z.n →
      (execOp a.eval o).run P w=.ok (.value (.slice (some ⟨w.heap.size,0,none⟩) k rQ)) (w1.alloc (.cells arr el))→Wr P w0 M a w o z (.o (.s (.sl z.n 0 ty.size k))) (new z1 (.c l)):=by
     intro l us k rQ arr w1 z1 q1 q2 q3 q4 hl hlen hk Sc MZ Pr Za run
     have hB:BR (ki M z.n (.b w.heap.size 0 arr.size)) (w1.alloc (.cells arr el)) (.b w.heap.size 0 arr.size) (.c l):=by
      have ZI:=hl.len
      have hle:l.length≤arr.size:=by
       have:(arr.toList.take l.length).length=l.length:=by rw [Sc]; exact ZI.symm
       have h0:arr.toList.length=arr.size:=Array.length_toList
       rw [List.length_take] at this
       omega
      refine ⟨arr,el,?_,by simp,hle,?_⟩
      ·show (w1.heap.push _)[w.heap.size]?=_
       rw [q1]; simp
      ·rw [List.drop_zero,Sc]
       exact hl.mono fun _ _=>VS.mono (gK hn)
     have R1:Rel w0 M z1 w1:=by
      refine ⟨q2.trans R.os,q3.trans R.tape,q4.trans R.output,by rw [q1]; exact R.size,fun b hb=>by rw [q1]; exact R.old b hb,fun j hj=>R.nx j (by omega),R.fresh,?_,?_⟩
      ·intro i j x y e e' b hi hj
       exact R.inj i j x y e e' b (Pr i x hi) (Pr j y hj)
      ·intro i x e h1 h2
       exact (R.hp i x e (Pr i x h1) h2).mono (Le.refl M) (fun b _=>by rw [q1])
     have R2:=(R1.promise (.c l)).FE (k:=z.n) (en:=.b w.heap.size 0 arr.size) (w':=w1.alloc (.cells arr el)) (b:=.c l) hn (by show z.n < z1.n+1; omega)
      (fun x hx=>by
       rcases mo hx with ⟨_,h⟩ | ⟨h,_⟩
       ·exact h.symm
       ·exact absurd Za.symm h) (.inr ⟨_,rfl,by rw [q1]; rfl⟩) hB
     refine ⟨_,_,_,_,run,.inl rfl,⟨gK hn,fun j hj=>dB _ _ (by omega),by show z.n≤z1.n+1; omega⟩,?_,R2⟩
     exact ⟨w.heap.size,0,arr.size,rQ,_,eJ _ _ _,rfl,hk,.inl ⟨rfl,by omega⟩⟩
    split at e
    ·rename_i i2 o2 m2 n
     replace e:=fw e
     obtain ⟨UB,e⟩:=e
     rw [Bool.and_eq_true] at UB
     have TW:zv.cells.size=ty.size:=by
      have h0:zv.cells.toList.length=zv.cells.size:=Array.length_toList
      rw [← h0,iS]; exact Nat.eq_of_beq_eq_true UB.2
     rcases cy with ⟨cy,_⟩ | ⟨i',LO,n',b',s',N',rQ,vw,D5,c1,c2,c3,c4,c5,c6,c7,c8⟩
     ·obtain ⟨_,_,_,_,_,_,h,_⟩:=hy
      rw [h] at cy; cases cy
     cases c1
     have rO:=sa UB.1 c6
     have F7:=c6.len
     unfold Lc at e
     split at e
     ·
      rename_i xv
      replace e:=fw e
      obtain ⟨hc,e⟩:=e
      simp only [Bool.and_eq_true] at hc
      have g1:=Nat.le_of_ble_eq_true hc.1
      have g2:=Nat.le_of_ble_eq_true hc.2.1
      have g3:=Nat.le_of_ble_eq_true hc.2.2
      cases e
      rcases cx with ⟨cx,rfl⟩ | ⟨_,_,_,_,_,_,_,_,_,h,_⟩
      ·have oK:=Cf g2 g3
       have hr:=fun CG=>run_append_nil (P:=P) w t CG el inf zv hu hi hz vw n rQ D5 (by rw [← F7,c7,hs]) c8 g1 (by omega) (by rw [jz]; omega)
       have hge:=grownCap_ge w n 0 el
       refine grown _ D5 n (grownCap w n 0 el) (D5.toArray++Builtin.zeroCells zv.cells (grownCap w n 0 el - n)) w.drew z rfl rfl rfl rfl c6 (by simpa using c7) hge ?_ ?_ (fun _ _ h=>h) rfl (tL (c:=⟨.builtin .append,#[xo,yo],#[t,t]⟩) ho fun CG=>by rw [cx,c3]; exact hr CG)
       ·rw [List.nil_append,F7,Array.toList_append,List.take_left' (by simp)]
       ·simp only [Array.size_append,List.size_toArray,size_zeroCells,TW,← F7,c7,← Nat.add_mul]
        exact Nat.mul_le_mul_right _ (by omega)
      ·cases h
     ·rename_i i off q k
      rcases cx with ⟨cx,_⟩ | ⟨_,_,_,b,s,N,cap,ad,us,d1,d2,d3,d4,d5,d6,d7,d8⟩
      ·obtain ⟨_,_,_,_,_,_,h,_⟩:=hx
       rw [h] at cx; cases cx
      cases d1
      cases MN:Nat.beq n 0 with
      | true =>
       rw [MN] at e
       have:=Nat.eq_of_beq_eq_true MN
       subst this
       cases e
       refine ⟨_,_,w,M,tL (c:=⟨.builtin .append,#[xo,yo],#[t,t]⟩) ho (fun CG=>by rw [d3,c3]; exact mw hu hi d4 (.inr ⟨_,_,rfl⟩)),.inl rfl,Ext.refl _ _,?_,R⟩
       exact ⟨b,s,N,cap,ad,d2,rfl,d4,d5⟩
      | false =>
       rw [MN] at e
       have MN:n≠0:=fun q=>by subst q; cases MN
       replace e:=fw e
       obtain ⟨hc,e⟩:=e
       rw [Bool.and_eq_true] at hc
       have g2:=Nat.le_of_ble_eq_true hc.1
       have g3:=Nat.le_of_ble_eq_true hc.2
       split at e
       ·rename_i L hL
        cases e
        have Qb:=d6.len
        by_cases mC:k+n≤cap
        ·rcases d5 with ⟨rfl,d5⟩ | d5
         ·obtain ⟨arr,bt,p1,p2,p3,p4⟩:=R.hp _ _ _ hL d2
          have hcm:(k+n) * ty.size≤cap * ty.size:=Nat.mul_le_mul_right _ mC
          have hkn:k * ty.size+D5.length=(k+n) * ty.size:=by rw [← F7,c7,Nat.add_mul]
          have oK:s+off+k * inf.size+D5.length≤arr.size:=by rw [hs]; omega
          have hr:=fun CG=>run_append_room (P:=P) (w:=w) (ty:=CG) (c:=rQ) hu hi p1 (by rw [← F7,c7,hs]) c8 rO mC oK
          have eS:=cQ p1
          rw [hs] at hr oK
          have Dm:us=(arr.toList.drop (s+off)).take (k * ty.size):=by
           apply List.ext_getElem?
           intro j
           by_cases hj:j < us.length
           ·have:=d8 j us[j] (by simp [hj])
            rw [tM] at this
            simp only [World.cell?,p1] at this
            have h0:arr.toList[s+off+j]?=some us[j]:=by simpa using this
            rw [List.getElem?_take,if_pos (by omega),List.getElem?_drop,h0,List.getElem?_eq_getElem hj]
           ·rw [List.getElem?_eq_none (by omega),List.getElem?_eq_none (by simp; omega)]
          obtain ⟨q1,q2⟩:=R.move (en:=.b b (s+off) (N - off)) (l:=te++news) (w':=w.setRow b (arr.toList.take (s+off+k * ty.size)++D5++arr.toList.drop (s+off+k * ty.size+D5.length)).toArray) hL d2 (by simp) (by simp) (by simp) (by simp) (.inl rfl) (fun j _ hj=>setRow_other w b j _ hj)
           ⟨_,bt,setRow_heap w b arr _ bt (0,0) p1,by simp; omega,by simp; omega,by
            have PW:((arr.toList.take (s+off+k * ty.size)++D5++arr.toList.drop (s+off+k * ty.size+D5.length)).drop (s+off)).take (te++news).length=us++D5:=by
             rw [List.length_append,Qb,F7,List.append_assoc,List.drop_append_of_le_length (by simp; omega),← List.append_assoc]
             rw [List.take_append_of_le_length (by simp; omega)]
             have:(arr.toList.take (s+off+k * ty.size)).drop (s+off)=us:=by rw [Dm,List.drop_take]; congr 1; omega
             rw [this,List.take_of_length_le (by simp)]
            rw [PW]
            exact (d6.app c6).mono fun _ _=>VS.mono (gK hn)⟩ (fun ⟨c,h1,h2⟩=>by cases h1; exact absurd rfl h2)
          refine ⟨_,_,_,_,tL (c:=⟨.builtin .append,#[xo,yo],#[t,t]⟩) ho (fun CG=>by rw [d3,c3]; exact hr CG),.inl rfl,q1,?_,q2⟩
          exact ⟨b,s+off,N - off,cap,_,eJ _ _ _,rfl,mC,.inl ⟨rfl,by omega⟩⟩
         ·omega
        ·have oK:=Cf g2 g3
         have hr:=fun CG=>run_append_grow (P:=P) w t CG el inf zv hu hi hz ad k cap us (by rw [← Qb,d7,hs]) d8 vw n rQ D5 (by rw [← F7,c7,hs]) c8 (by omega) (by omega) (growslice_fits (by omega) (by rw [jz]; exact oK))
         have hge:=grownCap_ge w (k+n) cap el
         refine grown _ (us++D5) (k+n) (grownCap w (k+n) cap el) _ w.drew (upd z i none) rfl rfl rfl rfl (d6.app c6) (by rw [List.length_append,d7,c7,Nat.add_mul]) hge ?_ ?_ (fun j y hj=>by
          rcases sj hj with ⟨_,h⟩ | ⟨_,h⟩
          ·cases h
          ·exact h) rfl (tL (c:=⟨.builtin .append,#[xo,yo],#[t,t]⟩) ho fun CG=>by rw [d3,c3]; exact hr CG)
         ·rw [List.length_append,Qb,F7]
          simp only [Array.toList_append]
          rw [List.take_left' (by simp)]
         ·simp only [Array.size_append,List.size_toArray,size_zeroCells,TW,← F7,← Qb,d7,c7,← Nat.add_mul]
          exact Nat.mul_le_mul_right _ (by omega)
       ·cases e
     ·cases e
    ·split at e
     ·rename_i i off m k
      cases e
      rcases cx with ⟨cx,_⟩ | ⟨_,_,_,b,s,N,cap,ad,us,d1,d2,d3,d4,d5,d6,d7,d8⟩
      ·obtain ⟨_,_,_,_,_,_,h,_⟩:=hx
       rw [h] at cx; cases cx
      cases d1
      rcases cy with ⟨cy,_⟩ | ⟨_,_,_,_,_,_,_,_,_,h,_⟩
      ·refine ⟨_,_,w,M,tL (c:=⟨.builtin .append,#[xo,yo],#[t,t]⟩) ho (fun CG=>by rw [d3,cy]; exact mw hu hi d4 (.inl rfl)),.inl rfl,Ext.refl _ _,?_,R⟩
       exact ⟨b,s,N,cap,ad,d2,rfl,d4,d5⟩
      ·exact (‹∀ (i o m n:Nat),y=V1.s (S.sl i o m n)→False› _ _ _ _ h).elim
     ·cases e
   ·cases e
  ·cases e
 ·cases e
end
end Go.Ex
namespace Go.Ex
open Go Go.Sv
section
variable {P:Program} {tt:Tr TyS} {mt:Tr (Nat × Nat × Value)} {tb:Tab} {ka:Nat→Nat→Bool}
variable {M:Mp} {a:Act} {w w0:World} {o:Oper} {av:AV} {vs:List AV} {z z':Z}
theorem FP (T:TOK P tt mt tb ka) (R:Rel w0 M z w) {t:Nat} {x y:V1} {xo yo:Operand} {lR:Array TypeId} (e:lCopy tt t x y z=some (av,z')) (ho:o.op=.call ⟨.builtin .copy,#[xo,yo],lR⟩) (B7:lR[0]?=some t) (hx:VV M x (a.eval xo)) (hy:VV M y (a.eval yo)):Wr P w0 M a w o z av z':=by
 unfold lCopy at e
 split at e
 ·rename_i i off m n i' LO m' n'
  obtain ⟨b,s,N,cap,ad,h1,h2,h3,h4⟩:=hx
  obtain ⟨b',s',N',rQ,vw,k1,k2,k3,k4⟩:=hy
  split at e
  ·rename_i el gd
   have hu:=iL T gd
   split at e
   ·rename_i sz l gB hg
    obtain ⟨inf,hi,ZT⟩:=vJ T gB
    replace e:=fw e
    obtain ⟨hc,e⟩:=e
    rw [Bool.and_eq_true] at hc
    have q1:=Nat.eq_of_beq_eq_true hc.1
    have q2:=Nat.eq_of_beq_eq_true hc.2
    subst q1 q2
    dsimp only at e
    cases hk:Nat.beq (Nat.min n' n) 0 with
    | true =>
     rw [hk] at e
     have hk:=Nat.eq_of_beq_eq_true hk
     have e:=Option.some.inj e
     simp only [Prod.mk.injEq] at e
     obtain ⟨rfl,rfl⟩:=e
     have hf:=run_firstCells_some (P:=P) w inf.size 0 vw n' rQ [] (by simp) (by simp)
     refine ⟨_,.int .i64 0,w,M,?_,.inl rfl,Ext.refl _ _,rfl,R⟩
     simp [execOp,ho,resolve,invoke,builtin,h2,k2,Builtin.copy_,B7,run_underlying hu,Builtin.lenOf,Sv.run_sizeOf hi,hk,hf,storeCells,goInt]
    | false =>
     rw [hk] at e
     have hk:Nat.min n' n≠0:=fun q=>by rw [q] at hk; cases hk
     have hmn:Nat.min n' n≤n'∧Nat.min n' n≤n:=⟨Nat.min_le_left _ _,Nat.min_le_right _ _⟩
     simp only [cond_false] at e
     split at e
     ·rename_i q hq
      replace e:=fw e
      obtain ⟨lz,e⟩:=e
      rw [Bool.and_eq_true] at lz
      have e:=Option.some.inj e
      simp only [Prod.mk.injEq] at e
      obtain ⟨rfl,rfl⟩:=e
      rcases h4 with ⟨rfl,h4⟩ | h4
      ·rcases k4 with ⟨rfl,k4⟩ | k4
       ·obtain ⟨rT,bt',g1,g2,g3,g4⟩:=pX R.hp hq k1
        obtain ⟨arr,bt,p1,p2,p3,p4⟩:=R.hp _ _ _ hg h1
        have F7:=g3.len
        have hf:=run_firstCells_some (P:=P) w inf.size (Nat.min n' n) ⟨b',s'+LO,none⟩ n' rQ ((rT.toList.drop (s'+LO)).take (Nat.min n' n * sz)) (by rw [← F7,g4,ZT]) (fun j u hj=>by
         rw [tM]
         simp only [World.cell?,g1]
         rw [List.getElem?_take] at hj
         split at hj
         ·simpa using hj
         ·cases hj)
        obtain ⟨r1,r2⟩:=R.cells (off:=off) hg h1 p1 g3 (by rw [g4]; exact Nat.le_of_ble_eq_true lz.1)
        have gP:=dx P b (s+off) bt (0,0) _ 0 arr w p1 (Fw _) (by simpa using r1) (sa lz.2 g3)
        simp only [Nat.add_zero] at gP
        refine ⟨_,.int .i64 (Nat.min n' n:Nat),_,M,?_,.inl rfl,Ext.upd,rfl,r2⟩
        simp only [execOp,ho,resolve,invoke,builtin,Sem.run_bind,Sem.run_pure,Result.andThen_ok]
        simp [h2,k2,Builtin.copy_,B7,run_underlying hu,Builtin.lenOf,Sv.run_sizeOf hi,hf,gP,goInt]
       ·omega
      ·omega
     ·cases e
   ·cases e
  ·cases e
 ·cases e
theorem Iy (T:TOK P tt mt tb ka) (R:Rel w0 M z w) {b:Builtin} {args:Array Operand} {lR:Array TypeId} (e:lBlt tt b lR.toList vs z=some (av,z')) (ho:o.op=.call ⟨.builtin b,args,lR⟩) (hv:OR M a args.toList vs):Wr P w0 M a w o z av z':=by
 have two:∀ {x y:V1},vs=[.o x,.o y]→∃ xo yo,args=#[xo,yo]∧VV M x (a.eval xo)∧VV M y (a.eval yo):=by
  intro x y Zj
  subst Zj
  match h:args.toList,hv with
  | [xo,yo],hv=>exact ⟨xo,yo,by rw [← Array.toArray_toList (xs:=args),h],hv.1,hv.2.1⟩
  | [_],hv=>exact hv.2.elim
  | _ :: _ :: _ :: _,hv=>exact hv.2.2.elim
 unfold lBlt at e
 split at e
 ·split at e
  ·rename_i t t' x y Ah
   replace e:=fw e
   obtain ⟨hc,e⟩:=e
   have:=Nat.eq_of_beq_eq_true hc
   subst this
   obtain ⟨xo,yo,rfl,h1,h2⟩:=two rfl
   have hb:lR=#[t,t]:=by rw [← Array.toArray_toList (xs:=lR),Ah]
   subst hb
   exact Iz T R e ho h1 h2
  ·cases e
 ·split at e
  ·rename_i t t' x y Ah
   obtain ⟨xo,yo,rfl,h1,h2⟩:=two rfl
   have hb:lR=#[t,t']:=by rw [← Array.toArray_toList (xs:=lR),Ah]
   subst hb
   exact FP T R e ho rfl h1 h2
  ·cases e
 ·cases e
def oY (P:Program) (call:FuncId→List V1→Z→Ld):Prop :=
 ∀ f q z av z',call f q z=some (av,z')→aD P f=true∧∀ w0 M w vals,VVs M q vals→Rel w0 M z w →
  Calls P f vals.toArray w (fun e w'=>∃ v M',e=.returned v∧Ext z M z' M'∧VA M' av v∧Rel w0 M' z' w')
def vy (P:Program) (idx:FuncId→Bool):Prop :=
 ∀ f,idx f=true→∀ (s:ByteArray) (n:Nat) (w:World),n < 256→(callFunc f #[.string s,.int .u8 (.ofNat n)]).run P w=.ok (.value (.int .i64 (va n 0 s.data.toList))) w
theorem Cr {l:List Operand} {q:List V1} (h:FL (fun v x=>VV M v (a.eval x)) q l):VVs M q (l.map a.eval):=by
 induction l generalizing q with
 | nil=>cases q with
  | nil=>trivial
  | cons _ _=>exact h.elim
 | cons x l ih=>cases q with
  | nil=>exact h.elim
  | cons v q=>exact ⟨h.1,ih h.2⟩
variable {idx:FuncId→Bool} {call:FuncId→List V1→Z→Ld} {K:Act→World→Prop} {Q:Exit→Act→World→Prop}
def Nxt (w0:World) (M:Mp) (a:Act) (o:Oper) (z:Z) (av:AV) (z':Z) (K:Act→World→Prop):Prop :=
 ∀ v w' M',Ext z M z' M'→VA M' av v→Rel w0 M' z' w'→K (a.put o.dst v) w'
theorem Wr.wp (h:Wr P w0 M a w o z av z') (k:Nxt w0 M a o z av z' K):o.wp P a w K Q:=by
 obtain ⟨nx,v,w',M',run,hn,h1,h2,h3⟩:=h
 unfold Oper.wp
 rw [run]
 rcases hn with rfl | ⟨rfl,rfl⟩
 ·exact k v w' M' h1 h2 h3
 ·exact k undef w' M' h1 h2 h3
theorem FQ (T:TOK P tt mt tb ka) (hI:vy P idx) (hC:oY P call) (R:Rel w0 M z w) {c:Call} (e:lCall tt idx call c vs z=some (av,z')) (ho:o.op=.call c) (hv:OR M a (fW o.op) vs) (k:Nxt w0 M a o z av z' K):o.wp P a w K Q:=by
 obtain ⟨callee,args,lR⟩:=c
 rw [ho] at hv
 cases callee with
 | invoke r m=>cases e
 | builtin b=>exact (Iy T R e ho hv).wp k
 | value f =>
  have enter:∀ {g:FuncId} {q:List V1} {vals:List Value},call g q z=some (av,z')→VVs M q vals→(∀ w,(execOp a.eval o).run P w=(callFunc g vals.toArray).run P w)→o.wp P a w K Q:=by
   intro g q vals Qc hq run
   obtain ⟨hb,hc⟩:=hC _ _ _ _ _ Qc
   unfold Oper.wp
   rw [run,gj hb]
   simp only [Oper.upon]
   refine Calls.mono (hc w0 M w vals hq R) ?_
   rintro e w' ⟨v,M',rfl,h1,h2,h3⟩
   exact k v w' M' h1 h2 h3
  change callV idx call vs z=some (av,z') at e
  unfold callV at e
  split at e
  ·rename_i g p r us
   obtain ⟨hf,hv⟩:=hv
   have hf:a.eval f=.func (.func g) p r:=hf
   unfold cFn at e
   split at e
   ·rename_i q hp hr hq
    have hp':p=#[]:=by rw [← Array.toArray_toList (xs:=p),hp]
    have PE:r=#[]:=by rw [← Array.toArray_toList (xs:=r),hr]
    subst hp' PE
    have F6:=Cr (oX hq hv)
    have run:∀ w,(execOp a.eval o).run P w=(callFunc g (args.toList.map a.eval).toArray).run P w:=by
     intro w
     have:args.map a.eval=(args.toList.map a.eval).toArray:=by rw [← Array.toList_map]
     simp [execOp,ho,resolve,hf,Deferred.ofValue,invoke,this]
    cases MW:idx g with
    | false=>rw [MW] at e; exact enter e F6 run
    | true =>
     rw [MW] at e
     replace e:MB q z=some (av,z'):=e
     unfold MB at e
     split at e
     ·rename_i s n
      obtain ⟨eS,e⟩:=fw e
      cases e
      have hl:∃ xo yo,args.toList=[xo,yo]∧a.eval xo=.string s∧a.eval yo=.int .u8 (.ofNat n):=by
       have:=oX hq hv
       match h:args.toList,this with
       | [xo,yo],this=>exact ⟨xo,yo,rfl,this.1,this.2.1⟩
       | [_],this=>exact this.2.elim
       | _ :: _ :: _ :: _,this=>exact this.2.2.elim
      obtain ⟨xo,yo,h1,h2,h3⟩:=hl
      have run':=run w
      rw [h1] at run'
      simp only [List.map_cons,List.map_nil,h2,h3] at run'
      rw [hI g MW s n w (Nat.le_of_ble_eq_true eS)] at run'
      unfold Oper.wp
      rw [run']
      exact k _ w M (Ext.refl _ _) rfl R
     ·cases e
   ·cases e
  ·rename_i i us
   obtain ⟨⟨hM,hf⟩,hv⟩:=hv
   unfold cClo at e
   split at e
   ·rename_i g p r q hg hq
    obtain ⟨vp,vr,h1,h2,h3⟩:=R.hp _ _ _ hg hM
    have F6:=Cr (oX hq hv)
    refine enter e (h2.app (F6.app h3)) (fun w=>?_)
    have:args.map a.eval=(args.toList.map a.eval).toArray:=by rw [← Array.toList_map]
    simp [execOp,ho,resolve,h1,Deferred.ofValue,invoke,this,Array.append_assoc]
   ·cases e
  ·cases e
theorem Fm (T:TOK P tt mt tb ka) (hI:vy P idx) (hC:oY P call) (R:Rel w0 M z w) (hn:∀ t,.tmp t∈fW o.op→t < a.tmps.size) (hd:a.defers=[]) (e:oneE P tt mt tb ka idx call o vs z=some (av,z')) (hv:OR M a (fW o.op) vs) (k:Nxt w0 M a o z av z' K):o.wp P a w K Q:=by
 unfold oneE Ih at e
 split at e
 ·cases hp:qY P tt mt tb ka o vs z.h with
  | none=>rw [hp] at e; cases e
  | some v =>
   rw [hp] at e
   cases e
   obtain ⟨u,run,hu⟩:=Bi T R.hp hn hd hp hv
   unfold Oper.wp
   rw [run]
   exact k u w M (Ext.refl _ _) hu R
 ·cases hp:rI tt mt o vs with
  | none=>rw [hp] at e; cases e
  | some q =>
   obtain ⟨f,b⟩:=q
   rw [hp] at e
   cases e
   have hz:M z.n=none:=R.nx z.n (Nat.le_refl _)
   obtain ⟨v,en,w',run,h1,h2,h3⟩:=Fy (k:=z.n) (w:=w) T hz hp hv
   unfold Oper.wp
   rw [run]
   refine k v w' _ ⟨gK hz,fun j hj=>dB _ _ (by omega),Nat.le_succ _⟩ h2 ?_
   exact (R.promise b).FE hz (Nat.lt_succ_self _) (fun x hx=>by
    rcases mo hx with ⟨_,h⟩ | ⟨h,_⟩
    ·exact h.symm
    ·exact absurd rfl h) h1 h3
 ·cases ho:o.op <;> simp only [loudE,ho] at e <;> try (cases e; done)
  case store=>rw [ho] at hv; exact (Dh T R e ho hv).wp k
  case mapUpdate=>rw [ho] at hv; exact (Ix T R e ho hv).wp k
  case call c=>exact FQ T hI hC R e ho hv k
end
end Go.Ex
