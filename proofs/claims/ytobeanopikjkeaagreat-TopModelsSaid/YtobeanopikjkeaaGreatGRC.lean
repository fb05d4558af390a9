/- The count of the models of a formula. Condition: the contracts of the callees. -/
import Derived.Test.YtobeanopikjkeaaGreatGRS
set_option linter.all false
set_option maxHeartbeats 1000000
namespace Go.Proofs.YtobeanopikjkeaaGreat
open Go Go.Sv Go.Pu Go.Rf Go.RowKit
theorem hb26:aD Tryz.prog 26=true:=by kernel_rfl
theorem hb74:aD Tryz.prog 74=true:=by kernel_rfl
theorem w26 (w:World) (χ:Nat→Nat) (f_:aL) (a1:Option Addr) (c1:Nat):Ret Tryz.prog 26 #[.agg #[.int .i64 f_.bC,.slice a1 f_.ai.length c1]] aB w χ (fun w' χ' v=>∃ b,v=.func (.func 74) #[] #[.pointer (some ⟨b,0,none⟩)]∧w.heap.size≤b∧χ' b=901∧w'.heap[b]?=some (.cells #[.int .i64 f_.bC,.slice a1 f_.ai.length c1] 30 (0,0))):=by
 refine GL (f:=26) Tryz.func26 rfl (fun _=>0) (args:=[V (.agg #[.int .i64 f_.bC,.slice a1 f_.ai.length c1])]) (bxs:=[]) (χ:=fun _=>0) (by kernel_rfl) rfl aY.nil fun a hS=>?_
 refine rM T hS ⟨[(1,Pt 2 0)],[(2,(30,[I f_.bC,Sl a1 f_.ai c1]))]⟩ fun ρ a w1 χ1 hS hE hr=>?_
 refine rP T hS ⟨[(2,.f (.func 74) [] [.p 2 0])],[(2,(30,[I f_.bC,Sl a1 f_.ai c1]))]⟩ fun a hS=>?_
 refine aR ?_
 obtain ⟨q1,q2⟩:=hS.cell (id:=2) (t:=30) (cs:=[I f_.bC,Sl a1 f_.ai c1]) (by kernel_rfl)
 have ML:w.heap.size≤ρ 2:=by
  refine Nat.le_of_not_lt fun eS=>?_
  have:=(hE.bW (ρ 2) eS rfl).2
  rw [q1] at this
  cases this
 refine m7 T hS (r:=[.func (.func 74) #[] #[.pointer (some ⟨ρ 2,0,none⟩)]]) (by kernel_rfl) ⟨_,fun b=>if b < w.heap.size then χ b else 901,rfl,⟨hE.os,hE.tape,hE.output,hE.size,fun b hb _=>⟨(hE.bW b hb rfl).1,if_pos hb⟩⟩,ρ 2,rfl,ML,if_neg (by omega),q2⟩
theorem GK {f:FuncId} {F:Func} {c:Code} (m:Nat) (hf:Tryz.prog.funcs[f]?=some F) (hb:F.body=some c) {vals:List Value} {w:World} {χ:Nat→Nat} {R:Ending→World→Prop} (ρ0:Nat→Nat) {args:List SV}
  (hn:Nat.ble args.length F.ntmps=true) (hv:args.map (bj ρ0)=vals)
  (k:∀ a,St F.ntmps ⟨pe 0 args,[]⟩ ρ0 a w χ→c.wp Tryz.prog (qs (fun a' w'=>LeavesInM Fence.wide m Tryz.prog F a'.tmps R a'.defers .returning w') (fun a' w'=>LeavesInM Fence.wide m Tryz.prog F a'.tmps R a'.defers .returning w') []) a w) :
  Calls Tryz.prog f vals.toArray w R:=by
 refine (callsIn_wide (n:=m)).1 (callsIn_of_wp_marks hf hb trivial ((wpIn_wide (n:=m)).2 ?_))
 have hle:=Nat.le_of_ble_eq_true hn
 have hlen:vals.length=args.length:=by rw [← hv]; simp
 refine wp_mono (k { tmps:=vals.toArray++Array.replicate (F.ntmps - vals.toArray.size) undef,defers:=[] } ⟨by simp; omega,rfl,?_,fun id q h=>by cases h⟩) ?_
 ·intro t sv h
  obtain ⟨_,h3⟩:=jX _ _ _ _ h
  have eS:=(List.getElem?_eq_some_iff.1 h3).1
  simp only [Nat.sub_zero] at h3 eS
  rw [Array.getElem?_append_left (by simp; omega)]
  rw [← hv]
  simp [h3]
 ·intro e a w q
  cases e with
  | normal=>exact q
  | ret=>exact q
  | exit id=>exact absurd q (by simp [qs,Go.Sv.look])
  | _=>exact q.elim
theorem Kp.trans {Bx:Nat} {A B C:World} (h:Kp Bx A B) (k:Kp Bx B C):Kp Bx A C:=⟨Nat.le_trans h.1 k.1,fun b o hb ho hc=>k.2 b o hb (h.2 b o hb ho hc) hc⟩
theorem Kp.book {Bx:Nat} {W:World} {l:Nat} {o o':Obj} (h:W.heap[l]?=some o) (hc:o.isCells=false):Kp Bx W (W.putObj l o'):=by
 refine ⟨by simp [World.putObj],fun b p hb hp Sf=>?_⟩
 have hne:b≠l:=by
  rintro rfl
  rw [h] at hp
  cases hp
  rw [hc] at Sf
  cases Sf
 rw [World.putObj_heap_other hne]
 exact hp
structure Gr (w W:World) (Bx:List Nat):Prop where
 os:W.os=w.os
 tape:W.tape=w.tape
 output:W.output=w.output
 size:w.heap.size≤W.heap.size
 bW:∀ b,b < w.heap.size→b∉Bx→W.heap[b]?=w.heap[b]?
theorem Gr.grown {w W W':World} {Bx:List Nat} {row:Option Nat} (h:Gr w W Bx) (g:W.grownBy W' row) (hr:∀ r,row=some r→w.heap.size≤r):Gr w W' Bx :=
 ⟨g.os.trans h.os,g.tape.trans h.tape,g.output.trans h.output,Nat.le_trans h.size g.size,fun b hb hn=>(g.block b (Nat.lt_of_lt_of_le hb h.size) (by
  rintro e
  have:=hr b e.symm
  omega)).trans (h.bW b hb hn)⟩
theorem LF {n:Nat} {rg:List (Nat × SV)} {bx:List (Nat × (Nat × List SV))} {ρ:Nat→Nat} {a:Act} {w W:World} {χ:Nat→Nat} {k id t7:Nat} {v:Value} {t:Nat} {vs:List SV} (h:St n ⟨rg,bx⟩ ρ a w χ) (e:Go.Sv.look rg k=some (Pt id 0)) (hk:k≠t7)
  (hb:W.heap[ρ id]?=some (.cells (vs.map (bj (fun _=>ρ id))).toArray t (0,0))):St n ⟨[(k,Pt 901 0)],[(901,(t,vs))]⟩ (fun _=>ρ id) (a.put (some t7) v) W (fun b=>if b=ρ id then 901 else 0):=by
 refine ⟨by simp [Act.put,h.size],h.defers,fun t' sv hq=>?_,fun D8 q hq=>?_⟩
 ·unfold Go.Sv.look at hq
  cases M6:Nat.beq k t' with
  | false=>rw [M6] at hq; cases hq
  | true =>
   rw [M6] at hq
   cases hq
   have:=Nat.eq_of_beq_eq_true M6
   subst this
   have h2:=h.bc k _ e
   simp only [Act.put]
   rw [Array.getElem?_setIfInBounds_ne (Ne.symm hk)]
   exact h2
 ·unfold Go.Sv.look at hq
  cases M6:Nat.beq 901 D8 with
  | false=>rw [M6] at hq; cases hq
  | true =>
   rw [M6] at hq
   cases hq
   have:=Nat.eq_of_beq_eq_true M6
   subst this
   exact ⟨by simp,rfl,hb⟩
theorem w7 (Oc:S27) (Po:S75) (Pn:S77_76):S7:=by
 intro w χ f_ a1 c1 h1
 refine GK 3 (f:=7) Tryz.func7 rfl (fun _=>0) (args:=[V (.agg #[.int .i64 f_.bC,.slice a1 f_.ai.length c1])]) (χ:=lO χ) (by kernel_rfl) rfl fun a hS=>?_
 have iq:∀ b,ia (lO χ b)=false:=fun b=>by unfold lO; split <;> rfl
 replace h1:=h1.m0 (w':=w) (χ':=lO χ) ⟨Nat.le_refl _,fun b _ h=>⟨rfl,by simp [lO,h]⟩⟩
 refine rM T hS ⟨[(1,Pt 2 0),(2,I 0),(3,I 0)],[(2,(30,[I f_.bC,Sl a1 f_.ai c1]))]⟩ fun ρ1 a w1 χ1 hS tA Zs=>?_
 replace h1:=h1.mv tA rfl
 refine rM T hS ⟨[(1,Pt 2 0),(2,I 0),(3,I 0),(4,Pt 5 0)],[(2,(30,[I f_.bC,Sl a1 f_.ai c1])),(5,(3,[I 0]))]⟩ fun ρ a w2 χ2 hS lA Zr=>?_
 replace h1:=h1.mv lA rfl
 have old:∀ b,b < w.heap.size→w2.heap[b]?=w.heap[b]?∧χ2 b=lO χ b:=fun b hb=>by
  obtain ⟨p1,p2⟩:=tA.bW b hb (iq b)
  obtain ⟨p3,p4⟩:=lA.bW b (Nat.lt_of_lt_of_le hb tA.size) (by rw [p2]; exact iq b)
  exact ⟨p3.trans p1,p4.trans p2⟩
 obtain ⟨r1,r2⟩:=hS.cell (id:=5) (t:=3) (cs:=[I 0]) (by kernel_rfl)
 have UO:=cQ r2
 have WU:w.heap.size≤ρ 5:=by
  refine Nat.le_of_not_lt fun eS=>?_
  have:=(old (ρ 5) eS).2
  rw [r1] at this
  have h2:=iq (ρ 5)
  rw [← this] at h2
  cases h2
 refine a8 ?_
 refine bk ?_
 refine oPe T hS 1 [] [(5,V (.agg #[.int .i64 f_.bC,.slice a1 f_.ai.length c1]))] fun a hS=>?_
 refine op1 (call hS (by kernel_rfl) (by kernel_rfl) hb26 (by kernel_rfl) (fun _ _=>rfl) (w26 _ _ f_ a1 c1) ?_)
 intro v a w3 χ3 Dv hp hS
 obtain ⟨bf,rfl,hbn,UH,Gu⟩:=hp
 replace h1:=h1.mv Dv rfl
 refine gM ?_
 refine aH ?_
 obtain ⟨q1,q2⟩:=hS.cell (id:=5) (t:=3) (cs:=[I 0]) (by kernel_rfl)
 obtain ⟨s1,s2⟩:=hS.cell (id:=2) (t:=30) (cs:=[I f_.bC,Sl a1 f_.ai c1]) (by kernel_rfl)
 have hne:bf≠ρ 5:=by omega
 have yb:ρ 5 < w3.heap.size:=cQ q2
 have M8:RS (aA tI) w3 (cB bf (ρ 5)) a1 f_.ai c1:=h1.m0 ⟨Nat.le_refl _,fun b _ h=>⟨rfl,by
  unfold cB
  rw [if_neg (by rintro rfl; rw [q1] at h; cases h),if_neg (by rintro rfl; rw [UH] at h; cases h)]⟩⟩
 have hg:a.eval (.tmp 6)=.func (.func 74) #[] #[.pointer (some ⟨bf,0,none⟩)]:=hS.evo (x:=.tmp 6) (sv:=V (.func (.func 74) #[] #[.pointer (some ⟨bf,0,none⟩)])) (by kernel_rfl)
 refine (wpIn_wide (n:=3)).1 (wpIn_rangeFunc_ownF (encs:=fun m:MS f_=>#[.int .u32 (m.1:Int)]) (Kp:=Kp (ρ 5)) rfl (by decide) hg trivial (fun args w=>gj hb74 args) (vd Oc Po Pn Gu M8 hne yb) Kp.trans (fun W l o o' _ h hc _=>Kp.book h hc) (Below.refl _ _) (fun _=>rfl)
  (fun pre W=>W.heap[ρ 5]?=some (.cells #[.int .i64 (pre.length:Nat)] 3 (0,0))∧Gr w3 W [ρ 5]) (fun _ _ _=>False) ?_ ?_ ?_ (fun m=>a.put (some 7) (.int .u32 (m.1:Int))) ?_ ?_ ?_ ?_)
 ·rintro pre W W' row ⟨hb,hG⟩ hg hr
  refine ⟨(hg.block _ (Nat.lt_of_lt_of_le yb hG.size) ?_).trans hb,hG.grown hg fun r e=>(hr r e).1⟩
  intro e
  have:=(hr _ e.symm).1
  omega
 ·intro c s W W' row h
  exact h.elim
 ·exact ⟨q2,rfl,rfl,rfl,Nat.le_refl _,fun _ _ _=>rfl⟩
 ·intro l x W K hK
  refine wpIn_skip ?_
  have e:({ tmps:=(#[7].zip #[Value.int .u32 (x.1:Int)]).foldl (fun t (p,v)=>t.setIfInBounds p v) a.tmps,defers:=[] }:Act)=a.put (some 7) (.int .u32 (x.1:Int)):=by
   simp [Act.put,hS.defers]
  show K _ W
  rw [e]
  exact hK
 ·rintro l pre x W ⟨hb,hG⟩ hlen
  refine wpIn_block (wpIn_region_lit (F:=WF (some l)) (jY (ro:=some l) 3 (by simp) ?_))
  have hS':=LF (v:=.int .u32 (x.1:Int)) (t7:=7) (W:=W) (t:=3) (vs:=[I (pre.length:Nat)]) (k:=4) (id:=5) hS (by kernel_rfl) (by decide) hb
  refine eM T hS' ⟨[],[(901,(3,[I (IntKind.i64.wrap (((pre.length:Nat):Int)+1))]))]⟩ fun ρ' a' W' χ' hS hE hr=>?_
  obtain ⟨p1,p2⟩:=hS.cell (id:=901) (t:=3) (cs:=[I (IntKind.i64.wrap (((pre.length:Nat):Int)+1))]) (by kernel_rfl)
  rw [hr 901 (by decide),wrp (by omega) (by omega)] at p2
  have same:∀ b,b < W.heap.size→b≠ρ 5→W'.heap[b]?=W.heap[b]?:=fun b hb hn=>(hE.bW b hb (by simp [hn]; rfl)).1
  refine ⟨⟨hE.size,fun b o ho hc=>?_⟩,⟨hE.size,fun b o hn ho _=>?_⟩,?_,⟨hE.os.trans hG.os,hE.tape.trans hG.tape,hE.output.trans hG.output,Nat.le_trans hG.size hE.size,fun b hb2 hn=>?_⟩⟩
  ·have hn:b≠ρ 5:=by
    rintro rfl
    rw [hb] at ho
    cases ho
    cases hc
   rw [same b (cQ ho) hn]; exact ho
  ·rw [same b (cQ ho) hn]; exact ho
  ·rw [p2,List.length_append]
   rfl
  ·rw [same b (Nat.lt_of_lt_of_le hb2 hG.size) (by simpa using hn)]
   exact hG.bW b hb2 hn
 ·rintro D xs W hD Hw ⟨hb,hG⟩ hK
  have TY:xs.length=(hU f_).length:=by rw [← Hw,List.length_map]
  rw [TY] at hb
  have ea:({ a with defers:={ target:=.collected D,args:=#[] } :: a.defers }:Act)=sd [{ target:=.collected D,args:=#[] }] a:=by
   simp [sd,hS.defers]
  rw [ea]
  obtain ⟨χW,eW⟩:∃ χW:Nat→Nat,χW=fun b=>if b=ρ 5 then 5 else if b=ρ 2 then 2 else 0:=⟨_,rfl⟩
  have h25:ρ 2≠ρ 5:=fun e=>by rw [e,q1] at s1; cases s1
  have c5:χW (ρ 5)=5:=by rw [eW]; simp
  have c2:χW (ρ 2)=2:=by rw [eW]; simp [h25]
  have hb2:W.heap[ρ 2]?=some (.cells #[.int .i64 f_.bC,.slice a1 f_.ai.length c1] 30 (0,0)):=(hG.bW _ (cQ s2) (by simpa using h25)).trans s2
  have hSW:St Tryz.f7.ntmps ⟨[(1,Pt 2 0),(4,Pt 5 0)],[(2,(30,[I f_.bC,Sl a1 f_.ai c1])),(5,(3,[I ((hU f_).length:Nat)]))]⟩ ρ a W χW :=
   ((St.uC (hS.sel [1,4] [] (by kernel_rfl)):St Tryz.f7.ntmps ⟨[(1,Pt 2 0),(4,Pt 5 0)],[]⟩ ρ a W χW).cZ (id:=5) (t:=3) (cs:=[I ((hU f_).length:Nat)]) rfl ⟨c5,hb⟩).cZ (id:=2) (t:=30) (cs:=[I f_.bC,Sl a1 f_.ai c1]) rfl ⟨c2,hb2⟩
  have h1W:RS (aA tI) W χW a1 f_.ai c1:=h1.m0 ⟨hG.size,fun b hb h=>by
   have e5:b≠ρ 5:=by rintro rfl; rw [q1] at h; cases h
   have e2:b≠ρ 2:=by rintro rfl; rw [s1] at h; cases h
   exact ⟨hG.bW b hb (by simpa using e5),by rw [eW]; simp [e5,e2]⟩⟩
  refine wp_seq (wp_mono (GN _ [2,5] mixed hSW (K:=fun a w'=>St Tryz.f7.ntmps ⟨[(2,I ((hU f_).length:Nat)),(3,I (bA f_))],[]⟩ ρ a w' (fun _=>0)∧Gr W w' []) (ret:=fun _ _=>False) (exs:=[]) ?_) ?_)
  ·intro w4 χ4 hS M9 hH
   have hD:=M0.refl w4 χ4
   have h14:=h1W.mv M9 rfl
   refine tke T [0,1] [2,5] hS hH #[true,true,false,false,false] 3 [] [(10,I ((hU f_).length:Nat)),(11,V (.agg #[.int .i64 f_.bC,.slice a1 f_.ai.length c1]))] fun a hS=>?_
   refine only 2 (by kernel_rfl) (by rfl) (call hS (by kernel_rfl) (by kernel_rfl) hb27 (by kernel_rfl) (fun _ _=>rfl) (Oc _ _ f_ a1 c1 h14) ?_)
   intro v a w5 χ5 Aj hp hS
   subst hp
   replace hD:=hD.ev Aj rfl
   refine cm (br.of hS (bks:=[2,5]) (by kernel_rfl) hD) ?_
   intro hH
   refine tke T [3,4] [2,5] hS hH (tts 5) 0 [10,11] [(2,I ((hU f_).length:Nat)),(3,I (bA f_))] fun a hS=>?_
   refine bn (by kernel_rfl) ⟨St.uC (hS.sel [2,3] [] (by kernel_rfl)),Aj.os.trans M9.os,Aj.tape.trans M9.tape,Aj.output.trans M9.output,Nat.le_trans M9.size Aj.size,fun b hb _=>?_⟩
   obtain ⟨p1,_⟩:=M9.bW b hb rfl
   obtain ⟨p2,_⟩:=Aj.bW b (Nat.lt_of_lt_of_le hb M9.size) rfl
   exact p2.trans p1
  ·intro e a' w' hq
   obtain ⟨a0,rfl,hq⟩:=hq
   cases e with
   | normal =>
    obtain ⟨hS,On⟩:=hq
    refine wp_ret ?_
    have hKD:w'.heap[D]?=some (.deferred (some [])):=(On.bW D (cQ hK) (by simp)).trans hK
    refine (show LeavesInM Fence.wide 3 Tryz.prog Tryz.f7 (sd [{ target:=.collected D,args:=#[] }] a0).tmps _ (sd [{ target:=.collected D,args:=#[] }] a0).defers .returning w' from ?_)
    have ed:(sd [{ target:=.collected D,args:=#[] }] a0).defers=[{ target:=.collected D,args:=#[] }]:=by simp [sd,hS.defers]
    rw [ed]
    refine ⟨by simp,.inl ⟨_,_,rfl,run_takeDeferred hKD,?_⟩⟩
    obtain ⟨_,v,hv,hv2⟩:=m7 (F:=Tryz.f7) (R:=fun e _=>e=.returned (.tuple #[.int .i64 ((hU f_).length:Nat),.int .i64 (bA f_)])) T (St.uC (w':=w'.putObj D (.deferred none)) (χ':=fun _=>0) hS) (r:=[.int .i64 ((hU f_).length:Nat),.int .i64 (bA f_)]) (by kernel_rfl) rfl
    refine ⟨v,hv,?_⟩
    cases hv2
    have Wf:w.heap.size≤w3.heap.size:=Nat.le_trans tA.size (Nat.le_trans lA.size Dv.size)
    refine ⟨_,χ,rfl,⟨?_,?_,?_,?_,fun b hb _=>⟨?_,rfl⟩⟩,?_⟩
    ·exact On.os.trans (hG.os.trans (Dv.os.trans (lA.os.trans tA.os)))
    ·exact On.tape.trans (hG.tape.trans (Dv.tape.trans (lA.tape.trans tA.tape)))
    ·exact On.output.trans (hG.output.trans (Dv.output.trans (lA.output.trans tA.output)))
    ·have:=On.size
     have:=hG.size
     simp [World.putObj]
     omega
    ·have b2:b < w2.heap.size:=Nat.lt_of_lt_of_le hb (Nat.le_trans tA.size lA.size)
     have b3:b < w3.heap.size:=Nat.lt_of_lt_of_le hb Wf
     rw [World.putObj_heap_other (by omega),On.bW b (Nat.lt_of_lt_of_le b3 hG.size) (by simp),hG.bW b b3 (by simp; omega),(Dv.bW b b2 rfl).1]
     exact (old b hb).1
    ·unfold ff hU
     split
     ·rename_i hz; rw [hz]
     ·rfl
   | _=>exact hq.elim
 ·intro D c pre W _ _ h
  exact h.elim
end Go.Proofs.YtobeanopikjkeaaGreat
