/- IZ ac Rh a ms of each part; they LV the fill of G4 order. -/
import Derived.Test.YteahldlmkheleaaGreatLV26
set_option linter.all false
namespace Go.Proofs.YteahldlmkheleaaGreat
open Go Go.Sv Go.Pu
theorem tX (w:List Int) (i:Int):∀ t:Nat,pP w i t=((iu w (gi w i) t).length:Int)
 | 0=>by simp [pP,iu]
 | t+1=>by
  rw [pP,g8,tX w i t,List.length_append]
  by_cases e:gi w (t:Int)=gi w i
  ·rw [if_pos e,if_pos (by simpa using e)]; simp
  ·rw [if_neg e,if_neg (by simpa using e)]; simp
theorem AI {w:List Int} {k:Int} {t:Nat} (hk:gi w (t:Int)=k):∀ n:Nat,t < n→gi (iu w k n) ((iu w k t).length:Int)=(t:Int)∧(iu w k t).length < (iu w k n).length
 | 0,h=>by omega
 | n+1,h=>by
  rw [g8]
  by_cases e:n=t
  ·subst e
   rw [if_pos (by simpa using hk),zf,List.length_append]
   exact ⟨rfl,by simp⟩
  ·obtain ⟨h1,h2⟩:=AI hk n (by omega)
   rw [List.length_append]
   refine ⟨?_,by omega⟩
   split
   ·rw [zg (by omega) (by omega)]; exact h1
   ·rw [List.append_nil]; exact h1
theorem tW {w:List Int} {i:Int} (h0:0≤i) (h1:i < w.length):0≤g9 w i∧g9 w i < (aP w (gi w i)).length∧gi (aP w (gi w i)) (g9 w i)=i:=by
 obtain ⟨n,rfl⟩:=Int.eq_ofNat_of_zero_le h0
 unfold g9
 rw [show ((n:Int)).toNat=n by omega,tX,fZ]
 obtain ⟨a,b⟩:=AI (w:=w) (k:=gi w (n:Int)) (t:=n) rfl w.length (by omega)
 exact ⟨by omega,by omega,a⟩
theorem oc {α:Type} [Inhabited α] (f:α→Bool):∀ (p:List α) (y:Nat),y < (p.filter f).length→∃ Y:Nat,Y < p.length∧gi p (Y:Int)=gi (p.filter f) (y:Int)∧(p.take Y).filter f=(p.filter f).take y
 | [],y,h=>by simp at h
 | q :: p,y,h=>by
  rw [List.filter_cons] at h ⊢
  by_cases e:f q=true
  ·rw [if_pos e] at h ⊢
   cases y with
   | zero=>exact ⟨0,by simp,rfl,rfl⟩
   | succ y =>
    obtain ⟨Y,h1,h2,h3⟩:=oc f p y (by simpa using h)
    refine ⟨Y+1,by simpa using h1,?_,?_⟩
    ·rw [bS _ _ (by simpa using h1),bS _ _ h]
     have hy:y < (p.filter f).length:=by simpa using h
     rw [bS _ _ h1,bS _ _ hy] at h2
     simpa using h2
    ·rw [List.take_succ_cons,List.filter_cons,if_pos e,List.take_succ_cons,h3]
  ·rw [if_neg e] at h ⊢
   obtain ⟨Y,h1,h2,h3⟩:=oc f p y h
   refine ⟨Y+1,by simpa using h1,?_,?_⟩
   ·rw [bS _ _ (by simpa using h1)]
    rw [bS _ _ h1] at h2
    simpa using h2
   ·rw [List.take_succ_cons,List.filter_cons,if_neg e,h3]
def jb (h:ak) (k:Int) (p:List aa):List aa:=(gv (ofH h) k p).map fun q=>⟨g9 (ofH h) q.Oper,q.Result⟩
theorem nu {of:List Int} {k:Int} {p:List aa} {q:aa}:q∈gv of k p↔q∈p∧gi of q.Oper=k:=by
 unfold gv; rw [List.mem_filter,beq_iff_eq]
theorem tV {h:ak} {k:Int} {p:List aa} (hin:∀ q∈p,0≤q.Oper∧q.Oper < (bp h).length):(jb h k p).map (fR (aP (ofH h) k))=gv (ofH h) k p:=by
 unfold jb
 rw [List.map_map]
 have:∀ q∈gv (ofH h) k p,(fR (aP (ofH h) k) ∘ fun q:aa=>(⟨g9 (ofH h) q.Oper,q.Result⟩:aa)) q=q:=fun q hq=>by
  obtain ⟨h1,h2⟩:=nu.1 hq
  have:=hin q h1
  have hl:=eA h
  have hr:=(tW (w:=ofH h) this.1 (by omega)).2.2
  rw [h2] at hr
  show (⟨gi (aP (ofH h) k) (g9 (ofH h) q.Oper),q.Result⟩:aa)=q
  rw [hr]
 rw [List.map_congr_left this,List.map_id']
theorem yy {h:ak} {k:Int} {p:List aa} (hin:∀ q∈p,0≤q.Oper∧q.Oper < (bp h).length):∀ q∈jb h k p,0≤q.Oper∧q.Oper < (dp (bp h) (ofH h) k).length:=fun q hq=>by
 unfold jb at hq
 obtain ⟨x,hx,rfl⟩:=List.mem_map.1 hq
 obtain ⟨h1,h2⟩:=nu.1 hx
 have:=hin x h1
 have hl:=eA h
 have hr:=tW (w:=ofH h) this.1 (by omega)
 rw [h2] at hr
 rw [lL (eA h),List.length_map]
 exact ⟨hr.1,hr.2.1⟩
theorem wh {h:ak} (hc:(aB h).2=0) (h20:(bp h).length≤20) {p:List aa} (hj:k4 h p) {k:Nat} (hk:k < h.ae.length):dh (gi h.ae (k:Int)) (dp (bp h) (ofH h) (k:Int)) (jb h (k:Int) p)=true:=by
 obtain ⟨j1,j2,j3,j4⟩:=hj
 have hN:=p9 h (k:Int)
 have hb:=tV (k:=(k:Int)) j1
 have K3:=yy (k:=(k:Int)) j1
 have kM:=j2 k hk
 rw [← hb,oF hN K3] at kM
 have hlen:(jb h (k:Int) p).length=(gv (ofH h) (k:Int) p).length:=by unfold jb; rw [List.length_map]
 have back:∀ (y i:Nat),y≤(jb h (k:Int) p).length→i < (dp (bp h) (ofH h) (k:Int)).length→gi (aP (ofH h) (k:Int)) (i:Int)∈opers ((gv (ofH h) (k:Int) p).take y)→(i:Int)∈opers ((jb h (k:Int) p).take y):=fun y i hy hi hm=>by
  rw [← hb,← List.map_take,rE] at hm
  obtain ⟨x,hx,e⟩:=List.mem_map.1 hm
  obtain ⟨q,hq,rfl⟩:=ny.1 hx
  have MZ:=K3 q (List.mem_of_mem_take hq)
  have:=sM hN MZ.1 MZ.2 (by omega) (by omega) e
  rw [← this]; exact hx
 refine n8.2 ⟨AF hc (dq (by omega) (by omega)),rA hc h20 _,kM,fun y hy=>tj (fun i hi ⟨ha,hn⟩=>hn ?_),fun m hm=>?_⟩
 ·have hq:=K3 _ (dq (l:=jb h (k:Int) p) (i:=(y:Int)) (by omega) (by omega))
  obtain ⟨n,Na⟩:=Int.eq_ofNat_of_zero_le hq.1
  obtain ⟨Y,Y1,Y2,Y3⟩:=oc (fun q:aa=>gi (ofH h) q.Oper == (k:Int)) p y (by rw [hlen] at hy; exact hy)
  have Pe:gi (gv (ofH h) (k:Int) p) (y:Int)=fR (aP (ofH h) (k:Int)) (gi (jb h (k:Int) p) (y:Int)):=by
   rw [← hb]; exact kp _ (by omega) (by omega)
  have OL:(gi p (Y:Int)).Oper=gi (aP (ofH h) (k:Int)) (n:Int):=by
   rw [Y2]
   show (gi (gv (ofH h) (k:Int) p) (y:Int)).Oper=_
   rw [Pe,← Na]; rfl
  rw [Na,(hN.2.1 i hi).1,(hN.2.1 n (by omega)).1,← OL] at ha
  obtain ⟨m,hm⟩:=Int.eq_ofNat_of_zero_le (hN.2.1 i hi).2.1
  have O0:=(hN.2.1 i hi).2.2
  rw [hm] at ha O0
  have qo:(m:Int)∈opers (p.take Y):=by
   refine Classical.byContradiction (fun hh=>?_)
   have:=ti (l:=bp h) (p:=p) (t:=Y) (k:=m) (j1 _ (dq (by omega) (by omega))) (by omega) ha hh
   rw [j3 Y Y1] at this; cases this
  refine back y i (by omega) hi ?_
  rw [hm]
  obtain ⟨q,K5,yY⟩:=ny.1 qo
  have M2:q∈(p.take Y).filter (fun q:aa=>gi (ofH h) q.Oper == (k:Int)):=by
   rw [List.mem_filter]
   refine ⟨K5,?_⟩
   have:=kX (dq (l:=aP (ofH h) (k:Int)) (i:=(i:Int)) (by omega) (by rw [← hN.1]; omega))
   rw [hm] at this
   rw [yY]; simpa using this.2.2
  rw [Y3] at M2
  exact ny.2 ⟨q,M2,yY⟩
 ·obtain ⟨m0,m1,m2,m3⟩:=hU.1 hm
  obtain ⟨i,rfl⟩:=Int.eq_ofNat_of_zero_le m0
  obtain ⟨e1,e2,e3⟩:=hN.2.1 i (by omega)
  rw [e1] at m2
  have OX:=kX (dq (l:=aP (ofH h) (k:Int)) (i:=(i:Int)) (by omega) (by rw [← hN.1]; omega))
  have qo:gi (aP (ofH h) (k:Int)) (i:Int)∈opers p:=Classical.byContradiction (fun hh=>j4 _ (hU.2 ⟨e2,e3,m2,hh⟩))
  obtain ⟨q,K5,yY⟩:=ny.1 qo
  have:=back (jb h (k:Int) p).length i (Nat.le_refl _) (by omega) (by
   rw [hlen,List.take_length]
   exact ny.2 ⟨q,nu.2 ⟨K5,by rw [yY]; exact OX.2.2⟩,yY⟩)
  rw [List.take_length] at this
  exact m3 this
theorem yU {h:ak} (hc:(aB h).2=0) (h20:(bp h).length≤20) {p:List aa} (hj:k4 h p):∀ k,k < h.ae.length→gZ (bp h) (ofH h) h.ae k:=fun k hk=>Hi hc h20 hk (wh hc h20 hj hk)
theorem uk {h:ak} {p:List aa} (hc:(aB h).2=0) (hj:k4 h p):(opers p).Nodup:=by
 obtain ⟨j1,j2,_,_⟩:=hj
 unfold List.Nodup
 rw [List.pairwise_iff_getElem]
 intro i j hi hj wq e
 rw [gg] at hi hj
 have PP:(opers p)[i]'(by rw [gg]; exact hi)=(gi p (i:Int)).Oper:=by rw [← kF hi,bS]
 have PO:(opers p)[j]'(by rw [gg]; exact hj)=(gi p (j:Int)).Oper:=by rw [← kF hj,bS]
 rw [PP,PO] at e
 have hin:=j1 _ (dq (l:=p) (i:=(i:Int)) (by omega) (by omega))
 have hl:=eA h
 have M7:=xu hc (gi (ofH h) (gi p (i:Int)).Oper) (dq hin.1 (by omega))
 obtain ⟨k,hk⟩:=Int.eq_ofNat_of_zero_le M7.1
 rw [hk] at M7
 have hd:=(pX (j2 k (by omega))).1
 have hs:p=p.take i++(gi p (i:Int) :: (p.drop (i+1))):=by rw [← gJ hi,List.take_append_drop]
 have hs2:gi p (j:Int)∈p.drop (i+1):=by
  rw [bS _ _ hj]
  have:p[j]=(p.drop (i+1))[j - (i+1)]'(by rw [List.length_drop]; omega):=by rw [List.getElem_drop]; congr 1; omega
  rw [this]; exact List.getElem_mem _
 have hf:gv (ofH h) (k:Int) p=gv (ofH h) (k:Int) (p.take i)++(gi p (i:Int) :: gv (ofH h) (k:Int) (p.drop (i+1))):=by
  conv=>lhs; rw [hs]
  unfold gv
  rw [List.filter_append,List.filter_cons,if_pos (by simpa using hk)]
 rw [hf] at hd
 have ho:∀ a b:List aa,opers (a++b)=opers a++opers b:=fun a b=>by unfold opers; rw [List.map_append]
 rw [ho,List.nodup_append] at hd
 have D9:=hd.2.1
 have gp:opers (gi p (i:Int) :: gv (ofH h) (k:Int) (p.drop (i+1)))=(gi p (i:Int)).Oper :: opers (gv (ofH h) (k:Int) (p.drop (i+1))):=rfl
 rw [gp,List.nodup_cons] at D9
 exact D9.1 (ny.2 ⟨gi p (j:Int),nu.2 ⟨hs2,by rw [← e]; exact hk⟩,e.symm⟩)
theorem CG {o:ah} {l:List ab} {prev:List Int} {s:Int} {q:aa} (h:(di o l prev s q).2=0):(bq o s (gi l q.Oper).Kind).2.2=true∧(bq o s (gi l q.Oper).Kind).2.1=q.Result∧(di o l prev s q).1=(bq o s (gi l q.Oper).Kind).1:=by
 unfold di at h ⊢
 by_cases h1:q.Oper < 0∨q.Oper≥l.length
 ·rw [if_pos h1] at h; cases h
 ·rw [if_neg h1] at h ⊢
  by_cases h2:q.Oper∈prev
  ·rw [if_pos h2] at h; cases h
  ·rw [if_neg h2] at h ⊢
   unfold gf at h ⊢
   by_cases h3:fV o l s q≠0
   ·rw [if_pos h3] at h; exact absurd h h3
   ·rw [if_neg h3] at h ⊢
    have h3:fV o l s q=0:=by omega
    unfold fV at h3
    have h4:(cX o s (gi l q.Oper).Kind q.Result).2=0:=by
     split at h3
     ·cases h3
     ·exact h3
    unfold cX at h4 ⊢
    by_cases h5:s < 0∨s≥o.ar
    ·rw [if_pos h5] at h4; cases h4
    ·rw [if_neg h5] at h4 ⊢
     by_cases h6:(bq o s (gi l q.Oper).Kind).2.2=false∨(bq o s (gi l q.Oper).Kind).2.1≠q.Result
     ·rw [if_pos h6] at h4; cases h4
     ·rw [if_neg h6]
      refine ⟨?_,Decidable.of_not_not (fun hh=>h6 (.inr hh)),rfl⟩
      cases e:(bq o s (gi l q.Oper).Kind).2.2 with
      | true=>rfl
      | false=>exact absurd (.inl e) h6
theorem rm (of:List Int) (k:Int) (q:aa) (p:List aa):gv of k (q :: p)=if gi of q.Oper=k then q :: gv of k p else gv of k p:=by
 unfold gv
 rw [List.filter_cons]
 by_cases e:gi of q.Oper=k
 ·rw [if_pos (by simpa using e),if_pos e]
 ·rw [if_neg (by simpa using e),if_neg e]
theorem qy {os:List ah} {l:List ab} {of:List Int}:∀ (p:List aa) (st:List Int) (out:List aa),st.length=os.length→(∀ q∈p,0≤gi of q.Oper∧gi of q.Oper < os.length)→(∀ k:Nat,k < os.length→∃ prev,(gT (gi os (k:Int)) l prev (gi st (k:Int)) (gv of (k:Int) p)).2.2=0)→iI os l of (opers p) st out=(out++p,true)
 | [],st,out,_,_,_=>by simp [opers,iI]
 | q :: p,st,out,jI,hin,kM=>by
  have hq:=hin q (List.mem_cons_self ..)
  obtain ⟨k0,Jn⟩:=Int.eq_ofNat_of_zero_le hq.1
  rw [Jn] at hq
  obtain ⟨prev,hr⟩:=kM k0 (by omega)
  rw [rm,if_pos Jn,gT] at hr
  have hs:(di (gi os (k0:Int)) l prev (gi st (k0:Int)) q).2=0:=by
   refine Classical.byContradiction (fun hn=>?_)
   rw [if_pos hn] at hr; exact hn hr
  rw [if_neg (by omega)] at hr
  obtain ⟨m1,m2,m3⟩:=CG hs
  have ho:opers (q :: p)=q.Oper :: opers p:=rfl
  rw [ho,iI,Jn,if_neg (by rw [m1]; decide),m2]
  have ih:=qy (os:=os) (l:=l) (of:=of) p (st.set k0 (bq (gi os (k0:Int)) (gi st (k0:Int)) (gi l q.Oper).Kind).1) (out++[q]) (by rw [List.length_set]; exact jI) (fun x hx=>hin x (List.mem_cons_of_mem _ hx)) (fun k hk=>by
   by_cases e:k=k0
   ·subst e
    rw [oL (by omega),← m3]
    exact ⟨_,hr⟩
   ·rw [ld (by omega) (fun hh=>e hh.symm)]
    obtain ⟨pv,hp⟩:=kM k hk
    rw [rm,if_neg (by rw [Jn]; omega)] at hp
    exact ⟨pv,hp⟩)
  rw [show ((k0:Nat):Int).toNat=k0 by omega]
  have OI:(⟨q.Oper,q.Result⟩:aa)=q:=rfl
  rw [OI,ih,List.append_assoc]; rfl
theorem Dk {h:ak} (hc:(aB h).2=0) {p:List aa} (hj:k4 h p):c9 h.ae (bp h) (ofH h) (opers p)=(p,true):=by
 obtain ⟨j1,j2,_,_⟩:=hj
 unfold c9
 have hl:=eA h
 rw [qy p (h.ae.map (·.aE)) [] (by rw [List.length_map]) (fun q hq=>?_) (fun k hk=>?_)]
 ·rfl
 ·have:=j1 q hq
  exact xu hc _ (dq this.1 (by omega))
 ·refine ⟨[],?_⟩
  rw [kp (fun o:ah=>o.aE) (by omega) (by omega)]
  have:=j2 k hk
  unfold cC cN at this
  by_cases hm:fg (gi h.ae (k:Int)) (gi h.ae (k:Int)).aE≠0
  ·rw [if_pos hm] at this; exact absurd this hm
  ·rw [if_neg hm] at this; exact this
end Go.Proofs.YteahldlmkheleaaGreat
