/- Joint picks say a linearization of each part; they are the fill of their order. -/
import Derived.Test.YteahldlmkheleaaGreatLV26
set_option linter.all false
namespace Go.Proofs.YteahldlmkheleaaGreat
open Go Go.Sv Go.Pu
theorem u9 (w:List Int) (i:Int):∀ t:Nat,qG w i t=((iU w (gi w i) t).length:Int)
 | 0=>by simp [qG,iU]
 | t+1=>by
  rw [qG,iy,u9 w i t,List.length_append]
  by_cases e:gi w (t:Int)=gi w i
  ·rw [if_pos e,if_pos (by simpa using e)]; simp
  ·rw [if_neg e,if_neg (by simpa using e)]; simp
theorem BW {w:List Int} {k:Int} {t:Nat} (hk:gi w (t:Int)=k):∀ n:Nat,t < n→gi (iU w k n) ((iU w k t).length:Int)=(t:Int)∧(iU w k t).length < (iU w k n).length
 | 0,h=>by omega
 | n+1,h=>by
  rw [iy]
  by_cases e:n=t
  ·subst e
   rw [if_pos (by simpa using hk),Aw,List.length_append]
   exact ⟨rfl,by simp⟩
  ·obtain ⟨h1,h2⟩:=BW hk n (by omega)
   rw [List.length_append]
   refine ⟨?_,by omega⟩
   split
   ·rw [Ax (by omega) (by omega)]; exact h1
   ·rw [List.append_nil]; exact h1
theorem u7 {w:List Int} {i:Int} (h0:0≤i) (h1:i < w.length):0≤iz w i∧iz w i < (aS w (gi w i)).length∧gi (aS w (gi w i)) (iz w i)=i:=by
 obtain ⟨n,rfl⟩:=Int.eq_ofNat_of_zero_le h0
 unfold iz
 rw [show ((n:Int)).toNat=n by omega,u9,gx]
 obtain ⟨a,b⟩:=BW (w:=w) (k:=gi w (n:Int)) (t:=n) rfl w.length (by omega)
 exact ⟨by omega,by omega,a⟩
theorem o8 {α:Type} [Inhabited α] (f:α→Bool):∀ (p:List α) (y:Nat),y < (p.filter f).length→∃ Y:Nat,Y < p.length∧gi p (Y:Int)=gi (p.filter f) (y:Int)∧(p.take Y).filter f=(p.filter f).take y
 | [],y,h=>by simp at h
 | q :: p,y,h=>by
  rw [List.filter_cons] at h ⊢
  by_cases e:f q=true
  ·rw [if_pos e] at h ⊢
   cases y with
   | zero=>exact ⟨0,by simp,rfl,rfl⟩
   | succ y =>
    obtain ⟨Y,h1,h2,h3⟩:=o8 f p y (by simpa using h)
    refine ⟨Y+1,by simpa using h1,?_,?_⟩
    ·rw [bZ _ _ (by simpa using h1),bZ _ _ h]
     have hy:y < (p.filter f).length:=by simpa using h
     rw [bZ _ _ h1,bZ _ _ hy] at h2
     simpa using h2
    ·rw [List.take_succ_cons,List.filter_cons,if_pos e,List.take_succ_cons,h3]
  ·rw [if_neg e] at h ⊢
   obtain ⟨Y,h1,h2,h3⟩:=o8 f p y h
   refine ⟨Y+1,by simpa using h1,?_,?_⟩
   ·rw [bZ _ _ (by simpa using h1)]
    rw [bZ _ _ h1] at h2
    simpa using h2
   ·rw [List.take_succ_cons,List.filter_cons,if_neg e,h3]
def jD (h:al) (k:Int) (p:List aa):List aa:=(gT (ofH h) k p).map fun q=>⟨iz (ofH h) q.Oper,q.Result⟩
theorem om {of:List Int} {k:Int} {p:List aa} {q:aa}:q∈gT of k p↔q∈p∧gi of q.Oper=k:=by
 unfold gT; rw [List.mem_filter,beq_iff_eq]
theorem u6 {h:al} {k:Int} {p:List aa} (hin:∀ q∈p,0≤q.Oper∧q.Oper < (bz h).length):(jD h k p).map (gm (aS (ofH h) k))=gT (ofH h) k p:=by
 unfold jD
 rw [List.map_map]
 have:∀ q∈gT (ofH h) k p,(gm (aS (ofH h) k) ∘ fun q:aa=>(⟨iz (ofH h) q.Oper,q.Result⟩:aa)) q=q:=fun q hq=>by
  obtain ⟨h1,h2⟩:=om.1 hq
  have:=hin q h1
  have hl:=eR h
  have hr:=(u7 (w:=ofH h) this.1 (by omega)).2.2
  rw [h2] at hr
  show (⟨gi (aS (ofH h) k) (iz (ofH h) q.Oper),q.Result⟩:aa)=q
  rw [hr]
 rw [List.map_congr_left this,List.map_id']
theorem zW {h:al} {k:Int} {p:List aa} (hin:∀ q∈p,0≤q.Oper∧q.Oper < (bz h).length):∀ q∈jD h k p,0≤q.Oper∧q.Oper < (dA (bz h) (ofH h) k).length:=fun q hq=>by
 unfold jD at hq
 obtain ⟨x,hx,rfl⟩:=List.mem_map.1 hq
 obtain ⟨h1,h2⟩:=om.1 hx
 have:=hin x h1
 have hl:=eR h
 have hr:=u7 (w:=ofH h) this.1 (by omega)
 rw [h2] at hr
 rw [my (eR h),List.length_map]
 exact ⟨hr.1,hr.2.1⟩
theorem xC {h:al} (hc:(aE h).2=0) (h20:(bz h).length≤20) {p:List aa} (hj:lP h p) {k:Nat} (hk:k < h.ae.length):dt (gi h.ae (k:Int)) (dA (bz h) (ofH h) (k:Int)) (jD h (k:Int) p)=true:=by
 obtain ⟨j1,j2,j3,j4⟩:=hj
 have hN:=qX h (k:Int)
 have hb:=u6 (k:=(k:Int)) j1
 have Ms:=zW (k:=(k:Int)) j1
 have lA:=j2 k hk
 rw [← hb,pD hN Ms] at lA
 have hlen:(jD h (k:Int) p).length=(gT (ofH h) (k:Int) p).length:=by unfold jD; rw [List.length_map]
 have back:∀ (y i:Nat),y≤(jD h (k:Int) p).length→i < (dA (bz h) (ofH h) (k:Int)).length→gi (aS (ofH h) (k:Int)) (i:Int)∈opers ((gT (ofH h) (k:Int) p).take y)→(i:Int)∈opers ((jD h (k:Int) p).take y):=fun y i hy hi hm=>by
  rw [← hb,← List.map_take,sI] at hm
  obtain ⟨x,hx,e⟩:=List.mem_map.1 hm
  obtain ⟨q,hq,rfl⟩:=oq.1 hx
  have Ou:=Ms q (List.mem_of_mem_take hq)
  have:=tT hN Ou.1 Ou.2 (by omega) (by omega) e
  rw [← this]; exact hx
 refine o4.2 ⟨BT hc (dB (by omega) (by omega)),sD hc h20 _,lA,fun y hy=>uv (fun i hi ⟨ha,hn⟩=>hn ?_),fun m hm=>?_⟩
 ·have hq:=Ms _ (dB (l:=jD h (k:Int) p) (i:=(y:Int)) (by omega) (by omega))
  obtain ⟨n,OD⟩:=Int.eq_ofNat_of_zero_le hq.1
  obtain ⟨Y,Y1,Y2,Y3⟩:=o8 (fun q:aa=>gi (ofH h) q.Oper == (k:Int)) p y (by rw [hlen] at hy; exact hy)
  have QI:gi (gT (ofH h) (k:Int) p) (y:Int)=gm (aS (ofH h) (k:Int)) (gi (jD h (k:Int) p) (y:Int)):=by
   rw [← hb]; exact ld _ (by omega) (by omega)
  have Qh:(gi p (Y:Int)).Oper=gi (aS (ofH h) (k:Int)) (n:Int):=by
   rw [Y2]
   show (gi (gT (ofH h) (k:Int) p) (y:Int)).Oper=_
   rw [QI,← OD]; rfl
  rw [OD,(hN.2.1 i hi).1,(hN.2.1 n (by omega)).1,← Qh] at ha
  obtain ⟨m,hm⟩:=Int.eq_ofNat_of_zero_le (hN.2.1 i hi).2.1
  have Qu:=(hN.2.1 i hi).2.2
  rw [hm] at ha Qu
  have rk:(m:Int)∈opers (p.take Y):=by
   refine Classical.byContradiction (fun hh=>?_)
   have:=uu (l:=bz h) (p:=p) (t:=Y) (k:=m) (j1 _ (dB (by omega) (by omega))) (by omega) ha hh
   rw [j3 Y Y1] at this; cases this
  refine back y i (by omega) hi ?_
  rw [hm]
  obtain ⟨q,Mu,Ao⟩:=oq.1 rk
  have Ov:q∈(p.take Y).filter (fun q:aa=>gi (ofH h) q.Oper == (k:Int)):=by
   rw [List.mem_filter]
   refine ⟨Mu,?_⟩
   have:=lL (dB (l:=aS (ofH h) (k:Int)) (i:=(i:Int)) (by omega) (by rw [← hN.1]; omega))
   rw [hm] at this
   rw [Ao]; simpa using this.2.2
  rw [Y3] at Ov
  exact oq.2 ⟨q,Ov,Ao⟩
 ·obtain ⟨m0,m1,m2,m3⟩:=iD.1 hm
  obtain ⟨i,rfl⟩:=Int.eq_ofNat_of_zero_le m0
  obtain ⟨e1,e2,e3⟩:=hN.2.1 i (by omega)
  rw [e1] at m2
  have Qr:=lL (dB (l:=aS (ofH h) (k:Int)) (i:=(i:Int)) (by omega) (by rw [← hN.1]; omega))
  have rk:gi (aS (ofH h) (k:Int)) (i:Int)∈opers p:=Classical.byContradiction (fun hh=>j4 _ (iD.2 ⟨e2,e3,m2,hh⟩))
  obtain ⟨q,Mu,Ao⟩:=oq.1 rk
  have:=back (jD h (k:Int) p).length i (Nat.le_refl _) (by omega) (by
   rw [hlen,List.take_length]
   exact oq.2 ⟨q,om.2 ⟨Mu,by rw [Ao]; exact Qr.2.2⟩,Ao⟩)
  rw [List.take_length] at this
  exact m3 this
theorem Ak {h:al} (hc:(aE h).2=0) (h20:(bz h).length≤20) {p:List aa} (hj:lP h p):∀ k,k < h.ae.length→iw (bz h) (ofH h) h.ae k:=fun k hk=>IE hc h20 hk (xC hc h20 hj hk)
theorem vq {h:al} {p:List aa} (hc:(aE h).2=0) (hj:lP h p):(opers p).Nodup:=by
 obtain ⟨j1,j2,_,_⟩:=hj
 unfold List.Nodup
 rw [List.pairwise_iff_getElem]
 intro i j hi hj xK e
 rw [gD] at hi hj
 have Rh:(opers p)[i]'(by rw [gD]; exact hi)=(gi p (i:Int)).Oper:=by rw [← lr hi,bZ]
 have Rg:(opers p)[j]'(by rw [gD]; exact hj)=(gi p (j:Int)).Oper:=by rw [← lr hj,bZ]
 rw [Rh,Rg] at e
 have hin:=j1 _ (dB (l:=p) (i:=(i:Int)) (by omega) (by omega))
 have hl:=eR h
 have OA:=yM hc (gi (ofH h) (gi p (i:Int)).Oper) (dB hin.1 (by omega))
 obtain ⟨k,hk⟩:=Int.eq_ofNat_of_zero_le OA.1
 rw [hk] at OA
 have hd:=(qN (j2 k (by omega))).1
 have hs:p=p.take i++(gi p (i:Int) :: (p.drop (i+1))):=by rw [← hX hi,List.take_append_drop]
 have hs2:gi p (j:Int)∈p.drop (i+1):=by
  rw [bZ _ _ hj]
  have:p[j]=(p.drop (i+1))[j - (i+1)]'(by rw [List.length_drop]; omega):=by rw [List.getElem_drop]; congr 1; omega
  rw [this]; exact List.getElem_mem _
 have hf:gT (ofH h) (k:Int) p=gT (ofH h) (k:Int) (p.take i)++(gi p (i:Int) :: gT (ofH h) (k:Int) (p.drop (i+1))):=by
  conv=>lhs; rw [hs]
  unfold gT
  rw [List.filter_append,List.filter_cons,if_pos (by simpa using hk)]
 rw [hf] at hd
 have ho:∀ a b:List aa,opers (a++b)=opers a++opers b:=fun a b=>by unfold opers; rw [List.map_append]
 rw [ho,List.nodup_append] at hd
 have Fu:=hd.2.1
 have gO:opers (gi p (i:Int) :: gT (ofH h) (k:Int) (p.drop (i+1)))=(gi p (i:Int)).Oper :: opers (gT (ofH h) (k:Int) (p.drop (i+1))):=rfl
 rw [gO,List.nodup_cons] at Fu
 exact Fu.1 (oq.2 ⟨gi p (j:Int),om.2 ⟨hs2,by rw [← e]; exact hk⟩,e.symm⟩)
theorem DY {o:aj} {l:List ab} {prev:List Int} {s:Int} {q:aa} (h:(du o l prev s q).2=0):(bA o s (gi l q.Oper).Kind).2.2=true∧(bA o s (gi l q.Oper).Kind).2.1=q.Result∧(du o l prev s q).1=(bA o s (gi l q.Oper).Kind).1:=by
 unfold du at h ⊢
 by_cases h1:q.Oper < 0∨q.Oper≥l.length
 ·rw [if_pos h1] at h; cases h
 ·rw [if_neg h1] at h ⊢
  by_cases h2:q.Oper∈prev
  ·rw [if_pos h2] at h; cases h
  ·rw [if_neg h2] at h ⊢
   unfold gB at h ⊢
   by_cases h3:gr o l s q≠0
   ·rw [if_pos h3] at h; exact absurd h h3
   ·rw [if_neg h3] at h ⊢
    have h3:gr o l s q=0:=by omega
    unfold gr at h3
    have h4:(dc o s (gi l q.Oper).Kind q.Result).2=0:=by
     split at h3
     ·cases h3
     ·exact h3
    unfold dc at h4 ⊢
    by_cases h5:s < 0∨s≥o.au
    ·rw [if_pos h5] at h4; cases h4
    ·rw [if_neg h5] at h4 ⊢
     by_cases h6:(bA o s (gi l q.Oper).Kind).2.2=false∨(bA o s (gi l q.Oper).Kind).2.1≠q.Result
     ·rw [if_pos h6] at h4; cases h4
     ·rw [if_neg h6]
      refine ⟨?_,Decidable.of_not_not (fun hh=>h6 (.inr hh)),rfl⟩
      cases e:(bA o s (gi l q.Oper).Kind).2.2 with
      | true=>rfl
      | false=>exact absurd (.inl e) h6
theorem sr (of:List Int) (k:Int) (q:aa) (p:List aa):gT of k (q :: p)=if gi of q.Oper=k then q :: gT of k p else gT of k p:=by
 unfold gT
 rw [List.filter_cons]
 by_cases e:gi of q.Oper=k
 ·rw [if_pos (by simpa using e),if_pos e]
 ·rw [if_neg (by simpa using e),if_neg e]
theorem rz {os:List aj} {l:List ab} {of:List Int}:∀ (p:List aa) (st:List Int) (out:List aa),st.length=os.length→(∀ q∈p,0≤gi of q.Oper∧gi of q.Oper < os.length)→(∀ k:Nat,k < os.length→∃ prev,(il (gi os (k:Int)) l prev (gi st (k:Int)) (gT of (k:Int) p)).2.2=0)→jk os l of (opers p) st out=(out++p,true)
 | [],st,out,_,_,_=>by simp [opers,jk]
 | q :: p,st,out,kp,hin,lA=>by
  have hq:=hin q (List.mem_cons_self ..)
  obtain ⟨k0,KH⟩:=Int.eq_ofNat_of_zero_le hq.1
  rw [KH] at hq
  obtain ⟨prev,hr⟩:=lA k0 (by omega)
  rw [sr,if_pos KH,il] at hr
  have hs:(du (gi os (k0:Int)) l prev (gi st (k0:Int)) q).2=0:=by
   refine Classical.byContradiction (fun hn=>?_)
   rw [if_pos hn] at hr; exact hn hr
  rw [if_neg (by omega)] at hr
  obtain ⟨m1,m2,m3⟩:=DY hs
  have ho:opers (q :: p)=q.Oper :: opers p:=rfl
  rw [ho,jk,KH,if_neg (by rw [m1]; decide),m2]
  have ih:=rz (os:=os) (l:=l) (of:=of) p (st.set k0 (bA (gi os (k0:Int)) (gi st (k0:Int)) (gi l q.Oper).Kind).1) (out++[q]) (by rw [List.length_set]; exact kp) (fun x hx=>hin x (List.mem_cons_of_mem _ hx)) (fun k hk=>by
   by_cases e:k=k0
   ·subst e
    rw [pJ (by omega),← m3]
    exact ⟨_,hr⟩
   ·rw [lS (by omega) (fun hh=>e hh.symm)]
    obtain ⟨pv,hp⟩:=lA k hk
    rw [sr,if_neg (by rw [KH]; omega)] at hp
    exact ⟨pv,hp⟩)
  rw [show ((k0:Nat):Int).toNat=k0 by omega]
  have Qe:(⟨q.Oper,q.Result⟩:aa)=q:=rfl
  rw [Qe,ih,List.append_assoc]; rfl
theorem EA {h:al} (hc:(aE h).2=0) {p:List aa} (hj:lP h p):dj h.ae (bz h) (ofH h) (opers p)=(p,true):=by
 obtain ⟨j1,j2,_,_⟩:=hj
 unfold dj
 have hl:=eR h
 rw [rz p (h.ae.map (·.aH)) [] (by rw [List.length_map]) (fun q hq=>?_) (fun k hk=>?_)]
 ·rfl
 ·have:=j1 q hq
  exact yM hc _ (dB this.1 (by omega))
 ·refine ⟨[],?_⟩
  rw [ld (fun o:aj=>o.aH) (by omega) (by omega)]
  have:=j2 k hk
  unfold cS c6 at this
  by_cases hm:fF (gi h.ae (k:Int)) (gi h.ae (k:Int)).aH≠0
  ·rw [if_pos hm] at this; exact absurd this hm
  ·rw [if_neg hm] at this; exact this
end Go.Proofs.YteahldlmkheleaaGreat
