/- Linearizations of a part, by its own places and by those of the whole. -/
import Derived.Test.YteahldlmkheleaaGreatLV22
set_option linter.all false
namespace Go.Proofs.YteahldlmkheleaaGreat
open Go Go.Sv Go.Pu
def mN (a b:List ab):Prop:=a.length=b.length∧(∀ i:Nat,i < a.length→(gi a (i:Int)).Kind=(gi b (i:Int)).Kind∧(gi a (i:Int)).Result=(gi b (i:Int)).Result∧((gi a (i:Int)).End=-1↔(gi b (i:Int)).End=-1))∧∀ i j:Nat,i < a.length→j < a.length→bf (gi a (i:Int)) (gi a (j:Int))=bf (gi b (i:Int)) (gi b (j:Int))
theorem Ad {o:ao} {a b:List ab} (h:mN a b) (prev:List Int) (s:Int) (p:aa):dr o a prev s p=dr o b prev s p:=by
 unfold dr
 rw [h.1]
 by_cases h1:p.Oper < 0∨p.Oper≥b.length
 ·rw [if_pos h1,if_pos h1]
 ·rw [if_neg h1,if_neg h1]
  obtain ⟨n,hn⟩:=Int.eq_ofNat_of_zero_le (show 0≤p.Oper by omega)
  obtain ⟨e1,e2,e3⟩:=h.2.1 n (by have:=h.1; omega)
  unfold gC hZ
  rw [hn,e1,e2]
  simp only [ne_eq,e3]
theorem va {o:ao} {a b:List ab} (h:mN a b):∀ (p:List aa) (prev:List Int) (s:Int),ia o a prev s p=ia o b prev s p
 | [],_,_=>rfl
 | q :: p,prev,s=>by
  rw [ia,ia,Ad h]
  rw [va h p]
theorem xp {o:ao} {a b:List ab} (h:mN a b) (p:List aa):cd o a p=cd o b p:=by
 unfold cd cW
 rw [va h]
theorem BJ {a b:List ab} (h:mN a b) {p:List aa} {y:Nat} (hi:0≤(gi p (y:Int)).Oper∧(gi p (y:Int)).Oper < a.length) (hb:dM a p y=false):dM b p y=false:=by
 refine uF (fun k hk ⟨ha,hn⟩=>?_)
 have hl:=h.1
 obtain ⟨n,e⟩:=Int.eq_ofNat_of_zero_le hi.1
 have:=h.2.2 k n (by omega) (by omega)
 rw [e,← this] at ha
 have hb2:=uE hi (by omega:k < a.length) (by rw [e]; exact ha) hn
 rw [hb2] at hb; cases hb
theorem DZ {o:ao} {a b:List ab} (h:mN a b) (hb:(cn b).2=0) {p:List aa} (hw:de o a p=true):de o b p=true:=by
 obtain ⟨w1,w2,w3,w4,w5⟩:=nN.1 hw
 have kF:=oh w3
 refine nN.2 ⟨w1,hb,by rw [← xp h]; exact w3,fun y hy=>BJ h (kF.2 _ (lr (eJ (by omega) (by omega)))) (w4 y hy),fun m hm=>?_⟩
 obtain ⟨m0,m1,m2,m3⟩:=iI.1 hm
 have hl:=h.1
 obtain ⟨n,rfl⟩:=Int.eq_ofNat_of_zero_le m0
 refine w5 _ (iI.2 ⟨m0,by omega,fun hh=>m2 ((h.2.1 n (by omega)).2.2.1 hh),m3⟩)
theorem sM {h:ak} (hc:(aD h).2=0) (k:Int):mN (dn (bw h) (ofH h) k) (opsOf (dR h.al k)):=by
 rw [BR hc]
 have H:=mP (tT hc k)
 generalize hB:opsOf (dR h.al k)=B at H
 have hg:∀ i:Nat,i < B.length→gi (B.map (vE h k)) (i:Int)=vE h k (gi B (i:Int)):=fun i hi=>jA _ (by omega) (by omega)
 refine ⟨by rw [List.length_map],fun i hi=>?_,fun i j hi hj=>?_⟩
 ·rw [List.length_map] at hi
  rw [hg i hi]
  refine ⟨rfl,rfl,?_⟩
  show ox h k (gi B (i:Int)).End=-1↔_
  unfold ox
  have:=qK h k (gi B (i:Int)).End
  split
  ·rename_i e; exact ⟨fun _=>e,fun _=>rfl⟩
  ·rename_i e; exact ⟨fun hh=>by omega,fun hh=>absurd hh e⟩
 ·rw [List.length_map] at hi hj
  rw [hg i hi,hg j hj]
  obtain ⟨a1,a2,a3⟩:=H.one i hi
  obtain ⟨b1,b2,b3⟩:=H.one j hj
  have fi:=eI a1
  have fj:=eI b1
  unfold bf
  show (decide (ox h k (gi B (i:Int)).End≥0) && decide (ox h k (gi B (i:Int)).End < phi h k (gi B (j:Int)).aG))=_
  unfold ox
  by_cases e:(gi B (i:Int)).End=-1
  ·rw [if_pos e,e]; simp
  ·rw [if_neg e]
   have p0:=qK h k (gi B (i:Int)).End
   rw [decide_eq_true (show phi h k (gi B (i:Int)).End≥0 from p0),decide_eq_true (show (gi B (i:Int)).End≥0 by omega),Bool.true_and,Bool.true_and]
   refine decide_eq_decide.2 ⟨fun hh=>?_,fun hh=>BO (by omega) hh (by omega)⟩
   rcases Int.lt_trichotomy (gi B (i:Int)).End (gi B (j:Int)).aG with hl | hl | hl
   ·exact hl
   ·rw [hl] at hh; omega
   ·have:=BO (h:=h) (k:=k) (i:=(gi B (j:Int)).aG) (j:=(gi B (i:Int)).End) (by omega) hl (by omega)
    omega
theorem tV {h:ak} {k:Int} {i:Nat} (hi:i < (dn (bw h) (ofH h) k).length):gi (dn (bw h) (ofH h) k) (i:Int)=gi (bw h) (gi (aW (ofH h) k) (i:Int))∧0≤gi (aW (ofH h) k) (i:Int)∧gi (aW (ofH h) k) (i:Int) < (bw h).length:=by
 have he:=my (ff h) k
 rw [he,List.length_map] at hi
 rw [he]
 refine ⟨jA _ (by omega) (by omega),?_⟩
 have:=nK (eJ (l:=aW (ofH h) k) (i:=(i:Int)) (by omega) (by omega))
 have hl:=ff h
 omega
theorem lO (h:ak) (k:Int):(dn (bw h) (ofH h) k).length≤(bw h).length:=by
 rw [my (ff h),List.length_map,gz]
 have:=ot (ofH h) k (ofH h).length
 have:=ff h
 omega
theorem B2 {h:ak} {k:Int} {i j:Int} (h0:0≤i) (h1:i < j) (h2:j < (aW (ofH h) k).length):gi (aW (ofH h) k) i < gi (aW (ofH h) k) j:=by
 rw [gz] at h2 ⊢
 exact sn (lQ _ _ _) h0 h1 h2
theorem Ap {h:ak} (hc:(aD h).2=0) (h20:(bw h).length≤20) (k:Int):(cn (dn (bw h) (ofH h) k)).2=0:=by
 have H:=mP (iG hc).1
 have hH:opsOf (bo h)=bw h:=rfl
 rw [hH] at H
 have hle:=lO h k
 unfold cn
 rw [if_neg (by omega)]
 have vJ:∀ i:Nat,i < (dn (bw h) (ofH h) k).length→dk (gi (dn (bw h) (ofH h) k) (i:Int))=0:=fun i hi=>by
  obtain ⟨e,a,b⟩:=tV hi
  obtain ⟨n,hn⟩:=Int.eq_ofNat_of_zero_le a
  rw [e,hn]
  exact (H.one n (by omega)).1
 refine rE (by omega) vJ (fun i j w7 hj=>?_) _ _ _ 0 (by omega) (fun t=>⟨by simp [fy,aF],by simp [fy,aF],by simp [fy,aF]⟩) (fun p=>by simp [aF])
 obtain ⟨e,a,b⟩:=tV (h:=h) (k:=k) (i:=i) (by omega)
 obtain ⟨e',a',b'⟩:=tV (h:=h) (k:=k) (i:=j) hj
 have NV:(dn (bw h) (ofH h) k).length=(aW (ofH h) k).length:=by rw [my (ff h),List.length_map]
 have hX:=B2 (h:=h) (k:=k) (i:=(i:Int)) (j:=(j:Int)) (by omega) (by omega) (by omega)
 have ai:=eI (vJ i (by omega))
 rw [e] at ai
 rw [e,e']
 obtain ⟨n,hn⟩:=Int.eq_ofNat_of_zero_le a
 obtain ⟨m,hm⟩:=Int.eq_ofNat_of_zero_le a'
 rw [hn] at ai
 rw [hn,hm]
 obtain ⟨t1,t2,t3,t4,t5⟩:=H.two n m (by omega) (by omega)
 refine ⟨t1,?_,fun hp=>?_⟩
 ·rw [← Bool.not_eq_true,lu]
  rintro (hh | hh | hh | hh)
  ·omega
  ·exact t3 hh
  ·exact t4 hh
  ·exact t2 hh.2 hh.1
 ·obtain ⟨x,y⟩:=t5 hp
  unfold bf
  rw [Bool.and_eq_true,decide_eq_true_eq,decide_eq_true_eq]
  exact ⟨by omega,y⟩
theorem qM {h:ak} (hc:(aD h).2=0) (h20:(bw h).length≤20) (k:Int):(cn (opsOf (dR h.al k))).2=0:=by
 refine Au (mP (tT hc k)) ?_
 have h1:=(sM hc k).1
 have h2:=lO h k
 omega
theorem Gg {h:ak} (hc:(aD h).2=0) {o:ao} (ho:o∈h.ae):(bA o).2=0:=by
 have hb:=(iG hc).2.1
 unfold p6 at hb
 have:¬ h.ae.any cV=true:=fun hh=>hb (.inr (.inr hh))
 rw [Bool.not_eq_true,List.any_eq_false] at this
 have:=this o ho
 unfold cV at this
 simpa using this
theorem DY {h:ak} (hc:(aD h).2=0) (h20:(bw h).length≤20) {j:Nat} (hj:j < h.ae.length):cx (gi h.ae (j:Int)) (dn (bw h) (ofH h) (j:Int)) 20=0:=by
 unfold cx
 rw [if_neg,if_neg]
 ·have:=lO h (j:Int); omega
 ·rintro (hh | hh)
  ·exact hh (Gg hc (eJ (by omega) (by omega)))
  ·exact hh (Ap hc h20 _)
theorem Gi {h:ak} (hc:(aD h).2=0) (h20:(bw h).length≤20) {j:Nat} (hj:j < h.ae.length) (hn:¬ jc (bw h) (ofH h) h.ae j):(bn (gi h.ae (j:Int)) (dn (bw h) (ofH h) (j:Int))).2=41∧∀ p,de (gi h.ae (j:Int)) (dn (bw h) (ofH h) (j:Int)) p=false:=by
 rcases oc (gi h.ae (j:Int)) (dn (bw h) (ofH h) (j:Int)) with ⟨h1,_⟩ | ⟨h1,h2,h3⟩ | ⟨x,L,h1,h2,h3⟩
 ·exact absurd (DY hc h20 hj) h1
 ·refine ⟨by rw [h3],fun p=>?_⟩
  rw [← Bool.not_eq_true]
  intro hw
  obtain ⟨c1,c2,_⟩:=lV h1
  have:=(ra c1 c2 p).2 hw
  rw [h2] at this; cases this
 ·exact absurd (show jc (bw h) (ofH h) h.ae j by unfold jc; rw [h3]) hn
end Go.Proofs.YteahldlmkheleaaGreat
