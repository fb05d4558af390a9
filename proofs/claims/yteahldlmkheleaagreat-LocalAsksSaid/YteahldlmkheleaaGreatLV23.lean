/- Lemmas. -/
import Derived.Test.YteahldlmkheleaaGreatLV22
set_option linter.all false
namespace Go.Proofs.YteahldlmkheleaaGreat
open Go Go.Sv Go.Pu
def kF (a b:List ab):Prop:=a.length=b.length∧(∀ i:Nat,i < a.length→(gi a (i:Int)).Kind=(gi b (i:Int)).Kind∧(gi a (i:Int)).Result=(gi b (i:Int)).Result∧((gi a (i:Int)).End=-1↔(gi b (i:Int)).End=-1))∧∀ i j:Nat,i < a.length→j < a.length→aZ (gi a (i:Int)) (gi a (j:Int))=aZ (gi b (i:Int)) (gi b (j:Int))
theorem zE {o:ae} {a b:List ab} (h:kF a b) (prev:List Int) (s:Int) (p:aa):ca o a prev s p=ca o b prev s p:=by
 unfold ca
 rw [h.1]
 by_cases h1:p.Oper < 0∨p.Oper≥b.length
 ·rw [if_pos h1,if_pos h1]
 ·rw [if_neg h1,if_neg h1]
  obtain ⟨n,hn⟩:=Int.eq_ofNat_of_zero_le (show 0≤p.Oper by omega)
  obtain ⟨e1,e2,e3⟩:=h.2.1 n (by have:=h.1; omega)
  unfold gW gw
  rw [hn,e1,e2]
  simp only [ne_eq,e3]
theorem uA {o:ae} {a b:List ab} (h:kF a b):∀ (p:List aa) (prev:List Int) (s:Int),fh o a prev s p=fh o b prev s p
 | [],_,_=>rfl
 | q :: p,prev,s=>by
  rw [fh,fh,zE h]
  rw [uA h p]
theorem wB {o:ae} {a b:List ab} (h:kF a b) (p:List aa):cg o a p=cg o b p:=by
 unfold cg bL
 rw [uA h]
theorem Bp {a b:List ab} (h:kF a b) {p:List aa} {y:Nat} (hi:0≤(gi p (y:Int)).Oper∧(gi p (y:Int)).Oper < a.length) (hb:dP a p y=false):dP b p y=false:=by
 refine tY (fun k hk ⟨ha,hn⟩=>?_)
 have hl:=h.1
 obtain ⟨n,e⟩:=Int.eq_ofNat_of_zero_le hi.1
 have:=h.2.2 k n (by omega) (by omega)
 rw [e,← this] at ha
 have hb2:=re hi (by omega:k < a.length) (by rw [e]; exact ha) hn
 rw [hb2] at hb; cases hb
theorem xR {o:ae} {a b:List ab} (h:kF a b) (hb:(bZ b).2=0) {p:List aa} (hw:c9 o a p=true):c9 o b p=true:=by
 obtain ⟨w1,w2,w3,w4,w5⟩:=oO.1 hw
 have mt:=ln w3
 refine oO.2 ⟨w1,hb,by rw [← wB h]; exact w3,fun y hy=>Bp h (mt.2 _ (lq (e7 (by omega) (by omega)))) (w4 y hy),fun m hm=>?_⟩
 obtain ⟨m0,m1,m2,m3⟩:=h8.1 hm
 have hl:=h.1
 obtain ⟨n,rfl⟩:=Int.eq_ofNat_of_zero_le m0
 refine w5 _ (h8.2 ⟨m0,by omega,fun hh=>m2 ((h.2.1 n (by omega)).2.2.1 hh),m3⟩)
theorem zD {a b:List ab} (h:kF a b):kF b a:=by
 obtain ⟨h1,h2,h3⟩:=h
 exact ⟨h1.symm,fun i hi=>⟨(h2 i (by omega)).1.symm,(h2 i (by omega)).2.1.symm,(h2 i (by omega)).2.2.symm⟩,fun i j hi hj=>(h3 i j (by omega) (by omega)).symm⟩
theorem sb {h:ak} (hc:(aB h).2=0) (k:Int):kF (dm (bB h) (ofH h) k) (opsOf (dt h.al k)):=by
 rw [Bw hc]
 have H:=nQ (tt hc k)
 generalize hB:opsOf (dt h.al k)=B at H
 have hg:∀ i:Nat,i < B.length→gi (B.map (uZ h k)) (i:Int)=uZ h k (gi B (i:Int)):=fun i hi=>kW _ (by omega) (by omega)
 refine ⟨by rw [List.length_map],fun i hi=>?_,fun i j hi hj=>?_⟩
 ·rw [List.length_map] at hi
  rw [hg i hi]
  refine ⟨rfl,rfl,?_⟩
  show nY h k (gi B (i:Int)).End=-1↔_
  unfold nY
  have:=qo h k (gi B (i:Int)).End
  split
  ·rename_i e; exact ⟨fun _=>e,fun _=>rfl⟩
  ·rename_i e; exact ⟨fun hh=>by omega,fun hh=>absurd hh e⟩
 ·rw [List.length_map] at hi hj
  rw [hg i hi,hg j hj]
  obtain ⟨a1,a2,a3⟩:=H.one i hi
  obtain ⟨b1,b2,b3⟩:=H.one j hj
  have fi:=eU a1
  have fj:=eU b1
  unfold aZ
  show (decide (nY h k (gi B (i:Int)).End≥0) && decide (nY h k (gi B (i:Int)).End < phi h k (gi B (j:Int)).aE))=_
  unfold nY
  by_cases e:(gi B (i:Int)).End=-1
  ·rw [if_pos e,e]; simp
  ·rw [if_neg e]
   have p0:=qo h k (gi B (i:Int)).End
   rw [decide_eq_true (show phi h k (gi B (i:Int)).End≥0 from p0),decide_eq_true (show (gi B (i:Int)).End≥0 by omega),Bool.true_and,Bool.true_and]
   refine decide_eq_decide.2 ⟨fun hh=>?_,fun hh=>Bs (by omega) hh (by omega)⟩
   rcases Int.lt_trichotomy (gi B (i:Int)).End (gi B (j:Int)).aE with hl | hl | hl
   ·exact hl
   ·rw [hl] at hh; omega
   ·have:=Bs (h:=h) (k:=k) (i:=(gi B (j:Int)).aE) (j:=(gi B (i:Int)).End) (by omega) hl (by omega)
    omega
theorem tv {h:ak} {k:Int} {i:Nat} (hi:i < (dm (bB h) (ofH h) k).length):gi (dm (bB h) (ofH h) k) (i:Int)=gi (bB h) (gi (bo (ofH h) k) (i:Int))∧0≤gi (bo (ofH h) k) (i:Int)∧gi (bo (ofH h) k) (i:Int) < (bB h).length:=by
 have he:=nj (gu h) k
 rw [he,List.length_map] at hi
 rw [he]
 refine ⟨kW _ (by omega) (by omega),?_⟩
 have:=oJ (e7 (l:=bo (ofH h) k) (i:=(i:Int)) (by omega) (by omega))
 have hl:=gu h
 omega
theorem lH (h:ak) (k:Int):(dm (bB h) (ofH h) k).length≤(bB h).length:=by
 rw [nj (gu h),List.length_map,hY]
 have:=nT (ofH h) k (ofH h).length
 have:=gu h
 omega
theorem BI {h:ak} {k:Int} {i j:Int} (h0:0≤i) (h1:i < j) (h2:j < (bo (ofH h) k).length):gi (bo (ofH h) k) i < gi (bo (ofH h) k) j:=by
 rw [hY] at h2 ⊢
 exact rR (lJ _ _ _) h0 h1 h2
theorem se {h:ak} (hc:(aB h).2=0) (h20:(bB h).length≤20) (k:Int):(bZ (dm (bB h) (ofH h) k)).2=0:=by
 have H:=nQ (iZ hc).1
 have hH:opsOf (bl h)=bB h:=rfl
 rw [hH] at H
 have hle:=lH h k
 unfold bZ
 rw [if_neg (by omega)]
 have u9:∀ i:Nat,i < (dm (bB h) (ofH h) k).length→cQ (gi (dm (bB h) (ofH h) k) (i:Int))=0:=fun i hi=>by
  obtain ⟨e,a,b⟩:=tv hi
  obtain ⟨n,hn⟩:=Int.eq_ofNat_of_zero_le a
  rw [e,hn]
  exact (H.one n (by omega)).1
 refine q9 (by omega) u9 (fun i j xr hj=>?_) _ _ _ 0 (by omega) (fun t=>⟨by simp [fm,aF],by simp [fm,aF],by simp [fm,aF]⟩) (fun p=>by simp [aF])
 obtain ⟨e,a,b⟩:=tv (h:=h) (k:=k) (i:=i) (by omega)
 obtain ⟨e',a',b'⟩:=tv (h:=h) (k:=k) (i:=j) hj
 have Mi:(dm (bB h) (ofH h) k).length=(bo (ofH h) k).length:=by rw [nj (gu h),List.length_map]
 have gM:=BI (h:=h) (k:=k) (i:=(i:Int)) (j:=(j:Int)) (by omega) (by omega) (by omega)
 have ai:=eU (u9 i (by omega))
 rw [e] at ai
 rw [e,e']
 obtain ⟨n,hn⟩:=Int.eq_ofNat_of_zero_le a
 obtain ⟨m,hm⟩:=Int.eq_ofNat_of_zero_le a'
 rw [hn] at ai
 rw [hn,hm]
 obtain ⟨t1,t2,t3,t4,t5⟩:=H.two n m (by omega) (by omega)
 refine ⟨t1,?_,fun hp=>?_⟩
 ·rw [← Bool.not_eq_true,lr]
  rintro (hh | hh | hh | hh)
  ·omega
  ·exact t3 hh
  ·exact t4 hh
  ·exact t2 hh.2 hh.1
 ·obtain ⟨x,y⟩:=t5 hp
  unfold aZ
  rw [Bool.and_eq_true,decide_eq_true_eq,decide_eq_true_eq]
  exact ⟨by omega,y⟩
theorem qq {h:ak} (hc:(aB h).2=0) (h20:(bB h).length≤20) (k:Int):(bZ (opsOf (dt h.al k))).2=0:=by
 refine zR (nQ (tt hc k)) ?_
 have h1:=(sb hc k).1
 have h2:=lH h k
 omega
theorem BF {h:ak} (hc:(aB h).2=0) {o:ae} (ho:o∈h.ah):(bp o).2=0:=by
 have hb:=(iZ hc).2.1
 unfold pA at hb
 have:¬ h.ah.any cM=true:=fun hh=>hb (.inr (.inr hh))
 rw [Bool.not_eq_true,List.any_eq_false] at this
 have:=this o ho
 unfold cM at this
 simpa using this
theorem DR {h:ak} (hc:(aB h).2=0) (h20:(bB h).length≤20) {j:Nat} (hj:j < h.ah.length):cy (gi h.ah (j:Int)) (dm (bB h) (ofH h) (j:Int)) 20=0:=by
 unfold cy
 rw [if_neg,if_neg]
 ·have:=lH h (j:Int); omega
 ·rintro (hh | hh)
  ·exact hh (BF hc (e7 (by omega) (by omega)))
  ·exact hh (se hc h20 _)
theorem BJ {h:ak} (hc:(aB h).2=0) (h20:(bB h).length≤20) {j:Nat} (hj:j < h.ah.length) (hn:¬ ic (bB h) (ofH h) h.ah j):(bk (gi h.ah (j:Int)) (dm (bB h) (ofH h) (j:Int))).2=41∧∀ p,c9 (gi h.ah (j:Int)) (dm (bB h) (ofH h) (j:Int)) p=false:=by
 rcases nL (gi h.ah (j:Int)) (dm (bB h) (ofH h) (j:Int)) with ⟨h1,_⟩ | ⟨h1,h2,h3⟩ | ⟨x,L,h1,h2,h3⟩
 ·exact absurd (DR hc h20 hj) h1
 ·refine ⟨by rw [h3],fun p=>?_⟩
  rw [← Bool.not_eq_true]
  intro hw
  obtain ⟨c1,c2,_⟩:=lQ h1
  have:=(qL c1 c2 p).2 hw
  rw [h2] at this; cases this
 ·exact absurd (show ic (bB h) (ofH h) h.ah j by unfold ic; rw [h3]) hn
theorem Ir {h:ak} (hc:(aB h).2=0) (h20:(bB h).length≤20) {j:Nat} (hj:j < h.ah.length) {p:List aa} (hw:c9 (gi h.ah (j:Int)) (dm (bB h) (ofH h) (j:Int)) p=true):ic (bB h) (ofH h) h.ah j:=by
 refine Classical.byContradiction (fun hn=>?_)
 rw [(BJ hc h20 hj hn).2 p] at hw; cases hw
end Go.Proofs.YteahldlmkheleaaGreat
