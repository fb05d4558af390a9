/- B4 of a part,by its own places and by those of the whole. -/
import Derived.Test.YteahldlmkheleaaGreatLV22
set_option linter.all false
namespace Go.Proofs.YteahldlmkheleaaGreat
open Go Go.Sv Go.Pu
def l4 (a b:List ab):Prop:=a.length=b.length∧(∀ i:Nat,i < a.length→(gi a (i:Int)).Kind=(gi b (i:Int)).Kind∧(gi a (i:Int)).Result=(gi b (i:Int)).Result∧((gi a (i:Int)).End=-1↔(gi b (i:Int)).End=-1))∧∀ i j:Nat,i < a.length→j < a.length→bb (gi a (i:Int)) (gi a (j:Int))=bb (gi b (i:Int)) (gi b (j:Int))
theorem yN {o:al} {a b:List ab} (h:l4 a b) (prev:List Int) (s:Int) (p:aa):dg o a prev s p=dg o b prev s p:=by
 unfold dg
 rw [h.1]
 by_cases h1:p.Oper < 0∨p.Oper≥b.length
 ·rw [if_pos h1,if_pos h1]
 ·rw [if_neg h1,if_neg h1]
  obtain ⟨n,hn⟩:=Int.eq_ofNat_of_zero_le (show 0≤p.Oper by omega)
  obtain ⟨e1,e2,e3⟩:=h.2.1 n (by have:=h.1; omega)
  unfold gg gM
  rw [hn,e1,e2]
  simp only [ne_eq,e3]
theorem tZ {o:al} {a b:List ab} (h:l4 a b):∀ (p:List aa) (prev:List Int) (s:Int),gN o a prev s p=gN o b prev s p
 | [],_,_=>rfl
 | q :: p,prev,s=>by
  rw [gN,gN,yN h]
  rw [tZ h p]
theorem vY {o:al} {a b:List ab} (h:l4 a b) (p:List aa):b7 o a p=b7 o b p:=by
 unfold b7 cH
 rw [tZ h]
theorem Aw {a b:List ab} (h:l4 a b) {p:List aa} {y:Nat} (hi:0≤(gi p (y:Int)).Oper∧(gi p (y:Int)).Oper < a.length) (hb:dC a p y=false):dC b p y=false:=by
 refine tx (fun k hk ⟨ha,hn⟩=>?_)
 have hl:=h.1
 obtain ⟨n,e⟩:=Int.eq_ofNat_of_zero_le hi.1
 have:=h.2.2 k n (by omega) (by omega)
 rw [e,← this] at ha
 have hb2:=tw hi (by omega:k < a.length) (by rw [e]; exact ha) hn
 rw [hb2] at hb; cases hb
theorem CH {o:al} {a b:List ab} (h:l4 a b) (hb:(cc b).2=0) {p:List aa} (hw:cY o a p=true):cY o b p=true:=by
 obtain ⟨w1,w2,w3,w4,w5⟩:=mU.1 hw
 have jS:=nx w3
 refine mU.2 ⟨w1,hb,by rw [← vY h]; exact w3,fun y hy=>Aw h (jS.2 _ (kG (ep (by omega) (by omega)))) (w4 y hy),fun m hm=>?_⟩
 obtain ⟨m0,m1,m2,m3⟩:=ia.1 hm
 have hl:=h.1
 obtain ⟨n,rfl⟩:=Int.eq_ofNat_of_zero_le m0
 refine w5 _ (ia.2 ⟨m0,by omega,fun hh=>m2 ((h.2.1 n (by omega)).2.2.1 hh),m3⟩)
theorem rH {h:aj} (hc:(aA h).2=0) (k:Int):l4 (dc (bo h) (ofH h) k) (opsOf (dG h.ak k)):=by
 rw [AD hc]
 have H:=l6 (sN hc k)
 generalize hB:opsOf (dG h.ak k)=B at H
 have hg:∀ i:Nat,i < B.length→gi (B.map (uB h k)) (i:Int)=uB h k (gi B (i:Int)):=fun i hi=>iZ _ (by omega) (by omega)
 refine ⟨by rw [List.length_map],fun i hi=>?_,fun i j hi hj=>?_⟩
 ·rw [List.length_map] at hi
  rw [hg i hi]
  refine ⟨rfl,rfl,?_⟩
  show nF h k (gi B (i:Int)).End=-1↔_
  unfold nF
  have:=pV h k (gi B (i:Int)).End
  split
  ·rename_i e; exact ⟨fun _=>e,fun _=>rfl⟩
  ·rename_i e; exact ⟨fun hh=>by omega,fun hh=>absurd hh e⟩
 ·rw [List.length_map] at hi hj
  rw [hg i hi,hg j hj]
  obtain ⟨a1,a2,a3⟩:=H.one i hi
  obtain ⟨b1,b2,b3⟩:=H.one j hj
  have fi:=en a1
  have fj:=en b1
  unfold bb
  show (decide (nF h k (gi B (i:Int)).End≥0) && decide (nF h k (gi B (i:Int)).End < phi h k (gi B (j:Int)).aD))=_
  unfold nF
  by_cases e:(gi B (i:Int)).End=-1
  ·rw [if_pos e,e]; simp
  ·rw [if_neg e]
   have p0:=pV h k (gi B (i:Int)).End
   rw [decide_eq_true (show phi h k (gi B (i:Int)).End≥0 from p0),decide_eq_true (show (gi B (i:Int)).End≥0 by omega),Bool.true_and,Bool.true_and]
   refine decide_eq_decide.2 ⟨fun hh=>?_,fun hh=>Az (by omega) hh (by omega)⟩
   rcases Int.lt_trichotomy (gi B (i:Int)).End (gi B (j:Int)).aD with hl | hl | hl
   ·exact hl
   ·rw [hl] at hh; omega
   ·have:=Az (h:=h) (k:=k) (i:=(gi B (j:Int)).aD) (j:=(gi B (i:Int)).End) (by omega) hl (by omega)
    omega
theorem sP {h:aj} {k:Int} {i:Nat} (hi:i < (dc (bo h) (ofH h) k).length):gi (dc (bo h) (ofH h) k) (i:Int)=gi (bo h) (gi (aS (ofH h) k) (i:Int))∧0≤gi (aS (ofH h) k) (i:Int)∧gi (aS (ofH h) k) (i:Int) < (bo h).length:=by
 have he:=lM (eR h) k
 rw [he,List.length_map] at hi
 rw [he]
 refine ⟨iZ _ (by omega) (by omega),?_⟩
 have:=mR (ep (l:=aS (ofH h) k) (i:=(i:Int)) (by omega) (by omega))
 have hl:=eR h
 omega
theorem k4 (h:aj) (k:Int):(dc (bo h) (ofH h) k).length≤(bo h).length:=by
 rw [lM (eR h),List.length_map,gb]
 have:=nB (ofH h) k (ofH h).length
 have:=eR h
 omega
theorem AN {h:aj} {k:Int} {i j:Int} (h0:0≤i) (h1:i < j) (h2:j < (aS (ofH h) k).length):gi (aS (ofH h) k) i < gi (aS (ofH h) k) j:=by
 rw [gb] at h2 ⊢
 exact rk (lb _ _ _) h0 h1 h2
theorem yZ {h:aj} (hc:(aA h).2=0) (h20:(bo h).length≤20) (k:Int):(cc (dc (bo h) (ofH h) k)).2=0:=by
 have H:=l6 (hY hc).1
 have hH:opsOf (bk h)=bo h:=rfl
 rw [hH] at H
 have hle:=k4 h k
 unfold cc
 rw [if_neg (by omega)]
 have ut:∀ i:Nat,i < (dc (bo h) (ofH h) k).length→da (gi (dc (bo h) (ofH h) k) (i:Int))=0:=fun i hi=>by
  obtain ⟨e,a,b⟩:=sP hi
  obtain ⟨n,hn⟩:=Int.eq_ofNat_of_zero_le a
  rw [e,hn]
  exact (H.one n (by omega)).1
 refine qE (by omega) ut (fun i j vI hj=>?_) _ _ _ 0 (by omega) (fun t=>⟨by simp [e8,aC],by simp [e8,aC],by simp [e8,aC]⟩) (fun p=>by simp [aC])
 obtain ⟨e,a,b⟩:=sP (h:=h) (k:=k) (i:=i) (by omega)
 obtain ⟨e',a',b'⟩:=sP (h:=h) (k:=k) (i:=j) hj
 have Mu:(dc (bo h) (ofH h) k).length=(aS (ofH h) k).length:=by rw [lM (eR h),List.length_map]
 have gK:=AN (h:=h) (k:=k) (i:=(i:Int)) (j:=(j:Int)) (by omega) (by omega) (by omega)
 have ai:=en (ut i (by omega))
 rw [e] at ai
 rw [e,e']
 obtain ⟨n,hn⟩:=Int.eq_ofNat_of_zero_le a
 obtain ⟨m,hm⟩:=Int.eq_ofNat_of_zero_le a'
 rw [hn] at ai
 rw [hn,hm]
 obtain ⟨t1,t2,t3,t4,t5⟩:=H.two n m (by omega) (by omega)
 refine ⟨t1,?_,fun hp=>?_⟩
 ·rw [← Bool.not_eq_true,kH]
  rintro (hh | hh | hh | hh)
  ·omega
  ·exact t3 hh
  ·exact t4 hh
  ·exact t2 hh.2 hh.1
 ·obtain ⟨x,y⟩:=t5 hp
  unfold bb
  rw [Bool.and_eq_true,decide_eq_true_eq,decide_eq_true_eq]
  exact ⟨by omega,y⟩
theorem pX {h:aj} (hc:(aA h).2=0) (h20:(bo h).length≤20) (k:Int):(cc (opsOf (dG h.ak k))).2=0:=by
 refine zd (l6 (sN hc k)) ?_
 have h1:=(rH hc k).1
 have h2:=k4 h k
 omega
theorem EX {h:aj} (hc:(aA h).2=0) {o:al} (ho:o∈h.ae):(bq o).2=0:=by
 have hb:=(hY hc).2.1
 unfold pb at hb
 have:¬ h.ae.any cG=true:=fun hh=>hb (.inr (.inr hh))
 rw [Bool.not_eq_true,List.any_eq_false] at this
 have:=this o ho
 unfold cG at this
 simpa using this
theorem CG {h:aj} (hc:(aA h).2=0) (h20:(bo h).length≤20) {j:Nat} (hj:j < h.ae.length):cq (gi h.ae (j:Int)) (dc (bo h) (ofH h) (j:Int)) 20=0:=by
 unfold cq
 rw [if_neg,if_neg]
 ·have:=k4 h (j:Int); omega
 ·rintro (hh | hh)
  ·exact hh (EX hc (ep (by omega) (by omega)))
  ·exact hh (yZ hc h20 _)
theorem EZ {h:aj} (hc:(aA h).2=0) (h20:(bo h).length≤20) {j:Nat} (hj:j < h.ae.length) (hn:¬ iA (bo h) (ofH h) h.ae j):(bj (gi h.ae (j:Int)) (dc (bo h) (ofH h) (j:Int))).2=41∧∀ p,cY (gi h.ae (j:Int)) (dc (bo h) (ofH h) (j:Int)) p=false:=by
 rcases nt (gi h.ae (j:Int)) (dc (bo h) (ofH h) (j:Int)) with ⟨h1,_⟩ | ⟨h1,h2,h3⟩ | ⟨x,L,h1,h2,h3⟩
 ·exact absurd (CG hc h20 hj) h1
 ·refine ⟨by rw [h3],fun p=>?_⟩
  rw [← Bool.not_eq_true]
  intro hw
  obtain ⟨c1,c2,_⟩:=lh h1
  have:=(qi c1 c2 p).2 hw
  rw [h2] at this; cases this
 ·exact absurd (show iA (bo h) (ofH h) h.ae j by unfold iA; rw [h3]) hn
end Go.Proofs.YteahldlmkheleaaGreat
