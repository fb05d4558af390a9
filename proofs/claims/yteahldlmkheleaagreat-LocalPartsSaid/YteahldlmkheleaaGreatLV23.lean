/- Linearizations of a part, by its own places and by those of the whole. -/
import Derived.Test.YteahldlmkheleaaGreatLV22
set_option linter.all false
namespace Go.Proofs.YteahldlmkheleaaGreat
open Go Go.Sv Go.Pu
theorem tN {h:al} {k:Int} {i:Nat} (hi:i < (dA (bz h) (ofH h) k).length):gi (dA (bz h) (ofH h) k) (i:Int)=gi (bz h) (gi (aS (ofH h) k) (i:Int))∧0≤gi (aS (ofH h) k) (i:Int)∧gi (aS (ofH h) k) (i:Int) < (bz h).length:=by
 have he:=my (eR h) k
 rw [he,List.length_map] at hi
 rw [he]
 refine ⟨ld _ (by omega) (by omega),?_⟩
 have:=lL (dB (l:=aS (ofH h) k) (i:=(i:Int)) (by omega) (by omega))
 have hl:=eR h
 omega
theorem qQ (h:al) (k:Int):(dA (bz h) (ofH h) k).length≤(bz h).length:=by
 rw [my (eR h),List.length_map,gx]
 have:=oc (ofH h) k (ofH h).length
 have:=eR h
 omega
theorem BV {h:al} {k:Int} {i j:Int} (h0:0≤i) (h1:i < j) (h2:j < (aS (ofH h) k).length):gi (aS (ofH h) k) i < gi (aS (ofH h) k) j:=by
 rw [gx] at h2 ⊢
 exact zR (ob _ _ _) h0 h1 h2
theorem sD {h:al} (hc:(aE h).2=0) (h20:(bz h).length≤20) (k:Int):(c7 (dA (bz h) (ofH h) k)).2=0:=by
 have H:=qd (jJ hc).1
 have hH:opsOf (bT h)=bz h:=rfl
 rw [hH] at H
 have hle:=qQ h k
 unfold c7
 rw [if_neg (by omega)]
 have vv:∀ i:Nat,i < (dA (bz h) (ofH h) k).length→dq (gi (dA (bz h) (ofH h) k) (i:Int))=0:=fun i hi=>by
  obtain ⟨e,a,b⟩:=tN hi
  obtain ⟨n,hn⟩:=Int.eq_ofNat_of_zero_le a
  rw [e,hn]
  exact (H.one n (by omega)).1
 refine v3 (by omega) vv (fun i j xK hj=>?_) _ _ _ 0 (by omega) (fun t=>⟨by simp [ga,aF],by simp [ga,aF],by simp [ga,aF]⟩) (fun p=>by simp [aF])
 obtain ⟨e,a,b⟩:=tN (h:=h) (k:=k) (i:=i) (by omega)
 obtain ⟨e',a',b'⟩:=tN (h:=h) (k:=k) (i:=j) hj
 have Mz:(dA (bz h) (ofH h) k).length=(aS (ofH h) k).length:=by rw [my (eR h),List.length_map]
 have ik:=BV (h:=h) (k:=k) (i:=(i:Int)) (j:=(j:Int)) (by omega) (by omega) (by omega)
 have ai:=fK (vv i (by omega))
 rw [e] at ai
 rw [e,e']
 obtain ⟨n,hn⟩:=Int.eq_ofNat_of_zero_le a
 obtain ⟨m,hm⟩:=Int.eq_ofNat_of_zero_le a'
 rw [hn] at ai
 rw [hn,hm]
 obtain ⟨t1,t2,t3,t4,t5⟩:=H.two n m (by omega) (by omega)
 refine ⟨t1,?_,fun hp=>?_⟩
 ·rw [← Bool.not_eq_true,mM]
  rintro (hh | hh | hh | hh)
  ·omega
  ·exact t3 hh
  ·exact t4 hh
  ·exact t2 hh.2 hh.1
 ·obtain ⟨x,y⟩:=t5 hp
  unfold bl
  rw [Bool.and_eq_true,decide_eq_true_eq,decide_eq_true_eq]
  exact ⟨by omega,y⟩
theorem BT {h:al} (hc:(aE h).2=0) {o:aj} (ho:o∈h.ae):(bB o).2=0:=by
 have hb:=(jJ hc).2.1
 unfold p1 at hb
 have:¬ h.ae.any cZ=true:=fun hh=>hb (.inr (.inr hh))
 rw [Bool.not_eq_true,List.any_eq_false] at this
 have:=this o ho
 unfold cZ at this
 simpa using this
theorem D2 {h:al} (hc:(aE h).2=0) (h20:(bz h).length≤20) {j:Nat} (hj:j < h.ae.length):cD (gi h.ae (j:Int)) (dA (bz h) (ofH h) (j:Int)) 20=0:=by
 unfold cD
 rw [if_neg,if_neg]
 ·have:=qQ h (j:Int); omega
 ·rintro (hh | hh)
  ·exact hh (BT hc (dB (by omega) (by omega)))
  ·exact hh (sD hc h20 _)
theorem BX {h:al} (hc:(aE h).2=0) (h20:(bz h).length≤20) {j:Nat} (hj:j < h.ae.length) (hn:¬ iw (bz h) (ofH h) h.ae j):(bn (gi h.ae (j:Int)) (dA (bz h) (ofH h) (j:Int))).2=41∧∀ p,dt (gi h.ae (j:Int)) (dA (bz h) (ofH h) (j:Int)) p=false:=by
 rcases n6 (gi h.ae (j:Int)) (dA (bz h) (ofH h) (j:Int)) with ⟨h1,_⟩ | ⟨h1,h2,h3⟩ | ⟨x,L,h1,h2,h3⟩
 ·exact absurd (D2 hc h20 hj) h1
 ·refine ⟨by rw [h3],fun p=>?_⟩
  rw [← Bool.not_eq_true]
  intro hw
  obtain ⟨c1,c2,_⟩:=lU h1
  have:=(re c1 c2 p).2 hw
  rw [h2] at this; cases this
 ·exact absurd (show iw (bz h) (ofH h) h.ae j by unfold iw; rw [h3]) hn
theorem IE {h:al} (hc:(aE h).2=0) (h20:(bz h).length≤20) {j:Nat} (hj:j < h.ae.length) {p:List aa} (hw:dt (gi h.ae (j:Int)) (dA (bz h) (ofH h) (j:Int)) p=true):iw (bz h) (ofH h) h.ae j:=by
 refine Classical.byContradiction (fun hn=>?_)
 rw [(BX hc h20 hj hn).2 p] at hw; cases hw
end Go.Proofs.YteahldlmkheleaaGreat
