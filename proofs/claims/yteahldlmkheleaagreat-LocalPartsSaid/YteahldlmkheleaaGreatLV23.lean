/- Cc of a part,by its own places and by those of the whole. -/
import Derived.Test.YteahldlmkheleaaGreatLV22
set_option linter.all false
namespace Go.Proofs.YteahldlmkheleaaGreat
open Go Go.Sv Go.Pu
theorem sE {h:ak} {k:Int} {i:Nat} (hi:i < (dp (bp h) (ofH h) k).length):gi (dp (bp h) (ofH h) k) (i:Int)=gi (bp h) (gi (aP (ofH h) k) (i:Int))∧0≤gi (aP (ofH h) k) (i:Int)∧gi (aP (ofH h) k) (i:Int) < (bp h).length:=by
 have he:=lL (eA h) k
 rw [he,List.length_map] at hi
 rw [he]
 refine ⟨kp _ (by omega) (by omega),?_⟩
 have:=kX (dq (l:=aP (ofH h) k) (i:=(i:Int)) (by omega) (by omega))
 have hl:=eA h
 omega
theorem p1 (h:ak) (k:Int):(dp (bp h) (ofH h) k).length≤(bp h).length:=by
 rw [lL (eA h),List.length_map,fZ]
 have:=nq (ofH h) k (ofH h).length
 have:=eA h
 omega
theorem AH {h:ak} {k:Int} {i j:Int} (h0:0≤i) (h1:i < j) (h2:j < (aP (ofH h) k).length):gi (aP (ofH h) k) i < gi (aP (ofH h) k) j:=by
 rw [fZ] at h2 ⊢
 exact yr (np _ _ _) h0 h1 h2
theorem rA {h:ak} (hc:(aB h).2=0) (h20:(bp h).length≤20) (k:Int):(cQ (dp (bp h) (ofH h) k)).2=0:=by
 have H:=ph (je hc).1
 have hH:opsOf (bN h)=bp h:=rfl
 rw [hH] at H
 have hle:=p1 h k
 unfold cQ
 rw [if_neg (by omega)]
 have uo:∀ i:Nat,i < (dp (bp h) (ofH h) k).length→df (gi (dp (bp h) (ofH h) k) (i:Int))=0:=fun i hi=>by
  obtain ⟨e,a,b⟩:=sE hi
  obtain ⟨n,hn⟩:=Int.eq_ofNat_of_zero_le a
  rw [e,hn]
  exact (H.one n (by omega)).1
 refine uT (by omega) uo (fun i j wq hj=>?_) _ _ _ 0 (by omega) (fun t=>⟨by simp [fI,aC],by simp [fI,aC],by simp [fI,aC]⟩) (fun p=>by simp [aC])
 obtain ⟨e,a,b⟩:=sE (h:=h) (k:=k) (i:=i) (by omega)
 obtain ⟨e',a',b'⟩:=sE (h:=h) (k:=k) (i:=j) hj
 have La:(dp (bp h) (ofH h) k).length=(aP (ofH h) k).length:=by rw [lL (eA h),List.length_map]
 have gS:=AH (h:=h) (k:=k) (i:=(i:Int)) (j:=(j:Int)) (by omega) (by omega) (by omega)
 have ai:=fo (uo i (by omega))
 rw [e] at ai
 rw [e,e']
 obtain ⟨n,hn⟩:=Int.eq_ofNat_of_zero_le a
 obtain ⟨m,hm⟩:=Int.eq_ofNat_of_zero_le a'
 rw [hn] at ai
 rw [hn,hm]
 obtain ⟨t1,t2,t3,t4,t5⟩:=H.two n m (by omega) (by omega)
 refine ⟨t1,?_,fun hp=>?_⟩
 ·rw [← Bool.not_eq_true,l0]
  rintro (hh | hh | hh | hh)
  ·omega
  ·exact t3 hh
  ·exact t4 hh
  ·exact t2 hh.2 hh.1
 ·obtain ⟨x,y⟩:=t5 hp
  unfold bh
  rw [Bool.and_eq_true,decide_eq_true_eq,decide_eq_true_eq]
  exact ⟨by omega,y⟩
theorem AF {h:ak} (hc:(aB h).2=0) {o:ah} (ho:o∈h.ae):(br o).2=0:=by
 have hb:=(je hc).2.1
 unfold o5 at hb
 have:¬ h.ae.any cM=true:=fun hh=>hb (.inr (.inr hh))
 rw [Bool.not_eq_true,List.any_eq_false] at this
 have:=this o ho
 unfold cM at this
 simpa using this
theorem CK {h:ak} (hc:(aB h).2=0) (h20:(bp h).length≤20) {j:Nat} (hj:j < h.ae.length):cu (gi h.ae (j:Int)) (dp (bp h) (ofH h) (j:Int)) 20=0:=by
 unfold cu
 rw [if_neg,if_neg]
 ·have:=p1 h (j:Int); omega
 ·rintro (hh | hh)
  ·exact hh (AF hc (dq (by omega) (by omega)))
  ·exact hh (rA hc h20 _)
theorem AJ {h:ak} (hc:(aB h).2=0) (h20:(bp h).length≤20) {j:Nat} (hj:j < h.ae.length) (hn:¬ gZ (bp h) (ofH h) h.ae j):(bj (gi h.ae (j:Int)) (dp (bp h) (ofH h) (j:Int))).2=41∧∀ p,dh (gi h.ae (j:Int)) (dp (bp h) (ofH h) (j:Int)) p=false:=by
 rcases nh (gi h.ae (j:Int)) (dp (bp h) (ofH h) (j:Int)) with ⟨h1,_⟩ | ⟨h1,h2,h3⟩ | ⟨x,L,h1,h2,h3⟩
 ·exact absurd (CK hc h20 hj) h1
 ·refine ⟨by rw [h3],fun p=>?_⟩
  rw [← Bool.not_eq_true]
  intro hw
  obtain ⟨c1,c2,_⟩:=lg h1
  have:=(qj c1 c2 p).2 hw
  rw [h2] at this; cases this
 ·exact absurd (show gZ (bp h) (ofH h) h.ae j by unfold gZ; rw [h3]) hn
theorem Hi {h:ak} (hc:(aB h).2=0) (h20:(bp h).length≤20) {j:Nat} (hj:j < h.ae.length) {p:List aa} (hw:dh (gi h.ae (j:Int)) (dp (bp h) (ofH h) (j:Int)) p=true):gZ (bp h) (ofH h) h.ae j:=by
 refine Classical.byContradiction (fun hn=>?_)
 rw [(AJ hc h20 hj hn).2 p] at hw; cases hw
end Go.Proofs.YteahldlmkheleaaGreat
