/- Lemmas. -/
import Derived.Test.YteahldlmkheleaaGreatLV25
set_option linter.all false
namespace Go.Proofs.YteahldlmkheleaaGreat
open Go Go.Sv Go.Pu
section joined
variable {h:ak} (hc:(aB h).2=0) (h20:(bB h).length≤20) (hok:∀ j,j < h.ah.length→ic (bB h) (ofH h) h.ah j)
def xS (h:ak):List (List aa):=fy (bB h) (ofH h) h.ah h.ah.length
def Ld (h:ak):List Int:=(ka (bB h) (xS h)).1
def Fc (h:ak):List aa:=(Ld h).map (gi (xS h).flatten)
include hc h20 hok
theorem Ef:cI h=(Fc h,0):=by
 have Ep:cq h=(bB h,ofH h,0):=by
  unfold cq; rw [if_neg (by omega),if_neg (by omega)]
 have PJ:cC h (bB h) (ofH h)=(xS h,0):=by
  rcases mn h (bB h) (ofH h) with ⟨j,j1,_,j3,_⟩ | ⟨_,e⟩
  ·exact absurd (hok j j1) j3
  ·exact e
 unfold cI
 rw [Ep,PJ]
 dsimp only
 have hj:(ka (bB h) (xS h)).2=true:=Ee hc h20 hok
 rw [if_neg (by decide),if_neg (by decide),if_neg (by rw [hj]; decide)]
 rfl
end joined
theorem xl (h:ak):((aB h).2≠0∧cI h=([],(aB h).2))∨((aB h).2=0∧(bB h).length > 20∧cI h=([],3))∨((aB h).2=0∧(bB h).length≤20∧(∃ j,j < h.ah.length∧¬ ic (bB h) (ofH h) h.ah j)∧cI h=([],41))∨((aB h).2=0∧(bB h).length≤20∧(∀ j,j < h.ah.length→ic (bB h) (ofH h) h.ah j)∧cI h=(Fc h,0)):=by
 by_cases hc:(aB h).2=0
 ·by_cases h20:(bB h).length≤20
  ·have Ep:cq h=(bB h,ofH h,0):=by
    unfold cq; rw [if_neg (by omega),if_neg (by omega)]
   rcases mn h (bB h) (ofH h) with ⟨j,j1,j2,j3,j4⟩ | ⟨j1,j2⟩
   ·refine .inr (.inr (.inl ⟨hc,h20,⟨j,j1,j3⟩,?_⟩))
    have:=(BJ hc h20 j1 j3).1
    unfold cI
    rw [Ep,j4,this]
    dsimp only
    rw [if_neg (by decide),if_pos (by decide)]
   ·exact .inr (.inr (.inr ⟨hc,h20,j1,Ef hc h20 j1⟩))
  ·refine .inr (.inl ⟨hc,by omega,?_⟩)
   have Ep:cq h=([],[],3):=by
    unfold cq; rw [if_neg (by omega),if_pos (by omega)]
   unfold cI
   rw [Ep]
   dsimp only
   rw [if_pos (by decide)]
 ·refine .inl ⟨hc,?_⟩
  have Ep:cq h=([],[],(aB h).2):=by
   unfold cq; rw [if_pos hc]
  unfold cI
  rw [Ep]
  dsimp only
  rw [if_pos hc]
end Go.Proofs.YteahldlmkheleaaGreat
