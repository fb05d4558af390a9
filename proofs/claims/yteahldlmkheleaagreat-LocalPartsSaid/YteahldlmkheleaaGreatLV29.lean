/- The statements of histories of several objects. -/
import Derived.Test.YteahldlmkheleaaGreatLV27
set_option linter.all false
namespace Go.Proofs.YteahldlmkheleaaGreat
open Go Go.Sv Go.Pu
theorem xr (h:al):(eO h).map toL=h.aq:=by
 unfold eO
 rw [List.map_map]
 have:(toL ∘ fun x:bd=>(⟨x.aA,x.aW⟩:aG))=id:=by funext x; rfl
 rw [this,List.map_id]
theorem vw (h:al):(⟨h.ae,(eO h).map toL⟩:al)=h:=by rw [xr]
theorem BS (h:al):(eO h).length=h.aq.length:=by unfold eO; rw [List.length_map]
theorem EB {h:al} {A:aj→Prop} (ho:∀ o∈h.ae,inR .i64 o.au∧inR .i64 o.az∧A o) (hf:hK h=true):gl h∧h.ae.length≤10∧h.aq.length≤20:=by
 unfold hK at hf
 rw [Bool.and_eq_true,Bool.and_eq_true,decide_eq_true_eq,decide_eq_true_eq,List.all_eq_true] at hf
 obtain ⟨⟨h1,h2⟩,h3⟩:=hf
 refine ⟨⟨fun o hm=>⟨(ho o hm).1,(ho o hm).2.1⟩,by omega,fun o hm=>?_⟩,h1,h2⟩
 have:=h3 o hm
 unfold hU at this
 rw [decide_eq_true_eq] at this
 omega
theorem BI (h:al):cv (eO h)=bT h:=by
 rw [← mK h.ae,vw]
theorem BR (h:al):bf h.ae (eO h)=cN h:=by unfold bf; rw [vw]
theorem CO (h:al):((bz h).length:Int)=fj h:=by
 unfold bz
 rw [pc]
 unfold lf bT fj
 rw [List.countP_map]; rfl
theorem Ju (l:List aw):(bV l).2≠41:=by
 unfold bV
 split
 ·decide
 ·have:∀ (f:Nat) (i:Int),(nK l f i).2≠41:=by
   intro f
   induction f with
   | zero=>intro i; rw [nK]; show (0:Int)≠41; decide
   | succ f ih =>
    intro i
    rw [mO]
    split
    ·unfold evE; dsimp only; repeat' split
     all_goals decide
    ·split
     ·show (33:Int)≠41; decide
     ·exact ih _
  exact this _ _
theorem Hn (h:al):(aE h).2≠41:=by
 unfold aE
 split
 ·decide
 ·split
  ·exact Ju _
  ·have:∀ (l:List bd) (i:Int) (b:List (Int × Int)),(hGo h.ae l i b).2≠41:=by
    intro l
    induction l with
    | nil=>intro i b; rw [hGo]; show (0:Int)≠41; decide
    | cons x l ih =>
     intro i b
     rw [hGo]
     split
     ·unfold jv; dsimp only; repeat' split
      all_goals decide
     ·exact ih _ _
   exact this _ _ _
theorem sO (h:al):((aE h).2≠0∧dF h=(false,(aE h).2))∨((aE h).2=0∧(bz h).length > 20∧dF h=(false,3))∨((aE h).2=0∧(bz h).length≤20∧(∃ j,j < h.ae.length∧¬ iw (bz h) (ofH h) h.ae j)∧dF h=(false,0))∨((aE h).2=0∧(bz h).length≤20∧(∀ j,j < h.ae.length→iw (bz h) (ofH h) h.ae j)∧dF h=(true,0)):=by
 rcases xF h with ⟨h1,e⟩ | ⟨h1,h2,e⟩ | ⟨h1,h2,h3,e⟩ | ⟨h1,h2,h3,e⟩
 ·refine .inl ⟨h1,?_⟩
  unfold dF
  rw [e]
  dsimp only
  rw [if_neg (Hn h)]
  rw [show ((aE h).2 == 0)=false from beq_eq_false_iff_ne.2 h1]
 ·refine .inr (.inl ⟨h1,h2,?_⟩)
  unfold dF; rw [e]; rfl
 ·refine .inr (.inr (.inl ⟨h1,h2,h3,?_⟩))
  unfold dF; rw [e]; rfl
 ·refine .inr (.inr (.inr ⟨h1,h2,h3,?_⟩))
  unfold dF; rw [e]; rfl
theorem Gu {h:al} (hp:gl h) (h20:h.aq.length≤20) (h10:h.ae.length≤10) (h5:(bz h).length≤5):qL h.ae (eO h):=by
 have:=BS h
 exact ⟨hp.1,by omega,by rw [BI]; exact h5,by omega⟩
theorem uS {h:al} (hc:(aE h).2=0) (h5:(bz h).length≤5):fM h.ae (eO h)=true↔∀ j,j < h.ae.length→iw (bz h) (ofH h) h.ae j:=by
 unfold fM
 rw [BR,qT hc]
 dsimp only
 constructor
 ·intro hs
  obtain ⟨x,_,hx⟩:=List.any_eq_true.1 hs
  rw [Bool.and_eq_true] at hx
  exact Ak hc (by omega) ((qF hc (xr h) _).1 hx.2)
 ·intro hok
  have hj:=Al hc (by omega) hok
  have hf:=EA hc hj
  refine List.any_eq_true.2 ⟨opers (ly h),xo (by omega) (vq hc hj) (fun i hi=>?_),?_⟩
  ·obtain ⟨q,hq,rfl⟩:=oq.1 hi
   have:=hj.1 q hq
   exact ⟨this.1,by omega⟩
  ·rw [hf,Bool.and_eq_true]
   exact ⟨rfl,(qF hc (xr h) _).2 hj⟩
theorem v4 {A:aj→Prop} {B:Prop} (h:al) (ho:(∀ o∈h.ae,inR .i64 o.au∧inR .i64 o.az∧A o)∧B):VC4 h (fun r=>r=true):=by
 have j1t:VC4_J1 h (fun r=>r=true) true:=⟨fun _=>by rintro _ rfl; rfl,fun hh=>by cases hh⟩
 unfold VC4
 intro _ _
 rintro _ rfl
 refine ⟨fun _=>j1t,fun hf=>?_⟩
 obtain ⟨hp,h10,h20⟩:=EB ho.1 (by simpa using hf)
 rintro _ rfl
 cases eb:decide (fj h > 5) with
 | true=>exact j1t
 | false =>
  have hb:fj h≤5:=by simp at eb; omega
  have h5:(bz h).length≤5:=by have:=CO h; omega
  have hE:(⟨h.ae,h.aq⟩:al)=h:=rfl
  unfold VC4_J1
  rw [hE]
  refine ⟨fun hh=>(by cases hh),fun _=>⟨hp,?_⟩⟩
  rintro _ rfl
  refine ⟨fun he=>⟨fun _=>by rintro _ rfl; rfl,fun hh=>?_⟩,fun he=>⟨hp.2.1,?_⟩⟩
  ·rcases sO h with ⟨h1,e⟩ | ⟨h1,h2,e⟩ | ⟨h1,h2,_,e⟩ | ⟨h1,h2,h3,e⟩
   ·rw [e] at hh; cases hh
   ·rw [e] at hh; cases hh
   ·rw [e] at hh; cases hh
   ·rw [e] at he; cases he
  ·rintro _ rfl _
   refine ⟨Gu hp h20 h10 h5,?_⟩
   rintro _ rfl
   have Re:(dF h).1=fM h.ae (eO h):=by
    rcases sO h with ⟨h1,e⟩ | ⟨h1,h2,e⟩ | ⟨h1,h2,⟨j,h3,h4⟩,e⟩ | ⟨h1,h2,h3,e⟩
    ·rw [e] at he; simp at he; exact absurd he h1
    ·omega
    ·rw [e]
     cases es:fM h.ae (eO h) with
     | false=>rfl
     | true=>exact absurd ((uS h1 h5).1 es j h3) h4
    ·rw [e,(uS h1 h5).2 h3]
   rw [Re]
   exact ⟨fun _=>by rintro _ rfl; rfl,fun hh=>by simp at hh⟩
end Go.Proofs.YteahldlmkheleaaGreat
