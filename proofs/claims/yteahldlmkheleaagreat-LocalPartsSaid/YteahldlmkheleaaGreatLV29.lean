/- zN E5 of yZ of CI objects. -/
import Derived.Test.YteahldlmkheleaaGreatLV27
set_option linter.all false
namespace Go.Proofs.YteahldlmkheleaaGreat
open Go Go.Sv Go.Pu
theorem v5 (h:ak):(eu h).map toL=h.ao:=by
 unfold eu
 rw [List.map_map]
 have:(toL ∘ fun x:ba=>(⟨x.ax,x.aS⟩:aD))=id:=by funext x; rfl
 rw [this,List.map_id]
theorem uq (h:ak):(⟨h.ae,(eu h).map toL⟩:ak)=h:=by rw [v5]
theorem AE (h:ak):(eu h).length=h.ao.length:=by unfold eu; rw [List.length_map]
theorem Dl {h:ak} {A:ah→Prop} (ho:∀ o∈h.ae,inR .i64 o.ar∧inR .i64 o.aw∧A o) (hf:gH h=true):fQ h∧h.ae.length≤10∧h.ao.length≤20:=by
 unfold gH at hf
 rw [Bool.and_eq_true,Bool.and_eq_true,decide_eq_true_eq,decide_eq_true_eq,List.all_eq_true] at hf
 obtain ⟨⟨h1,h2⟩,h3⟩:=hf
 refine ⟨⟨fun o hm=>⟨(ho o hm).1,(ho o hm).2.1⟩,by omega,fun o hm=>?_⟩,h1,h2⟩
 have:=h3 o hm
 unfold gI at this
 rw [decide_eq_true_eq] at this
 omega
theorem Av (h:ak):cl (eu h)=bN h:=by
 rw [← lY h.ae,uq]
theorem AD (h:ak):bb h.ae (eu h)=cA h:=by unfold bb; rw [uq]
theorem BA (h:ak):((bp h).length:Int)=eT h:=by
 unfold bp
 rw [om]
 unfold ku bN eT
 rw [List.countP_map]; rfl
theorem H0 (l:List av):(bP l).2≠41:=by
 unfold bP
 split
 ·decide
 ·have:∀ (f:Nat) (i:Int),(mP l f i).2≠41:=by
   intro f
   induction f with
   | zero=>intro i; rw [mP]; show (0:Int)≠41; decide
   | succ f ih =>
    intro i
    rw [l4]
    split
    ·unfold evE; dsimp only; repeat' split
     all_goals decide
    ·split
     ·show (33:Int)≠41; decide
     ·exact ih _
  exact this _ _
theorem F5 (h:ak):(aB h).2≠41:=by
 unfold aB
 split
 ·decide
 ·split
  ·exact H0 _
  ·have:∀ (l:List ba) (i:Int) (b:List (Int × Int)),(hGo h.ae l i b).2≠41:=by
    intro l
    induction l with
    | nil=>intro i b; rw [hGo]; show (0:Int)≠41; decide
    | cons x l ih =>
     intro i b
     rw [hGo]
     split
     ·unfold iT; dsimp only; repeat' split
      all_goals decide
     ·exact ih _ _
   exact this _ _ _
theorem rJ (h:ak):((aB h).2≠0∧dv h=(false,(aB h).2))∨((aB h).2=0∧(bp h).length > 20∧dv h=(false,3))∨((aB h).2=0∧(bp h).length≤20∧(∃ j,j < h.ae.length∧¬ gZ (bp h) (ofH h) h.ae j)∧dv h=(false,0))∨((aB h).2=0∧(bp h).length≤20∧(∀ j,j < h.ae.length→gZ (bp h) (ofH h) h.ae j)∧dv h=(true,0)):=by
 rcases wk h with ⟨h1,e⟩ | ⟨h1,h2,e⟩ | ⟨h1,h2,h3,e⟩ | ⟨h1,h2,h3,e⟩
 ·refine .inl ⟨h1,?_⟩
  unfold dv
  rw [e]
  dsimp only
  rw [if_neg (F5 h)]
  rw [show ((aB h).2 == 0)=false from beq_eq_false_iff_ne.2 h1]
 ·refine .inr (.inl ⟨h1,h2,?_⟩)
  unfold dv; rw [e]; rfl
 ·refine .inr (.inr (.inl ⟨h1,h2,h3,?_⟩))
  unfold dv; rw [e]; rfl
 ·refine .inr (.inr (.inr ⟨h1,h2,h3,?_⟩))
  unfold dv; rw [e]; rfl
theorem Fc {h:ak} (hp:fQ h) (h20:h.ao.length≤20) (h10:h.ae.length≤10) (h5:(bp h).length≤5):pV h.ae (eu h):=by
 have:=AE h
 exact ⟨hp.1,by omega,by rw [Av]; exact h5,by omega⟩
theorem tL {h:ak} (hc:(aB h).2=0) (h5:(bp h).length≤5):fq h.ae (eu h)=true↔∀ j,j < h.ae.length→gZ (bp h) (ofH h) h.ae j:=by
 unfold fq
 rw [AD,p5 hc]
 dsimp only
 constructor
 ·intro hs
  obtain ⟨x,_,hx⟩:=List.any_eq_true.1 hs
  rw [Bool.and_eq_true] at hx
  exact yU hc (by omega) ((pO hc (v5 h) _).1 hx.2)
 ·intro hok
  have hj:=yV hc (by omega) hok
  have hf:=Dk hc hj
  refine List.any_eq_true.2 ⟨opers (kK h),vY (by omega) (uk hc hj) (fun i hi=>?_),?_⟩
  ·obtain ⟨q,hq,rfl⟩:=ny.1 hi
   have:=hj.1 q hq
   exact ⟨this.1,by omega⟩
  ·rw [hf,Bool.and_eq_true]
   exact ⟨rfl,(pO hc (v5 h) _).2 hj⟩
theorem v4 {A:ah→Prop} {B:Prop} (h:ak) (ho:(∀ o∈h.ae,inR .i64 o.ar∧inR .i64 o.aw∧A o)∧B):VC4 h (fun r=>r=true):=by
 have j1t:VC4_J1 h (fun r=>r=true) true:=⟨fun _=>by rintro _ rfl; rfl,fun hh=>by cases hh⟩
 unfold VC4
 intro _ _
 rintro _ rfl
 refine ⟨fun _=>j1t,fun hf=>?_⟩
 obtain ⟨hp,h10,h20⟩:=Dl ho.1 (by simpa using hf)
 rintro _ rfl
 cases eb:decide (eT h > 5) with
 | true=>exact j1t
 | false =>
  have hb:eT h≤5:=by simp at eb; omega
  have h5:(bp h).length≤5:=by have:=BA h; omega
  have hE:(⟨h.ae,h.ao⟩:ak)=h:=rfl
  unfold VC4_J1
  rw [hE]
  refine ⟨fun hh=>(by cases hh),fun _=>⟨hp,?_⟩⟩
  rintro _ rfl
  refine ⟨fun he=>⟨fun _=>by rintro _ rfl; rfl,fun hh=>?_⟩,fun he=>⟨hp.2.1,?_⟩⟩
  ·rcases rJ h with ⟨h1,e⟩ | ⟨h1,h2,e⟩ | ⟨h1,h2,_,e⟩ | ⟨h1,h2,h3,e⟩
   ·rw [e] at hh; cases hh
   ·rw [e] at hh; cases hh
   ·rw [e] at hh; cases hh
   ·rw [e] at he; cases he
  ·rintro _ rfl _
   refine ⟨Fc hp h20 h10 h5,?_⟩
   rintro _ rfl
   have PM:(dv h).1=fq h.ae (eu h):=by
    rcases rJ h with ⟨h1,e⟩ | ⟨h1,h2,e⟩ | ⟨h1,h2,⟨j,h3,h4⟩,e⟩ | ⟨h1,h2,h3,e⟩
    ·rw [e] at he; simp at he; exact absurd he h1
    ·omega
    ·rw [e]
     cases es:fq h.ae (eu h) with
     | false=>rfl
     | true=>exact absurd ((tL h1 h5).1 es j h3) h4
    ·rw [e,(tL h1 h5).2 h3]
   rw [PM]
   exact ⟨fun _=>by rintro _ rfl; rfl,fun hh=>by simp at hh⟩
end Go.Proofs.YteahldlmkheleaaGreat
