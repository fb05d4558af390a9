/- Lemmas. -/
import Derived.Test.YteahldlmkheleaaGreatLV27
set_option linter.all false
namespace Go.Proofs.YteahldlmkheleaaGreat
open Go Go.Sv Go.Pu
theorem w7 (h:ak):(dg h).map toL=h.al:=by
 unfold dg
 rw [List.map_map]
 have:(toL ∘ fun x:aR=>(⟨x.ax,x.aI⟩:az))=id:=by funext x; rfl
 rw [this,List.map_id]
theorem n3 (h:ak):(⟨h.ah,(dg h).map toL⟩:ak)=h:=by rw [w7]
theorem uW (h:ak):(dg h).length=h.al.length:=by unfold dg; rw [List.length_map]
theorem Es {h:ak} {A:ae→Prop} (ho:∀ o∈h.ah,inR .i64 o.ar∧inR .i64 o.aw∧A o) (hf:gQ h=true):gg h∧h.ah.length≤10∧h.al.length≤20:=by
 unfold gQ at hf
 rw [Bool.and_eq_true,Bool.and_eq_true,decide_eq_true_eq,decide_eq_true_eq,List.all_eq_true] at hf
 obtain ⟨⟨h1,h2⟩,h3⟩:=hf
 refine ⟨⟨fun o hm=>⟨(ho o hm).1,(ho o hm).2.1⟩,by omega,fun o hm=>?_⟩,h1,h2⟩
 have:=h3 o hm
 unfold gR at this
 rw [decide_eq_true_eq] at this
 omega
theorem Br (h:ak):bQ (dg h)=bl h:=by
 rw [← oH h.ah,n3]
theorem vI (h:ak):cc h.ah (dg h)=aB h:=by unfold cc; rw [n3]
theorem BD (h:ak):cU h.ah (dg h)=cV h:=by unfold cU; rw [n3]
theorem CK (h:ak):((bB h).length:Int)=ff h:=by
 unfold bB
 rw [lA]
 unfold fN bl ff
 rw [List.countP_map]; rfl
theorem Jl (l:List au):(bA l).2≠41:=by
 unfold bA
 split
 ·decide
 ·have:∀ (f:Nat) (i:Int),(mH l f i).2≠41:=by
   intro f
   induction f with
   | zero=>intro i; rw [mH]; show (0:Int)≠41; decide
   | succ f ih =>
    intro i
    rw [ly]
    split
    ·unfold evE; dsimp only; repeat' split
     all_goals decide
    ·split
     ·show (33:Int)≠41; decide
     ·exact ih _
  exact this _ _
theorem Ha (h:ak):(aB h).2≠41:=by
 unfold aB
 split
 ·decide
 ·split
  ·exact Jl _
  ·have:∀ (l:List aR) (i:Int) (b:List (Int × Int)),(hGo h.ah l i b).2≠41:=by
    intro l
    induction l with
    | nil=>intro i b; rw [hGo]; show (0:Int)≠41; decide
    | cons x l ih =>
     intro i b
     rw [hGo]
     split
     ·unfold iI; dsimp only; repeat' split
      all_goals decide
     ·exact ih _ _
   exact this _ _ _
theorem z5 (h:ak):((aB h).2≠0∧dx h=(false,(aB h).2))∨((aB h).2=0∧(bB h).length > 20∧dx h=(false,3))∨((aB h).2=0∧(bB h).length≤20∧(∃ j,j < h.ah.length∧¬ ic (bB h) (ofH h) h.ah j)∧dx h=(false,0))∨((aB h).2=0∧(bB h).length≤20∧(∀ j,j < h.ah.length→ic (bB h) (ofH h) h.ah j)∧dx h=(true,0)):=by
 rcases xl h with ⟨h1,e⟩ | ⟨h1,h2,e⟩ | ⟨h1,h2,h3,e⟩ | ⟨h1,h2,h3,e⟩
 ·refine .inl ⟨h1,?_⟩
  unfold dx
  rw [e]
  dsimp only
  rw [if_neg (Ha h)]
  rw [show ((aB h).2 == 0)=false from beq_eq_false_iff_ne.2 h1]
 ·refine .inr (.inl ⟨h1,h2,?_⟩)
  unfold dx; rw [e]; rfl
 ·refine .inr (.inr (.inl ⟨h1,h2,h3,?_⟩))
  unfold dx; rw [e]; rfl
 ·refine .inr (.inr (.inr ⟨h1,h2,h3,?_⟩))
  unfold dx; rw [e]; rfl
theorem qh {os:List ae} {l:List az} {r:List ae}:∀ (n t:Nat),t+n=r.length→(iS os l (r.drop t) (t:Int)=true↔∀ k:Nat,t≤k→k < r.length→(eV (gi r (k:Int)) (eu (de os l k).1).1).length≠0)
 | 0,t,ht=>by
  have:t=r.length:=by omega
  subst this
  rw [List.drop_length,iS]
  exact ⟨fun _ k h1 h2=>by omega,fun _=>rfl⟩
 | n+1,t,ht=>by
  rw [rW (by omega)]
  have ih:=qh (os:=os) (l:=l) (r:=r) n (t+1) (by omega)
  push_cast at ih
  by_cases e:(eV (gi r (t:Int)) (eu (de os l t).1).1).length=0
  ·rw [if_pos e]
   exact ⟨(fun hh=>by cases hh),fun hh=>absurd e (hh t (by omega) (by omega))⟩
  ·rw [if_neg e,ih]
   refine ⟨fun hh k h1 h2=>?_,fun hh k h1 h2=>hh k (by omega) h2⟩
   by_cases ek:k=t
   ·subst ek; exact e
   ·exact hh k (by omega) h2
theorem uT {h:ak} (hc:(aB h).2=0) (h5:(bB h).length≤5) {k:Nat} (hk:k < h.ah.length):(eV (gi h.ah (k:Int)) (eu (de h.ah (dg h) (k:Int)).1).1).length≠0↔ic (bB h) (ofH h) h.ah k:=by
 have hp:(de h.ah (dg h) (k:Int)).1=dt h.al (k:Int):=by
  unfold de
  rw [n3,w7,if_neg (by unfold kU; omega)]
 have ho:(eu (dt h.al (k:Int))).1=opsOf (dt h.al (k:Int)):=by
  show (fD _).1=_
  rw [tz (tt hc _)]
 rw [hp,ho]
 have hs:=sb hc (k:Int)
 have hle:=lH h (k:Int)
 have hB:=qq hc (by omega) (k:Int)
 have hA:=se hc (by omega) (k:Int)
 have Mh:=BF hc (e7 (l:=h.ah) (i:=(k:Int)) (by omega) (by omega))
 have N9:(opsOf (dt h.al (k:Int))).length≤5:=by have:=hs.1; omega
 constructor
 ·intro hn
  obtain ⟨x,hx⟩:=List.exists_mem_of_length_pos (Nat.pos_of_ne_zero hn)
  have hw:=(zc Mh hB N9).1 hx
  exact Ir hc (by omega) hk (xR (zD hs) hA hw)
 ·intro hok
  have hw:=xR hs hB (uz hok)
  have:=(zc Mh hB N9).2 hw
  have:=List.length_pos_of_mem this
  omega
theorem DW {h:ak} (h5:(bB h).length≤5):gO h.ah (dg h)=dx h:=by
 unfold gO
 rw [vI,BD]
 rcases z5 h with ⟨h1,e⟩ | ⟨h1,h2,e⟩ | ⟨h1,h2,⟨j,h3,h4⟩,e⟩ | ⟨h1,h2,h3,e⟩
 ·rw [if_pos h1,e]
 ·omega
 ·rw [if_neg (by omega),nR h1,if_neg (by dsimp only; omega),e]
  have:=qh (os:=h.ah) (l:=dg h) (r:=h.ah) h.ah.length 0 (by omega)
  rw [List.drop_zero] at this
  have this:iS h.ah (dg h) h.ah 0=true↔_:=this
  cases er:iS h.ah (dg h) h.ah 0 with
  | false=>rfl
  | true=>exact absurd ((uT h1 h5 h3).1 (this.1 er j (by omega) h3)) h4
 ·rw [if_neg (by omega),nR h1,if_neg (by dsimp only; omega),e]
  have:=qh (os:=h.ah) (l:=dg h) (r:=h.ah) h.ah.length 0 (by omega)
  rw [List.drop_zero] at this
  have this:iS h.ah (dg h) h.ah 0=true↔_:=this
  rw [this.2 (fun k _ hk=>(uT h1 h5 hk).2 (h3 k hk))]
theorem B4 (h:ak) (p:List aa):dT h p=fc h.ah (dg h) p:=by
 by_cases hc:(aB h).2=0
 ·rw [Bool.eq_iff_iff,z9 hc,wI hc (w7 h)]
 ·unfold dT fc
  rw [vI,if_pos hc,if_pos hc]
theorem Gj {h:ak} (hp:gg h) (h20:h.al.length≤20) (h10:h.ah.length≤10) (h5:(bB h).length≤5):qm h.ah (dg h):=by
 have:=uW h
 exact ⟨hp.1,by omega,by rw [Br]; exact h5,by omega⟩
theorem v3 {A:ae→Prop} {B C:Prop} (h:ak) (ac:List aa) (ho:(∀ o∈h.ah,inR .i64 o.ar∧inR .i64 o.aw∧A o)∧B) (_:C):VC3 h ac (fun r=>r=true):=by
 have j1t:VC3_J1 h ac (fun r=>r=true) true:=⟨fun _=>by rintro _ rfl; rfl,fun hh=>by cases hh⟩
 unfold VC3
 intro _ _ _
 rintro _ rfl
 refine ⟨fun _=>j1t,fun hf=>?_⟩
 obtain ⟨hp,h10,h20⟩:=Es ho.1 (by simpa using hf)
 rintro _ rfl
 cases eb:(decide (ff h > 5) || decide (((ac.length:Nat):Int) > 20)) with
 | true=>exact j1t
 | false =>
  have hb:ff h≤5∧ac.length≤20:=by simp at eb; omega
  have h5:(bB h).length≤5:=by have:=CK h; omega
  have hE:(⟨h.ah,h.al⟩:ak)=h:=rfl
  have Sj:=uW h
  unfold VC3_J1
  rw [hE]
  refine ⟨fun hh=>(by cases hh),fun _=>⟨hp,?_⟩⟩
  rintro _ rfl
  refine ⟨hp.2.1,?_⟩
  rintro _ rfl _
  refine ⟨Gj hp h20 h10 h5,?_⟩
  rintro _ rfl
  rw [DW h5]
  refine ⟨fun _=>⟨⟨hp,by omega⟩,?_⟩,fun hh=>by simp at hh⟩
  rintro _ rfl
  refine ⟨hp.2.1,?_⟩
  rintro _ rfl _
  refine ⟨⟨hp.1,by omega,by omega⟩,?_⟩
  rintro _ rfl
  rw [B4]
  exact ⟨fun _=>by rintro _ rfl; rfl,fun hh=>by simp at hh⟩
end Go.Proofs.YteahldlmkheleaaGreat
