/- Lemmas. -/
import Derived.Test.YteahldlmkheleaaGreatLV2
set_option linter.all false
namespace Go.Proofs.YteahldlmkheleaaGreat
open Go Go.Sv Go.Pu
theorem v106 (o:ab):VC106 o (fun r=>r=dR o):=by
 unfold VC106 dR
 simp only [beq_iff_eq,beq_eq_false_iff_ne]
 exact ⟨fun h=>by rw [if_pos h],fun h=>by rw [if_neg h]⟩
theorem v95 (o:ab):VC95 o (fun r=>r=cQ o):=by
 unfold VC95 cQ
 simp only [Bool.or_eq_true,decide_eq_true_eq,Bool.or_eq_false_iff,decide_eq_false_iff_not]
 refine ⟨fun h=>by rw [if_pos (by omega)],fun h=>⟨fun h2=>by rw [if_neg (by omega),if_pos h2],fun h2=>?_⟩⟩
 rintro _ rfl
 refine ⟨fun h3=>?_,fun h3=>?_⟩
 ·have h3:dR o=false:=by simpa using h3
  rw [if_neg (by omega),if_neg (by omega),if_pos h3]
 ·have h3:dR o=true:=by simpa using h3
  rw [if_neg (by omega),if_neg (by omega),if_neg (by rw [h3]; decide)]
theorem v63 (a b:ab):VC63 a b (fun r=>r=aZ a b):=rfl
theorem v80 (l:List ab):VC80 l (fun r=>r=bZ l):=by
 unfold VC80
 intro Aa
 simp only [sm] at Aa
 refine ⟨fun h=>?_,fun h=>?_⟩
 ·rw [decide_eq_true_eq] at h
  unfold bZ; rw [if_pos (by omega)]
 ·rw [decide_eq_false_iff_not] at h
  have e:bZ l=dN l l.length [] [] 0:=by unfold bZ; rw [if_neg (by omega)]
  rw [e]
  refine ⟨fun u la x=>∃ i f:Nat,x=i∧i+f=l.length∧dN l f u la i=dN l l.length [] [] 0,fun _ _ x=>(l.length - x).toNat,⟨0,l.length,rfl,by omega,rfl⟩,?_⟩
  rintro u la _ ⟨i,f,rfl,Oa,iP⟩
  refine ⟨fun hx=>⟨⟨by omega,by simpa using hx⟩,?_⟩,fun hx=>?_⟩
  ·rw [decide_eq_true_eq] at hx
   obtain ⟨f,rfl⟩:∃ k,f=k+1:=⟨f - 1,by omega⟩
   rw [dN] at iP
   rintro _ rfl
   refine ⟨fun ha=>?_,fun ha=>?_⟩
   ·rw [bne_iff_ne] at ha
    rw [← iP,if_pos ha]
   ·have ha:cQ (gi l (i:Int))=0:=by simpa using ha
    rw [if_neg (by omega)] at iP
    have j2:¬ mS l u i→pa l la i=false→VC80_J2 l (fun u la x=>∃ i f:Nat,x=i∧i+f=l.length∧dN l f u la i=dN l l.length [] [] 0) (fun _ _ x=>(l.length - x).toNat) u la i (k5 l u i):=by
     intro h1 h2
     rw [if_neg h1,if_neg (by rw [h2]; decide)] at iP
     unfold VC80_J2
     rw [wrp (by omega) (by omega)]
     exact ⟨⟨i+1,f,by simp,by omega,iP⟩,by dsimp only; omega⟩
    have j4:¬ mS l u i→∀ b,b=pa l la i→VC80_J4 l (fun r=>r=dN l l.length [] [] 0) (fun u la x=>∃ i f:Nat,x=i∧i+f=l.length∧dN l f u la i=dN l l.length [] [] 0) (fun _ _ x=>(l.length - x).toNat) u la i b:=by
     rintro h1 b rfl
     unfold VC80_J4
     refine ⟨fun hb=>?_,fun hb=>⟨fun he=>?_,fun he=>?_⟩⟩
     ·rw [if_neg h1,if_pos hb] at iP
      exact iP
     ·rw [decide_eq_true_eq] at he
      have:=j2 h1 hb
      unfold k5 at this
      rw [if_pos he] at this
      exact this
     ·rw [decide_eq_false_iff_not] at he
      have:=j2 h1 hb
      unfold k5 at this
      rw [if_neg he] at this
      exact this
    have j3:∀ b,(b=true↔mS l u i)→VC80_J3 l (fun r=>r=dN l l.length [] [] 0) (fun u la x=>∃ i f:Nat,x=i∧i+f=l.length∧dN l f u la i=dN l l.length [] [] 0) (fun _ _ x=>(l.length - x).toNat) u la i b:=by
     intro b hb
     unfold VC80_J3
     refine ⟨fun h=>?_,fun h=>?_⟩
     ·rw [if_pos (hb.mp h)] at iP
      exact iP
     ·have h1:¬ mS l u i:=fun h2=>by rw [hb.mpr h2] at h; cases h
      refine ⟨fun hs=>?_,fun hs=>j4 h1 _ ?_⟩
      ·rintro _ rfl
       refine j4 h1 _ ?_
       unfold pa
       rw [hs]; rfl
      ·unfold pa
       rw [hs]; rfl
    have m1:∀ z:Bool,(z=true↔(0 < i∧(gi l (i:Int)).aE≤(gi l ((i:Int) - 1)).aE))→z=false → 
      ((decide ((aF u (gi l (i:Int)).aE).getD 0 > 0))=true→VC80_J3 l (fun r=>r=dN l l.length [] [] 0) (fun u la x=>∃ i f:Nat,x=i∧i+f=l.length∧dN l f u la i=dN l l.length [] [] 0) (fun _ _ x=>(l.length - x).toNat) u la i true) ∧
      ((decide ((aF u (gi l (i:Int)).aE).getD 0 > 0))=false→((decide ((gi l (i:Int)).End≥0))=true→VC80_J3 l (fun r=>r=dN l l.length [] [] 0) (fun u la x=>∃ i f:Nat,x=i∧i+f=l.length∧dN l f u la i=dN l l.length [] [] 0) (fun _ _ x=>(l.length - x).toNat) u la i (decide ((aF u (gi l (i:Int)).End).getD 0 > 0)))∧((decide ((gi l (i:Int)).End≥0))=false→VC80_J3 l (fun r=>r=dN l l.length [] [] 0) (fun u la x=>∃ i f:Nat,x=i∧i+f=l.length∧dN l f u la i=dN l l.length [] [] 0) (fun _ _ x=>(l.length - x).toNat) u la i false)):=by
     intro z hz NY
     have uk:¬ (0 < i∧(gi l (i:Int)).aE≤(gi l ((i:Int) - 1)).aE):=fun h=>by rw [hz.mpr h] at NY; cases NY
     simp only [decide_eq_true_eq,decide_eq_false_iff_not]
     refine ⟨fun hu=>j3 _ ⟨fun _=>Or.inr (Or.inl hu),fun _=>rfl⟩,fun hu=>⟨fun he=>j3 _ ⟨fun h=>Or.inr (Or.inr ⟨he,by rw [decide_eq_true_eq] at h; exact h⟩),fun h=>?_⟩,fun he=>j3 _ ⟨(fun h=>by cases h),fun h=>?_⟩⟩⟩
     ·rw [decide_eq_true_eq]
      rcases h with h | h | h
      ·exact absurd h uk
      ·exact absurd h hu
      ·exact h.2
     ·rcases h with h | h | h
      ·exact absurd h uk
      ·exact absurd h hu
      ·exact absurd h.1 he
    refine ⟨fun h0=>?_,fun h0=>?_⟩
    ·rw [decide_eq_true_eq] at h0
     rw [wrp (n:=(i:Int) - 1) (by omega) (by omega)]
     refine ⟨⟨by omega,by omega⟩,fun hs=>?_,fun hs=>?_⟩
     ·rw [decide_eq_true_eq] at hs
      exact j3 true ⟨fun _=>Or.inl ⟨by omega,hs⟩,fun _=>rfl⟩
     ·refine m1 (decide ((gi l (i:Int)).aE≤(gi l ((i:Int) - 1)).aE)) ?_ hs
      rw [decide_eq_true_eq]
      exact ⟨fun h=>⟨by omega,h⟩,fun h=>h.2⟩
    ·rw [decide_eq_false_iff_not] at h0
     exact m1 false ⟨(fun h=>by cases h),fun h=>by omega⟩ rfl
  ·rw [decide_eq_false_iff_not] at hx
   have:f=0:=by omega
   subst this
   unfold VC80_J1
   rw [← iP]; rfl
theorem vH (l:List ab):∀ (f:Nat) (u:List (Int × Int)) (la:List (Int × ab)) (i:Nat),i+f=l.length→(dN l f u la i).2=0→∀ j:Nat,i≤j→j < l.length→cQ (gi l (j:Int))=0∧(0 < j→(gi l ((j:Int) - 1)).aE < (gi l (j:Int)).aE)
 | 0,u,la,i,Oa,_,j,h1,h2=>by omega
 | f+1,u,la,i,Oa,h,j,h1,h2=>by
  rw [dN] at h
  by_cases ha:cQ (gi l (i:Int))≠0
  ·rw [if_pos ha] at h; exact absurd h ha
  ·rw [if_neg ha] at h
   by_cases h32:mS l u i
   ·rw [if_pos h32] at h; simp at h
   ·rw [if_neg h32] at h
    by_cases h33:pa l la i=true
    ·rw [if_pos h33] at h; simp at h
    ·rw [if_neg h33] at h
     by_cases Ch:j=i
     ·subst Ch
      refine ⟨by omega,fun h0=>?_⟩
      apply Classical.byContradiction
      intro hn
      exact h32 (Or.inl ⟨h0,by omega⟩)
     ·exact vH l f _ _ (i+1) (by omega) h j (by omega) h2
theorem pj:∀ (p:List aa) (u:List (Int × Int)),(∀ i,0≤(aF u i).getD 0∧(aF u i).getD 0+p.length≤4611686018427387904)→∀ i,(aF (p.foldl (fun u p=>jP u p.Oper) u) i).getD 0=(aF u i).getD 0+((opers p).count i:Nat)
 | [],u,_,i=>by simp [opers]
 | q :: p,u,h,i=>by
  rw [List.foldl_cons]
  have hq:=h q.Oper
  simp only [List.length_cons] at hq
  have hg:∀ j,(aF (jP u q.Oper) j).getD 0=(aF u j).getD 0+if j=q.Oper then 1 else 0:=by
   intro j
   unfold jP
   rw [eX]
   by_cases hj:j=q.Oper
   ·subst hj; rw [if_pos rfl,if_pos rfl]
    show IntKind.i64.wrap _=_
    exact wrp (by omega) (by omega)
   ·rw [if_neg hj,if_neg hj]; omega
  rw [pj p _ (fun j=>?_) i,hg i]
  ·unfold opers
   rw [List.map_cons,List.count_cons]
   by_cases hj:i=q.Oper
   ·subst hj; simp; omega
   ·rw [if_neg hj,if_neg (by simp; omega)]; omega
  ·have:=h j
   simp only [List.length_cons] at this
   rw [hg j]
   split <;> omega
theorem Ay {p:List aa} (h:p.length≤140737488355328) (i:Int):0≤(aF (jH p) i).getD 0∧(aF (jH p) i).getD 0≤p.length∧((aF (jH p) i).getD 0=0↔i∉opers p):=by
 have:=pj p [] (fun i=>by simp only [aF]; exact ⟨by decide,by show (0:Int)+_≤_; omega⟩) i
 have h0:(aF ([]:List (Int × Int)) i).getD 0=0:=rfl
 rw [h0] at this
 unfold jH
 rw [this]
 have hc:(opers p).count i≤(opers p).length:=List.count_le_length ..
 have hl:(opers p).length=p.length:=by unfold opers; rw [List.length_map]
 refine ⟨by omega,by omega,?_⟩
 rw [← List.count_eq_zero (a:=i) (l:=opers p)]
 omega
theorem rO {p:List aa} {t:Nat} (h:t < p.length):p.take (t+1)=p.take t++[gi p (t:Int)]:=by
 rw [cN _ _ h,List.take_succ_eq_append_getElem h]
theorem vU {p:List aa} {t:Nat} (h:t < p.length):jH (p.take (t+1))=jP (jH (p.take t)) (gi p (t:Int)).Oper:=by
 unfold jH
 rw [rO h,List.foldl_append]; rfl
theorem w6 {p:List aa} {t:Nat} (h:t < p.length):opers (p.take (t+1))=opers (p.take t)++[(gi p (t:Int)).Oper]:=by
 unfold opers
 rw [rO h,List.map_append]; rfl
theorem v87 (p:List aa):VC87 p (fun r=>r=fk p):=by
 unfold VC87
 intro hs
 simp only [sm] at hs
 refine ⟨fun x m=>∃ t:Nat,x=t∧t≤p.length∧m=jH (p.take t),fun x _=>(p.length - x).toNat,⟨0,rfl,by omega,rfl⟩,?_⟩
 rintro _ _ ⟨t,rfl,ht,rfl⟩
 refine ⟨fun h=>?_,fun h=>?_⟩
 ·rw [decide_eq_true_eq] at h
  rw [wrp (n:=(t:Int)+1) (by omega) (by omega)]
  exact ⟨⟨by omega,by omega⟩,⟨t+1,by simp,by omega,by rw [vU (by omega)]; rfl⟩,by dsimp only; omega⟩
 ·rw [decide_eq_false_iff_not] at h
  have:t=p.length:=by omega
  subst this
  unfold VC87_J1 fk
  rw [List.take_length]
theorem v99 (i:Int) (m:List (Int × Int)):VC99 i m (fun r=>r=fg i m):=rfl
theorem sW (l:List ab) (p:List aa) (b:Bool) (t:Nat):gv l p b (t+1)=gv l p b t++(if kM l p b (t:Int)=true then [(t:Int)] else []):=by
 unfold gv
 rw [List.range_succ,List.filter_append,List.map_append,List.filter_cons,List.filter_nil]
 split <;> rfl
theorem wy (l:List ab) (p:List aa) (b:Bool) (t:Nat):(gv l p b t).length≤t:=by
 unfold gv
 rw [List.length_map]
 have:=List.length_filter_le (fun i:Nat=>kM l p b (i:Int)) (List.range t)
 rw [List.length_range] at this
 exact this
theorem j52 {l:List ab} {p:List aa} {b:Bool} {t:Nat} {I1:List Int→Int→Prop} {μ1:List Int→Int→Nat} (ht:t < 1000000)
  (k:I1 (gv l p b (t+1)) ((t+1:Nat):Int)∧μ1 (gv l p b (t+1)) ((t+1:Nat):Int) < μ1 (gv l p b t) t) {z:Bool} (hz:z=kM l p b (t:Int)):VC64_J3 I1 μ1 (gv l p b t) t (gv l p b t) z:=by
 have hle:=wy l p b t
 have hw:IntKind.i64.wrap ((t:Int)+1)=((t+1:Nat):Int):=by rw [wrp (by omega) (by omega)]; rfl
 unfold VC64_J3 VC64_J2
 rw [hw]
 rw [sW,← hz] at k
 refine ⟨fun h=>⟨?_,?_⟩,fun h=>?_⟩
 ·rw [List.length_singleton]; omega
 ·rw [if_pos h] at k; exact k
 ·rw [if_neg (by rw [h]; decide),List.append_nil] at k; exact k
theorem v64 (l:List ab) (p:List aa) (b:Bool) (hb:uP l p b):VC64 l p b (fun r=>r=en l p b):=by
 unfold VC64 en
 unfold uP at hb
 intro hl hp
 simp only [sm] at hl hp
 rintro _ rfl
 refine ⟨fun out x=>∃ t:Nat,x=t∧t≤l.length∧out=gv l p b t,fun _ x=>(l.length - x).toNat,⟨0,rfl,by omega,rfl⟩,?_⟩
 rintro _ _ ⟨t,rfl,ht,rfl⟩
 refine ⟨fun h=>?_,fun h=>?_⟩
 ·rw [decide_eq_true_eq] at h
  refine ⟨⟨by omega,by omega⟩,fun hq=>?_,fun hq=>?_⟩
  ·rintro _ rfl
   refine j52 (by omega) ⟨⟨t+1,rfl,by omega,rfl⟩,by omega⟩ ?_
   unfold kM fg fk
   rw [hq,Bool.true_and,Bool.eq_iff_iff,beq_iff_eq,(Ay hp _).2.2]
   simp
  ·refine j52 (by omega) ⟨⟨t+1,rfl,by omega,rfl⟩,by omega⟩ ?_
   unfold kM
   rw [hq,Bool.false_and]
 ·rw [decide_eq_false_iff_not] at h
  have:t=l.length:=by omega
  subst this
  rfl
theorem v35 (l:List ab) (p:List aa) (hb:ql l p):VC35 l p (fun r=>r=b7 l p):=by
 unfold VC35
 intro _ _
 unfold ql at hb
 first
  | exact ⟨hb,fun r hr _=>hr.symm⟩
  | exact fun r hr _=>hr.symm
theorem Bz {l:List ab} {p:List aa} {t:Nat} (h:t < p.length) (hw:dP l p t=true) (h2:∀ y:Nat,y < t→dP l p y=false):cA l p=t:=by
 unfold cA pM
 have:(List.range p.length).find? (dP l p)=some t:=by
  rw [List.find?_range_eq_some]
  exact ⟨hw,by rw [List.mem_range]; omega,fun y hy=>by simp [h2 y hy]⟩
 rw [this]
theorem qw {l:List ab} {p:List aa} (h2:∀ y:Nat,y < p.length→dP l p y=false):cA l p=-1:=by
 unfold cA pM
 have:(List.range p.length).find? (dP l p)=none:=by
  rw [List.find?_range_eq_none]
  intro y hy
  simp [h2 y hy]
 rw [this]
def Kb (l:List ab) (m:List (Int × Int)) (p:List aa) (t:Nat):Prop:=∀ k:Int,0≤(aF m k).getD 0∧(aF m k).getD 0≤t∧(0≤k→k < l.length→((aF m k).getD 0=0↔k∉opers (p.take t)))
theorem re {l:List ab} {p:List aa} {t:Nat} {k:Nat} (h:0≤(gi p (t:Int)).Oper∧(gi p (t:Int)).Oper < l.length) (hk:k < l.length) (ha:aZ (gi l (k:Int)) (gi l (gi p (t:Int)).Oper)=true) (hn:(k:Int)∉opers (p.take t)):dP l p t=true:=by
 unfold dP
 rw [Bool.and_eq_true,decide_eq_true_eq,List.any_eq_true]
 exact ⟨h,k,by rw [List.mem_range]; exact hk,by rw [ha]; simp [hn]⟩
theorem tY {l:List ab} {p:List aa} {t:Nat} (hn:∀ k:Nat,k < l.length→¬ (aZ (gi l (k:Int)) (gi l (gi p (t:Int)).Oper)=true∧(k:Int)∉opers (p.take t))):dP l p t=false:=by
 unfold dP
 rw [Bool.and_eq_false_iff]
 right
 rw [List.any_eq_false]
 intro k hk
 rw [List.mem_range] at hk
 have:=hn k hk
 simpa using this
theorem v34 (l:List ab) (p:List aa):VC34 l p (fun r=>r=cA l p):=by
 unfold VC34
 intro hl hp
 simp only [sm] at hl hp
 refine ⟨fun m x=>∃ t:Nat,x=t∧t≤p.length∧Kb l m p t∧∀ y:Nat,y < t→dP l p y=false,fun _ x=>(p.length - x).toNat,⟨0,rfl,by omega,fun k=>⟨Int.le_refl 0,Int.le_refl 0,fun _ _=>by simp [opers,aF]⟩,fun y hy=>by omega⟩,?_⟩
 rintro m _ ⟨t,rfl,ht,hm,hb⟩
 refine ⟨fun h=>?_,fun h=>?_⟩
 ·rw [decide_eq_true_eq] at h
  have L9:=w6 (p:=p) (t:=t) (by omega)
  have hw:IntKind.i64.wrap ((t:Int)+1)=((t+1:Nat):Int):=by rw [wrp (by omega) (by omega)]; rfl
  refine ⟨⟨by omega,by omega⟩,fun hq=>?_,fun hq=>?_⟩
  ·rw [Bool.or_eq_true,decide_eq_true_eq,decide_eq_true_eq] at hq
   unfold VC34_J2
   rw [hw]
   refine ⟨⟨t+1,rfl,by omega,fun k=>?_,fun y hy=>?_⟩,by dsimp only; omega⟩
   ·obtain ⟨a1,a2,a3⟩:=hm k
    refine ⟨a1,by omega,fun b1 b2=>?_⟩
    rw [a3 b1 b2,L9,List.mem_append,List.mem_singleton]
    constructor
    ·rintro hk (hk2 | hk2)
     ·exact hk hk2
     ·omega
    ·intro hk hk2; exact hk (Or.inl hk2)
   ·by_cases Iy:y < t
    ·exact hb y Iy
    ·have:y=t:=by omega
     subst this
     unfold dP
     rw [Bool.and_eq_false_iff]; left
     rw [decide_eq_false_iff_not]; omega
  ·rw [Bool.or_eq_false_iff,decide_eq_false_iff_not,decide_eq_false_iff_not] at hq
   have mt:0≤(gi p (t:Int)).Oper∧(gi p (t:Int)).Oper < l.length:=by omega
   refine ⟨fun x=>∃ u:Nat,x=u∧u≤l.length∧∀ k:Nat,k < u→¬ (aZ (gi l (k:Int)) (gi l (gi p (t:Int)).Oper)=true∧(k:Int)∉opers (p.take t)),fun x=>(l.length - x).toNat,⟨0,rfl,by omega,fun k hk=>by omega⟩,?_⟩
   rintro _ ⟨u,rfl,hu,hk⟩
   have Eh:u < l.length→IntKind.i64.wrap ((u:Int)+1)=((u+1:Nat):Int):=fun _=>by rw [wrp (by omega) (by omega)]; rfl
   refine ⟨fun h2=>?_,fun h2=>?_⟩
   ·rw [decide_eq_true_eq] at h2
    refine ⟨⟨by omega,by omega⟩,mt,?_⟩
    rintro _ rfl
    obtain ⟨a1,a2,a3⟩:=hm (u:Int)
    have next:¬ (aZ (gi l (u:Int)) (gi l (gi p (t:Int)).Oper)=true∧(u:Int)∉opers (p.take t))→∀ k:Nat,k < u+1→¬ (aZ (gi l (k:Int)) (gi l (gi p (t:Int)).Oper)=true∧(k:Int)∉opers (p.take t)):=by
     intro hn k Fl
     by_cases hk2:k < u
     ·exact hk k hk2
     ·have:k=u:=by omega
      subst this; exact hn
    refine ⟨fun ha=>?_,fun ha=>?_⟩
    ·unfold VC34_J4
     refine ⟨fun hz=>?_,fun hz=>?_⟩
     ·rw [beq_iff_eq,a3 (by omega) (by omega)] at hz
      exact (Bz (by omega) (re mt (by omega) ha hz) hb).symm
     ·rw [beq_eq_false_iff_ne] at hz
      rw [Eh (by omega)]
      exact ⟨⟨u+1,rfl,by omega,next (fun hn=>hz ((a3 (by omega) (by omega)).mpr hn.2))⟩,by dsimp only; omega⟩
    ·unfold VC34_J4
     refine ⟨(fun hz=>by cases hz),fun hz=>?_⟩
     rw [Eh (by omega)]
     exact ⟨⟨u+1,rfl,by omega,next (fun hn=>by rw [ha] at hn; cases hn.1)⟩,by dsimp only; omega⟩
   ·rw [decide_eq_false_iff_not] at h2
    have:u=l.length:=by omega
    subst this
    unfold VC34_J3 VC34_J2
    rw [hw]
    have GV:=hm (gi p (t:Int)).Oper
    rw [wrp (by omega) (by omega)]
    refine ⟨⟨t+1,rfl,by omega,fun k=>?_,fun y hy=>?_⟩,by dsimp only; omega⟩
    ·obtain ⟨a1,a2,a3⟩:=hm k
     rw [eX]
     by_cases he:k=(gi p (t:Int)).Oper
     ·rw [if_pos he]
      show 0≤(aF m (gi p (t:Int)).Oper).getD 0+1∧(aF m (gi p (t:Int)).Oper).getD 0+1≤_∧(_→_→((aF m (gi p (t:Int)).Oper).getD 0+1=0↔_))
      refine ⟨by omega,by omega,fun _ _=>⟨fun h=>by omega,fun h=>?_⟩⟩
      rw [L9] at h
      exact absurd (by rw [he]; simp) h
     ·rw [if_neg he]
      refine ⟨a1,by omega,fun b1 b2=>?_⟩
      rw [a3 b1 b2,L9]
      simp [he]
    ·by_cases Iy:y < t
     ·exact hb y Iy
     ·have:y=t:=by omega
      subst this
      exact tY hk
 ·rw [decide_eq_false_iff_not] at h
  have:t=p.length:=by omega
  subst this
  exact (qw hb).symm
theorem sK {l:List ab} (h:(bZ l).2=0):l.length≤5000:=by
 unfold bZ at h
 split at h
 ·cases h
 ·omega
theorem v51 (o:ae) (l:List ab) (p:List aa) (hp:lk o l p):VC51 o l p (fun r=>r=eH o l p):=by
 unfold VC51 eH
 intro _ _ _
 refine ⟨hp.1,?_⟩
 rintro _ rfl _ rfl
 refine ⟨fun h=>?_,fun h=>?_⟩
 ·rw [Bool.or_eq_true,bne_iff_ne,bne_iff_ne] at h
  rw [if_pos h]
 ·rw [Bool.or_eq_false_iff,bne_eq_false_iff_eq,bne_eq_false_iff_eq] at h
  rw [if_neg (by omega)]
  refine ⟨hp,?_⟩
  rintro _ rfl
  refine ⟨fun h2=>?_,fun h2=>?_⟩
  ·rw [bne_iff_ne] at h2
   rw [if_pos h2]
  ·rw [bne_eq_false_iff_eq] at h2
   rw [if_neg (by omega)]
   rintro _ rfl
   refine ⟨fun h3=>?_,fun h3=>?_⟩
   ·rw [decide_eq_true_eq] at h3
    rw [if_pos h3]
   ·rw [decide_eq_false_iff_not] at h3
    rw [if_neg h3]
    have hl:=sK h.2
    refine ⟨show l.length≤_ by omega,?_⟩
    rintro _ rfl _
    refine ⟨fun h4=>?_,fun h4=>?_⟩
    ·rw [decide_eq_true_eq] at h4
     rw [if_pos (by omega)]
     exact ⟨⟨by omega,by omega⟩,rfl⟩
    ·rw [decide_eq_false_iff_not] at h4
     rw [if_neg (by omega)]
theorem v20 (o:ae) (l:List ab) (p:List aa) (hp:lk o l p):VC20 o l p (fun r=>r=c9 o l p):=by
 unfold VC20 c9
 intro _ _ _
 refine ⟨hp,?_⟩
 rintro _ rfl
 rfl
theorem v67 (a b:ab):VC67 a b (fun r=>r=gC a b):=rfl
theorem v66 (p:List aa) (i:Int):VC66 p i (fun r=>r=aX p i):=by
 unfold VC66 aX
 intro hs
 simp only [sm] at hs
 refine ⟨fun x=>0≤x∧x≤p.length∧∀ j:Int,0≤j→j < x→(fun q:aa=>q.Oper == i) (gi p j)=false,fun x=>(p.length - x).toNat,⟨by omega,by omega,fun j h0 h1=>by omega⟩,?_⟩
 rintro x ⟨h0,h1,h2⟩
 refine ⟨fun h=>?_,fun h=>?_⟩
 ·rw [decide_eq_true_eq] at h
  refine ⟨⟨h0,h⟩,fun he=>?_,fun he=>?_⟩
  ·rw [pU (f:=fun q:aa=>q.Oper == i) h0 h he h2]
   dsimp only; omega
  ·rw [wrp (by omega) (by omega)]
   refine ⟨⟨by omega,by omega,fun j j0 j1=>?_⟩,by dsimp only; omega⟩
   by_cases hj:j < x
   ·exact h2 j j0 hj
   ·rw [show j=x by omega]; exact he
 ·rw [decide_eq_false_iff_not] at h
  unfold VC66_J1
  rw [pT (f:=fun q:aa=>q.Oper == i) (fun j j0 j1=>h2 j j0 (by omega))]
theorem iX (p:List aa) (i:Int):(aX p i=-1∧i∉opers p)∨∃ k:Nat,k < p.length∧aX p i=k∧(gi p (k:Int)).Oper=i∧∀ j:Nat,j < k→(gi p (j:Int)).Oper≠i:=by
 unfold aX
 cases h:p.findIdx? (fun q=>q.Oper == i) with
 | none =>
  left
  refine ⟨rfl,?_⟩
  rw [List.findIdx?_eq_none_iff] at h
  unfold opers
  rw [List.mem_map]
  rintro ⟨q,hq,rfl⟩
  have:=h q hq
  simp at this
 | some k =>
  right
  rw [List.findIdx?_eq_some_iff_getElem] at h
  obtain ⟨hk,he,hj⟩:=h
  refine ⟨k,hk,rfl,?_,fun j xq=>?_⟩
  ·rw [cN _ _ hk]; simpa using he
  ·rw [cN _ _ (by omega)]; simpa using hj j xq
theorem jL {p:List aa} {i:Int} {t:Nat} (ht:t≤p.length):i∈opers (p.take t)↔∃ k:Nat,k < t∧(gi p (k:Int)).Oper=i:=by
 unfold opers
 rw [List.mem_map]
 constructor
 ·rintro ⟨q,hq,rfl⟩
  obtain ⟨k,hk,rfl⟩:=List.getElem_of_mem hq
  rw [List.length_take] at hk
  exact ⟨k,by omega,by rw [cN _ _ (by omega),List.getElem_take]⟩
 ·rintro ⟨k,hk,rfl⟩
  refine ⟨gi p (k:Int),?_,rfl⟩
  rw [cN _ _ (by omega),List.mem_take_iff_getElem]
  exact ⟨k,by omega,rfl⟩
theorem sn {o:ae} {l:List ab} {p:List aa} {t:Nat} (ht:t < l.length) (h:nX l p t=false):ec o l p=false:=by
 unfold ec
 rw [Bool.and_eq_false_iff]; right
 rw [List.all_eq_false]
 exact ⟨t,by rw [List.mem_range]; exact ht,by rw [h]; decide⟩
theorem v61 (o:ae) (l:List ab) (p:List aa):VC61 o l p (fun r=>r=ec o l p):=by
 unfold VC61
 intro _ hl _
 simp only [sm] at hl
 rintro _ rfl
 refine ⟨fun h=>?_,fun h=>?_⟩
 ·rw [bne_iff_ne] at h
  unfold ec
  rw [Bool.false_eq,Bool.and_eq_false_iff]; left
  rw [decide_eq_false_iff_not]; exact h
 ·rw [bne_eq_false_iff_eq] at h
  refine ⟨fun x=>∃ t:Nat,x=t∧t≤l.length∧∀ y:Nat,y < t→nX l p y=true,fun x=>(l.length - x).toNat,⟨0,rfl,by omega,fun y hy=>by omega⟩,?_⟩
  rintro _ ⟨t,rfl,ht,hy⟩
  refine ⟨fun h2=>?_,fun h2=>?_⟩
  ·rw [decide_eq_true_eq] at h2
   refine ⟨⟨by omega,by omega⟩,?_⟩
   have hw:IntKind.i64.wrap ((t:Int)+1)=((t+1:Nat):Int):=by rw [wrp (by omega) (by omega)]; rfl
   have j3:∀ z,z=(((gi l (t:Int)).End != -1) && decide (aX p t < 0))→VC61_J3 l p (fun r=>r=ec o l p) (fun x=>∃ t:Nat,x=t∧t≤l.length∧∀ y:Nat,y < t→nX l p y=true) (fun x=>(l.length - x).toNat) t z:=by
    intro z hz
    unfold VC61_J3
    refine ⟨fun Eg=>?_,fun uk=>?_⟩
    ·refine (sn (t:=t) (by omega) ?_).symm
     unfold nX
     rw [← hz,Eg]; rfl
    ·refine ⟨fun x=>∃ u:Nat,x=u∧u≤l.length∧∀ k:Nat,k < u→kL l p t k=true,fun x=>(l.length - x).toNat,⟨0,rfl,by omega,fun y hy=>by omega⟩,?_⟩
     rintro _ ⟨u,rfl,hu,hk⟩
     refine ⟨fun h3=>?_,fun h3=>?_⟩
     ·rw [decide_eq_true_eq] at h3
      rintro _ rfl _ rfl
      refine ⟨⟨by omega,by omega⟩,⟨by omega,by omega⟩,?_⟩
      have Eh:IntKind.i64.wrap ((u:Int)+1)=((u+1:Nat):Int):=by rw [wrp (by omega) (by omega)]; rfl
      have j4:∀ z2,z2=!kL l p t u→VC61_J4 (fun r=>r=ec o l p) (fun x=>∃ u:Nat,x=u∧u≤l.length∧∀ k:Nat,k < u→kL l p t k=true) (fun x=>(l.length - x).toNat) u z2:=by
       intro z2 Ix
       unfold VC61_J4
       refine ⟨fun h5=>?_,fun h5=>?_⟩
       ·refine (sn (t:=t) (by omega) ?_).symm
        unfold nX
        rw [Bool.and_eq_false_iff]; right
        rw [List.all_eq_false]
        refine ⟨u,by rw [List.mem_range]; omega,?_⟩
        rw [h5] at Ix
        simpa using Ix
       ·rw [Eh]
        refine ⟨⟨u+1,rfl,by omega,fun k Fl=>?_⟩,by dsimp only; omega⟩
        by_cases hk2:k < u
        ·exact hk k hk2
        ·have:k=u:=by omega
         subst this
         rw [h5] at Ix
         simpa using Ix
      have N8:(!kL l p t u)=(aZ (gi l (t:Int)) (gi l (u:Int)) && decide (aX p u≥0) && (decide (aX p t < 0) || decide (aX p t > aX p u))):=by
       unfold kL; rw [Bool.not_not]
      rintro _ rfl
      refine ⟨fun ha=>j4 _ ?_,fun ha=>j4 _ ?_⟩
      ·have ha:(aZ (gi l (t:Int)) (gi l (u:Int)) && decide (aX p u≥0))=true:=ha
       rw [N8,ha]; rfl
      ·have ha:(aZ (gi l (t:Int)) (gi l (u:Int)) && decide (aX p u≥0))=false:=ha
       rw [N8,ha]; rfl
     ·rw [decide_eq_false_iff_not] at h3
      have:u=l.length:=by omega
      subst this
      unfold VC61_J2
      rw [hw]
      refine ⟨⟨t+1,rfl,by omega,fun y Sc=>?_⟩,by dsimp only; omega⟩
      by_cases Iy:y < t
      ·exact hy y Iy
      ·have:y=t:=by omega
       subst this
       unfold nX
       rw [← hz,uk,List.all_eq_true.mpr (fun k Fl=>hk k (List.mem_range.mp Fl))]; rfl
   refine ⟨fun he=>?_,fun he=>?_⟩
   ·rintro _ rfl
    exact j3 _ (by rw [he]; rfl)
   ·exact j3 _ (by rw [he]; rfl)
  ·rw [decide_eq_false_iff_not] at h2
   have:t=l.length:=by omega
   subst this
   unfold VC61_J1 ec
   rw [h,List.all_eq_true.mpr (fun k Fl=>hy k (List.mem_range.mp Fl))]; rfl
end Go.Proofs.YteahldlmkheleaaGreat
