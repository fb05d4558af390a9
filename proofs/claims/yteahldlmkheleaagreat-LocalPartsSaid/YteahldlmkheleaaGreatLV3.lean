/- Lemmas. -/
import Derived.Test.YteahldlmkheleaaGreatLV2
set_option linter.all false
namespace Go.Proofs.YteahldlmkheleaaGreat
open Go Go.Sv Go.Pu
theorem v106 (o:ab):VC106 o (fun r=>r=eG o):=by
 unfold VC106 eG
 simp only [beq_iff_eq,beq_eq_false_iff_ne]
 exact ⟨fun h=>by rw [if_pos h],fun h=>by rw [if_neg h]⟩
theorem v95 (o:ab):VC95 o (fun r=>r=dq o):=by
 unfold VC95 dq
 simp only [Bool.or_eq_true,decide_eq_true_eq,Bool.or_eq_false_iff,decide_eq_false_iff_not]
 refine ⟨fun h=>by rw [if_pos (by omega)],fun h=>⟨fun h2=>by rw [if_neg (by omega),if_pos h2],fun h2=>?_⟩⟩
 rintro _ rfl
 refine ⟨fun h3=>?_,fun h3=>?_⟩
 ·have h3:eG o=false:=by simpa using h3
  rw [if_neg (by omega),if_neg (by omega),if_pos h3]
 ·have h3:eG o=true:=by simpa using h3
  rw [if_neg (by omega),if_neg (by omega),if_neg (by rw [h3]; decide)]
theorem v63 (a b:ab):VC63 a b (fun r=>r=bl a b):=rfl
theorem v80 (l:List ab):VC80 l (fun r=>r=c7 l):=by
 unfold VC80
 intro An
 simp only [sm] at An
 refine ⟨fun h=>?_,fun h=>?_⟩
 ·rw [decide_eq_true_eq] at h
  unfold c7; rw [if_pos (by omega)]
 ·rw [decide_eq_false_iff_not] at h
  have e:c7 l=en l l.length [] [] 0:=by unfold c7; rw [if_neg (by omega)]
  rw [e]
  refine ⟨fun u la x=>∃ i f:Nat,x=i∧i+f=l.length∧en l f u la i=en l l.length [] [] 0,fun _ _ x=>(l.length - x).toNat,⟨0,l.length,rfl,by omega,rfl⟩,?_⟩
  rintro u la _ ⟨i,f,rfl,S3,jE⟩
  refine ⟨fun hx=>⟨⟨by omega,by simpa using hx⟩,?_⟩,fun hx=>?_⟩
  ·rw [decide_eq_true_eq] at hx
   obtain ⟨f,rfl⟩:∃ k,f=k+1:=⟨f - 1,by omega⟩
   rw [en] at jE
   rintro _ rfl
   refine ⟨fun ha=>?_,fun ha=>?_⟩
   ·rw [bne_iff_ne] at ha
    rw [← jE,if_pos ha]
   ·have ha:dq (gi l (i:Int))=0:=by simpa using ha
    rw [if_neg (by omega)] at jE
    have j2:¬ n9 l u i→qR l la i=false→VC80_J2 l (fun u la x=>∃ i f:Nat,x=i∧i+f=l.length∧en l f u la i=en l l.length [] [] 0) (fun _ _ x=>(l.length - x).toNat) u la i (lk l u i):=by
     intro h1 h2
     rw [if_neg h1,if_neg (by rw [h2]; decide)] at jE
     unfold VC80_J2
     rw [wrp (by omega) (by omega)]
     exact ⟨⟨i+1,f,by simp,by omega,jE⟩,by dsimp only; omega⟩
    have j4:¬ n9 l u i→∀ b,b=qR l la i→VC80_J4 l (fun r=>r=en l l.length [] [] 0) (fun u la x=>∃ i f:Nat,x=i∧i+f=l.length∧en l f u la i=en l l.length [] [] 0) (fun _ _ x=>(l.length - x).toNat) u la i b:=by
     rintro h1 b rfl
     unfold VC80_J4
     refine ⟨fun hb=>?_,fun hb=>⟨fun he=>?_,fun he=>?_⟩⟩
     ·rw [if_neg h1,if_pos hb] at jE
      exact jE
     ·rw [decide_eq_true_eq] at he
      have:=j2 h1 hb
      unfold lk at this
      rw [if_pos he] at this
      exact this
     ·rw [decide_eq_false_iff_not] at he
      have:=j2 h1 hb
      unfold lk at this
      rw [if_neg he] at this
      exact this
    have j3:∀ b,(b=true↔n9 l u i)→VC80_J3 l (fun r=>r=en l l.length [] [] 0) (fun u la x=>∃ i f:Nat,x=i∧i+f=l.length∧en l f u la i=en l l.length [] [] 0) (fun _ _ x=>(l.length - x).toNat) u la i b:=by
     intro b hb
     unfold VC80_J3
     refine ⟨fun h=>?_,fun h=>?_⟩
     ·rw [if_pos (hb.mp h)] at jE
      exact jE
     ·have h1:¬ n9 l u i:=fun h2=>by rw [hb.mpr h2] at h; cases h
      refine ⟨fun hs=>?_,fun hs=>j4 h1 _ ?_⟩
      ·rintro _ rfl
       refine j4 h1 _ ?_
       unfold qR
       rw [hs]; rfl
      ·unfold qR
       rw [hs]; rfl
    have m1:∀ z:Bool,(z=true↔(0 < i∧(gi l (i:Int)).aI≤(gi l ((i:Int) - 1)).aI))→z=false → 
      ((decide ((aF u (gi l (i:Int)).aI).getD 0 > 0))=true→VC80_J3 l (fun r=>r=en l l.length [] [] 0) (fun u la x=>∃ i f:Nat,x=i∧i+f=l.length∧en l f u la i=en l l.length [] [] 0) (fun _ _ x=>(l.length - x).toNat) u la i true) ∧
      ((decide ((aF u (gi l (i:Int)).aI).getD 0 > 0))=false→((decide ((gi l (i:Int)).End≥0))=true→VC80_J3 l (fun r=>r=en l l.length [] [] 0) (fun u la x=>∃ i f:Nat,x=i∧i+f=l.length∧en l f u la i=en l l.length [] [] 0) (fun _ _ x=>(l.length - x).toNat) u la i (decide ((aF u (gi l (i:Int)).End).getD 0 > 0)))∧((decide ((gi l (i:Int)).End≥0))=false→VC80_J3 l (fun r=>r=en l l.length [] [] 0) (fun u la x=>∃ i f:Nat,x=i∧i+f=l.length∧en l f u la i=en l l.length [] [] 0) (fun _ _ x=>(l.length - x).toNat) u la i false)):=by
     intro z hz On
     have wF:¬ (0 < i∧(gi l (i:Int)).aI≤(gi l ((i:Int) - 1)).aI):=fun h=>by rw [hz.mpr h] at On; cases On
     simp only [decide_eq_true_eq,decide_eq_false_iff_not]
     refine ⟨fun hu=>j3 _ ⟨fun _=>Or.inr (Or.inl hu),fun _=>rfl⟩,fun hu=>⟨fun he=>j3 _ ⟨fun h=>Or.inr (Or.inr ⟨he,by rw [decide_eq_true_eq] at h; exact h⟩),fun h=>?_⟩,fun he=>j3 _ ⟨(fun h=>by cases h),fun h=>?_⟩⟩⟩
     ·rw [decide_eq_true_eq]
      rcases h with h | h | h
      ·exact absurd h wF
      ·exact absurd h hu
      ·exact h.2
     ·rcases h with h | h | h
      ·exact absurd h wF
      ·exact absurd h hu
      ·exact absurd h.1 he
    refine ⟨fun h0=>?_,fun h0=>?_⟩
    ·rw [decide_eq_true_eq] at h0
     rw [wrp (n:=(i:Int) - 1) (by omega) (by omega)]
     refine ⟨⟨by omega,by omega⟩,fun hs=>?_,fun hs=>?_⟩
     ·rw [decide_eq_true_eq] at hs
      exact j3 true ⟨fun _=>Or.inl ⟨by omega,hs⟩,fun _=>rfl⟩
     ·refine m1 (decide ((gi l (i:Int)).aI≤(gi l ((i:Int) - 1)).aI)) ?_ hs
      rw [decide_eq_true_eq]
      exact ⟨fun h=>⟨by omega,h⟩,fun h=>h.2⟩
    ·rw [decide_eq_false_iff_not] at h0
     exact m1 false ⟨(fun h=>by cases h),fun h=>by omega⟩ rfl
  ·rw [decide_eq_false_iff_not] at hx
   have:f=0:=by omega
   subst this
   unfold VC80_J1
   rw [← jE]; rfl
theorem pM:∀ (p:List aa) (u:List (Int × Int)),(∀ i,0≤(aF u i).getD 0∧(aF u i).getD 0+p.length≤4611686018427387904)→∀ i,(aF (p.foldl (fun u p=>j6 u p.Oper) u) i).getD 0=(aF u i).getD 0+((opers p).count i:Nat)
 | [],u,_,i=>by simp [opers]
 | q :: p,u,h,i=>by
  rw [List.foldl_cons]
  have hq:=h q.Oper
  simp only [List.length_cons] at hq
  have hg:∀ j,(aF (j6 u q.Oper) j).getD 0=(aF u j).getD 0+if j=q.Oper then 1 else 0:=by
   intro j
   unfold j6
   rw [fm]
   by_cases hj:j=q.Oper
   ·subst hj; rw [if_pos rfl,if_pos rfl]
    show IntKind.i64.wrap _=_
    exact wrp (by omega) (by omega)
   ·rw [if_neg hj,if_neg hj]; omega
  rw [pM p _ (fun j=>?_) i,hg i]
  ·unfold opers
   rw [List.map_cons,List.count_cons]
   by_cases hj:i=q.Oper
   ·subst hj; simp; omega
   ·rw [if_neg hj,if_neg (by simp; omega)]; omega
  ·have:=h j
   simp only [List.length_cons] at this
   rw [hg j]
   split <;> omega
theorem AP {p:List aa} (h:p.length≤140737488355328) (i:Int):0≤(aF (jX p) i).getD 0∧(aF (jX p) i).getD 0≤p.length∧((aF (jX p) i).getD 0=0↔i∉opers p):=by
 have:=pM p [] (fun i=>by simp only [aF]; exact ⟨by decide,by show (0:Int)+_≤_; omega⟩) i
 have h0:(aF ([]:List (Int × Int)) i).getD 0=0:=rfl
 rw [h0] at this
 unfold jX
 rw [this]
 have hc:(opers p).count i≤(opers p).length:=List.count_le_length ..
 have hl:(opers p).length=p.length:=by unfold opers; rw [List.length_map]
 refine ⟨by omega,by omega,?_⟩
 rw [← List.count_eq_zero (a:=i) (l:=opers p)]
 omega
theorem sf {p:List aa} {t:Nat} (h:t < p.length):p.take (t+1)=p.take t++[gi p (t:Int)]:=by
 rw [bZ _ _ h,List.take_succ_eq_append_getElem h]
theorem wm {p:List aa} {t:Nat} (h:t < p.length):jX (p.take (t+1))=j6 (jX (p.take t)) (gi p (t:Int)).Oper:=by
 unfold jX
 rw [sf h,List.foldl_append]; rfl
theorem xq {p:List aa} {t:Nat} (h:t < p.length):opers (p.take (t+1))=opers (p.take t)++[(gi p (t:Int)).Oper]:=by
 unfold opers
 rw [sf h,List.map_append]; rfl
theorem v87 (p:List aa):VC87 p (fun r=>r=fo p):=by
 unfold VC87
 intro hs
 simp only [sm] at hs
 refine ⟨fun x m=>∃ t:Nat,x=t∧t≤p.length∧m=jX (p.take t),fun x _=>(p.length - x).toNat,⟨0,rfl,by omega,rfl⟩,?_⟩
 rintro _ _ ⟨t,rfl,ht,rfl⟩
 refine ⟨fun h=>?_,fun h=>?_⟩
 ·rw [decide_eq_true_eq] at h
  rw [wrp (n:=(t:Int)+1) (by omega) (by omega)]
  exact ⟨⟨by omega,by omega⟩,⟨t+1,by simp,by omega,by rw [wm (by omega)]; rfl⟩,by dsimp only; omega⟩
 ·rw [decide_eq_false_iff_not] at h
  have:t=p.length:=by omega
  subst this
  unfold VC87_J1 fo
  rw [List.take_length]
theorem v99 (i:Int) (m:List (Int × Int)):VC99 i m (fun r=>r=fk i m):=rfl
theorem tq (l:List ab) (p:List aa) (b:Bool) (t:Nat):gK l p b (t+1)=gK l p b t++(if kU l p b (t:Int)=true then [(t:Int)] else []):=by
 unfold gK
 rw [List.range_succ,List.filter_append,List.map_append,List.filter_cons,List.filter_nil]
 split <;> rfl
theorem wW (l:List ab) (p:List aa) (b:Bool) (t:Nat):(gK l p b t).length≤t:=by
 unfold gK
 rw [List.length_map]
 have:=List.length_filter_le (fun i:Nat=>kU l p b (i:Int)) (List.range t)
 rw [List.length_range] at this
 exact this
theorem j52 {l:List ab} {p:List aa} {b:Bool} {t:Nat} {I1:List Int→Int→Prop} {μ1:List Int→Int→Nat} (ht:t < 1000000)
  (k:I1 (gK l p b (t+1)) ((t+1:Nat):Int)∧μ1 (gK l p b (t+1)) ((t+1:Nat):Int) < μ1 (gK l p b t) t) {z:Bool} (hz:z=kU l p b (t:Int)):VC64_J3 I1 μ1 (gK l p b t) t (gK l p b t) z:=by
 have hle:=wW l p b t
 have hw:IntKind.i64.wrap ((t:Int)+1)=((t+1:Nat):Int):=by rw [wrp (by omega) (by omega)]; rfl
 unfold VC64_J3 VC64_J2
 rw [hw]
 rw [tq,← hz] at k
 refine ⟨fun h=>⟨?_,?_⟩,fun h=>?_⟩
 ·rw [List.length_singleton]; omega
 ·rw [if_pos h] at k; exact k
 ·rw [if_neg (by rw [h]; decide),List.append_nil] at k; exact k
theorem v64 (l:List ab) (p:List aa) (b:Bool) (hb:vg l p b):VC64 l p b (fun r=>r=eC l p b):=by
 unfold VC64 eC
 unfold vg at hb
 intro hl hp
 simp only [sm] at hl hp
 rintro _ rfl
 refine ⟨fun out x=>∃ t:Nat,x=t∧t≤l.length∧out=gK l p b t,fun _ x=>(l.length - x).toNat,⟨0,rfl,by omega,rfl⟩,?_⟩
 rintro _ _ ⟨t,rfl,ht,rfl⟩
 refine ⟨fun h=>?_,fun h=>?_⟩
 ·rw [decide_eq_true_eq] at h
  refine ⟨⟨by omega,by omega⟩,fun hq=>?_,fun hq=>?_⟩
  ·rintro _ rfl
   refine j52 (by omega) ⟨⟨t+1,rfl,by omega,rfl⟩,by omega⟩ ?_
   unfold kU fk fo
   rw [hq,Bool.true_and,Bool.eq_iff_iff,beq_iff_eq,(AP hp _).2.2]
   simp
  ·refine j52 (by omega) ⟨⟨t+1,rfl,by omega,rfl⟩,by omega⟩ ?_
   unfold kU
   rw [hq,Bool.false_and]
 ·rw [decide_eq_false_iff_not] at h
  have:t=l.length:=by omega
  subst this
  rfl
theorem v35 (l:List ab) (p:List aa) (hb:qK l p):VC35 l p (fun r=>r=b9 l p):=by
 unfold VC35
 intro _ _
 unfold qK at hb
 first
  | exact ⟨hb,fun r hr _=>hr.symm⟩
  | exact fun r hr _=>hr.symm
theorem BM {l:List ab} {p:List aa} {t:Nat} (h:t < p.length) (hw:eF l p t=true) (h2:∀ y:Nat,y < t→eF l p y=false):cW l p=t:=by
 unfold cW qc
 have:(List.range p.length).find? (eF l p)=some t:=by
  rw [List.find?_range_eq_some]
  exact ⟨hw,by rw [List.mem_range]; omega,fun y hy=>by simp [h2 y hy]⟩
 rw [this]
theorem vm {l:List ab} {p:List aa} (h2:∀ y:Nat,y < p.length→eF l p y=false):cW l p=-1:=by
 unfold cW qc
 have:(List.range p.length).find? (eF l p)=none:=by
  rw [List.find?_range_eq_none]
  intro y hy
  simp [h2 y hy]
 rw [this]
def Km (l:List ab) (m:List (Int × Int)) (p:List aa) (t:Nat):Prop:=∀ k:Int,0≤(aF m k).getD 0∧(aF m k).getD 0≤t∧(0≤k→k < l.length→((aF m k).getD 0=0↔k∉opers (p.take t)))
theorem uu {l:List ab} {p:List aa} {t:Nat} {k:Nat} (h:0≤(gi p (t:Int)).Oper∧(gi p (t:Int)).Oper < l.length) (hk:k < l.length) (ha:bl (gi l (k:Int)) (gi l (gi p (t:Int)).Oper)=true) (hn:(k:Int)∉opers (p.take t)):eF l p t=true:=by
 unfold eF
 rw [Bool.and_eq_true,decide_eq_true_eq,List.any_eq_true]
 exact ⟨h,k,by rw [List.mem_range]; exact hk,by rw [ha]; simp [hn]⟩
theorem uv {l:List ab} {p:List aa} {t:Nat} (hn:∀ k:Nat,k < l.length→¬ (bl (gi l (k:Int)) (gi l (gi p (t:Int)).Oper)=true∧(k:Int)∉opers (p.take t))):eF l p t=false:=by
 unfold eF
 rw [Bool.and_eq_false_iff]
 right
 rw [List.any_eq_false]
 intro k hk
 rw [List.mem_range] at hk
 have:=hn k hk
 simpa using this
theorem v34 (l:List ab) (p:List aa):VC34 l p (fun r=>r=cW l p):=by
 unfold VC34
 intro hl hp
 simp only [sm] at hl hp
 refine ⟨fun m x=>∃ t:Nat,x=t∧t≤p.length∧Km l m p t∧∀ y:Nat,y < t→eF l p y=false,fun _ x=>(p.length - x).toNat,⟨0,rfl,by omega,fun k=>⟨Int.le_refl 0,Int.le_refl 0,fun _ _=>by simp [opers,aF]⟩,fun y hy=>by omega⟩,?_⟩
 rintro m _ ⟨t,rfl,ht,hm,hb⟩
 refine ⟨fun h=>?_,fun h=>?_⟩
 ·rw [decide_eq_true_eq] at h
  have Mo:=xq (p:=p) (t:=t) (by omega)
  have hw:IntKind.i64.wrap ((t:Int)+1)=((t+1:Nat):Int):=by rw [wrp (by omega) (by omega)]; rfl
  refine ⟨⟨by omega,by omega⟩,fun hq=>?_,fun hq=>?_⟩
  ·rw [Bool.or_eq_true,decide_eq_true_eq,decide_eq_true_eq] at hq
   unfold VC34_J2
   rw [hw]
   refine ⟨⟨t+1,rfl,by omega,fun k=>?_,fun y hy=>?_⟩,by dsimp only; omega⟩
   ·obtain ⟨a1,a2,a3⟩:=hm k
    refine ⟨a1,by omega,fun b1 b2=>?_⟩
    rw [a3 b1 b2,Mo,List.mem_append,List.mem_singleton]
    constructor
    ·rintro hk (hk2 | hk2)
     ·exact hk hk2
     ·omega
    ·intro hk hk2; exact hk (Or.inl hk2)
   ·by_cases Mm:y < t
    ·exact hb y Mm
    ·have:y=t:=by omega
     subst this
     unfold eF
     rw [Bool.and_eq_false_iff]; left
     rw [decide_eq_false_iff_not]; omega
  ·rw [Bool.or_eq_false_iff,decide_eq_false_iff_not,decide_eq_false_iff_not] at hq
   have hin:0≤(gi p (t:Int)).Oper∧(gi p (t:Int)).Oper < l.length:=by omega
   refine ⟨fun x=>∃ u:Nat,x=u∧u≤l.length∧∀ k:Nat,k < u→¬ (bl (gi l (k:Int)) (gi l (gi p (t:Int)).Oper)=true∧(k:Int)∉opers (p.take t)),fun x=>(l.length - x).toNat,⟨0,rfl,by omega,fun k hk=>by omega⟩,?_⟩
   rintro _ ⟨u,rfl,hu,hk⟩
   have G7:u < l.length→IntKind.i64.wrap ((u:Int)+1)=((u+1:Nat):Int):=fun _=>by rw [wrp (by omega) (by omega)]; rfl
   refine ⟨fun h2=>?_,fun h2=>?_⟩
   ·rw [decide_eq_true_eq] at h2
    refine ⟨⟨by omega,by omega⟩,hin,?_⟩
    rintro _ rfl
    obtain ⟨a1,a2,a3⟩:=hm (u:Int)
    have next:¬ (bl (gi l (u:Int)) (gi l (gi p (t:Int)).Oper)=true∧(u:Int)∉opers (p.take t))→∀ k:Nat,k < u+1→¬ (bl (gi l (k:Int)) (gi l (gi p (t:Int)).Oper)=true∧(k:Int)∉opers (p.take t)):=by
     intro hn k MH
     by_cases hk2:k < u
     ·exact hk k hk2
     ·have:k=u:=by omega
      subst this; exact hn
    refine ⟨fun ha=>?_,fun ha=>?_⟩
    ·unfold VC34_J4
     refine ⟨fun hz=>?_,fun hz=>?_⟩
     ·rw [beq_iff_eq,a3 (by omega) (by omega)] at hz
      exact (BM (by omega) (uu hin (by omega) ha hz) hb).symm
     ·rw [beq_eq_false_iff_ne] at hz
      rw [G7 (by omega)]
      exact ⟨⟨u+1,rfl,by omega,next (fun hn=>hz ((a3 (by omega) (by omega)).mpr hn.2))⟩,by dsimp only; omega⟩
    ·unfold VC34_J4
     refine ⟨(fun hz=>by cases hz),fun hz=>?_⟩
     rw [G7 (by omega)]
     exact ⟨⟨u+1,rfl,by omega,next (fun hn=>by rw [ha] at hn; cases hn.1)⟩,by dsimp only; omega⟩
   ·rw [decide_eq_false_iff_not] at h2
    have:u=l.length:=by omega
    subst this
    unfold VC34_J3 VC34_J2
    rw [hw]
    have Ao:=hm (gi p (t:Int)).Oper
    rw [wrp (by omega) (by omega)]
    refine ⟨⟨t+1,rfl,by omega,fun k=>?_,fun y hy=>?_⟩,by dsimp only; omega⟩
    ·obtain ⟨a1,a2,a3⟩:=hm k
     rw [fm]
     by_cases he:k=(gi p (t:Int)).Oper
     ·rw [if_pos he]
      show 0≤(aF m (gi p (t:Int)).Oper).getD 0+1∧(aF m (gi p (t:Int)).Oper).getD 0+1≤_∧(_→_→((aF m (gi p (t:Int)).Oper).getD 0+1=0↔_))
      refine ⟨by omega,by omega,fun _ _=>⟨fun h=>by omega,fun h=>?_⟩⟩
      rw [Mo] at h
      exact absurd (by rw [he]; simp) h
     ·rw [if_neg he]
      refine ⟨a1,by omega,fun b1 b2=>?_⟩
      rw [a3 b1 b2,Mo]
      simp [he]
    ·by_cases Mm:y < t
     ·exact hb y Mm
     ·have:y=t:=by omega
      subst this
      exact uv hk
 ·rw [decide_eq_false_iff_not] at h
  have:t=p.length:=by omega
  subst this
  exact (vm hb).symm
theorem AE {l:List ab} (h:(c7 l).2=0):l.length≤5000:=by
 unfold c7 at h
 split at h
 ·cases h
 ·omega
theorem v51 (o:aj) (l:List ab) (p:List aa) (hp:lq o l p):VC51 o l p (fun r=>r=eV o l p):=by
 unfold VC51 eV
 intro _ _ _
 refine ⟨hp.1,?_⟩
 rintro _ rfl _ rfl
 refine ⟨fun h=>?_,fun h=>?_⟩
 ·rw [Bool.or_eq_true,bne_iff_ne,bne_iff_ne] at h
  rw [if_pos h]
 ·rw [Bool.or_eq_false_iff,bne_eq_false_iff_eq,bne_eq_false_iff_eq] at h
  rw [if_neg (by omega)]
  refine ⟨hp,?_⟩
  rintro _ rfl
  refine ⟨fun h2=>?_,fun h2=>?_⟩
  ·rw [bne_iff_ne] at h2
   rw [if_pos h2]
  ·rw [bne_eq_false_iff_eq] at h2
   rw [if_neg (by omega)]
   rintro _ rfl
   refine ⟨fun h3=>?_,fun h3=>?_⟩
   ·rw [decide_eq_true_eq] at h3
    rw [if_pos h3]
   ·rw [decide_eq_false_iff_not] at h3
    rw [if_neg h3]
    have hl:=AE h.2
    refine ⟨show l.length≤_ by omega,?_⟩
    rintro _ rfl _
    refine ⟨fun h4=>?_,fun h4=>?_⟩
    ·rw [decide_eq_true_eq] at h4
     rw [if_pos (by omega)]
     exact ⟨⟨by omega,by omega⟩,rfl⟩
    ·rw [decide_eq_false_iff_not] at h4
     rw [if_neg (by omega)]
theorem v20 (o:aj) (l:List ab) (p:List aa) (hp:lq o l p):VC20 o l p (fun r=>r=dt o l p):=by
 unfold VC20 dt
 intro _ _ _
 refine ⟨hp,?_⟩
 rintro _ rfl
 rfl
theorem v67 (a b:ab):VC67 a b (fun r=>r=jr a b):=rfl
theorem v66 (p:List aa) (i:Int):VC66 p i (fun r=>r=cn p i):=by
 unfold VC66 cn
 intro hs
 simp only [sm] at hs
 refine ⟨fun x=>0≤x∧x≤p.length∧∀ j:Int,0≤j→j < x→(fun q:aa=>q.Oper == i) (gi p j)=false,fun x=>(p.length - x).toNat,⟨by omega,by omega,fun j h0 h1=>by omega⟩,?_⟩
 rintro x ⟨h0,h1,h2⟩
 refine ⟨fun h=>?_,fun h=>?_⟩
 ·rw [decide_eq_true_eq] at h
  refine ⟨⟨h0,h⟩,fun he=>?_,fun he=>?_⟩
  ·rw [qh (f:=fun q:aa=>q.Oper == i) h0 h he h2]
   dsimp only; omega
  ·rw [wrp (by omega) (by omega)]
   refine ⟨⟨by omega,by omega,fun j j0 j1=>?_⟩,by dsimp only; omega⟩
   by_cases hj:j < x
   ·exact h2 j j0 hj
   ·rw [show j=x by omega]; exact he
 ·rw [decide_eq_false_iff_not] at h
  unfold VC66_J1
  rw [qg (f:=fun q:aa=>q.Oper == i) (fun j j0 j1=>h2 j j0 (by omega))]
theorem qM (p:List aa) (i:Int):(cn p i=-1∧i∉opers p)∨∃ k:Nat,k < p.length∧cn p i=k∧(gi p (k:Int)).Oper=i∧∀ j:Nat,j < k→(gi p (j:Int)).Oper≠i:=by
 unfold cn
 cases h:p.findIdx? (fun q=>q.Oper == i) with
 | none =>
  left
  refine ⟨rfl,?_⟩
  rw [List.findIdx?_eq_none_iff] at h
  unfold opers
  rw [List.mem_map]
  rintro ⟨q,hq,rfl⟩
  have:=h q hq
  simp at this
 | some k =>
  right
  rw [List.findIdx?_eq_some_iff_getElem] at h
  obtain ⟨hk,he,hj⟩:=h
  refine ⟨k,hk,rfl,?_,fun j xJ=>?_⟩
  ·rw [bZ _ _ hk]; simpa using he
  ·rw [bZ _ _ (by omega)]; simpa using hj j xJ
theorem sN {p:List aa} {i:Int} {t:Nat} (ht:t≤p.length):i∈opers (p.take t)↔∃ k:Nat,k < t∧(gi p (k:Int)).Oper=i:=by
 unfold opers
 rw [List.mem_map]
 constructor
 ·rintro ⟨q,hq,rfl⟩
  obtain ⟨k,hk,rfl⟩:=List.getElem_of_mem hq
  rw [List.length_take] at hk
  exact ⟨k,by omega,by rw [bZ _ _ (by omega),List.getElem_take]⟩
 ·rintro ⟨k,hk,rfl⟩
  refine ⟨gi p (k:Int),?_,rfl⟩
  rw [bZ _ _ (by omega),List.mem_take_iff_getElem]
  exact ⟨k,by omega,rfl⟩
end Go.Proofs.YteahldlmkheleaaGreat
