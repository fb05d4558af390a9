/- Plain lemmas about the specification functions. Conditions: in each lemma. -/
import Derived.Test.YtobeanopikjkeaaGreatGV0
set_option linter.all false
namespace Go.Proofs.YtobeanopikjkeaaGreat
open Go Go.Sv Go.Pu
theorem v162 (l:List ae) (h:gA l):VC162 l (fun r=>r=gn l):=by
 have hl:l.length≤5000:=h
 unfold VC162
 intro _
 simp only [decide_eq_true_eq,decide_eq_false_iff_not]
 refine ⟨fun out x=>∃ t:Nat,x=t∧t≤l.length∧out=((List.range t).filter (fun (i:Nat)=>(gi l (i:Int)).End == -1)).map Int.ofNat,fun _ x=>(l.length - x).toNat,⟨0,rfl,by omega,rfl⟩,?_⟩
 rintro _ _ ⟨t,rfl,ht,rfl⟩
 refine ⟨fun hx=>⟨⟨by omega,hx⟩,fun hc=>?_,fun hc=>?_⟩,fun hx=>?_⟩
 ·have hq:(((List.range t).filter (fun (i:Nat)=>(gi l (i:Int)).End == -1)).map Int.ofNat).length≤t:=by
   rw [List.length_map]
   exact Nat.le_trans (List.length_filter_le _ _) (by simp)
  refine ⟨by simp only [List.length_cons,List.length_nil]; omega,?_⟩
  unfold VC162_J2
  rw [wrp (by omega) (by omega)]
  refine ⟨⟨t+1,by simp,by omega,?_⟩,by dsimp only; omega⟩
  rw [List.range_succ,List.filter_append,List.map_append]
  simp [hc]
 ·unfold VC162_J2
  rw [wrp (by omega) (by omega)]
  refine ⟨⟨t+1,by simp,by omega,?_⟩,by dsimp only; omega⟩
  rw [List.range_succ,List.filter_append,List.map_append]
  simp [hc]
 ·have:t=l.length:=by omega
  subst this
  rfl
theorem v34 (o:ah) (l:List ae) (h:jG o l):VC34 o l (fun r=>r=au o l):=by
 unfold VC34
 refine fun _ _=>⟨h,?_⟩
 rintro _ rfl _ rfl
 unfold au
 refine ⟨fun hc=>?_,fun hc=>?_⟩
 ·rw [if_neg]
  rintro ⟨h1,h2⟩
  simp [h1,h2] at hc
 ·simp only [Bool.or_eq_false_iff,bne_eq_false_iff_eq] at hc
  rw [if_pos hc]
theorem v210 (n:Int):VC210 n (fun r=>r=dJ n):=rfl
theorem v157 (s:aa):VC157 s (fun r=>r=cW s):=by
 unfold VC157; rintro _ rfl; rfl
theorem v158 (s:aa):VC158 s (fun r=>r=gw s):=by
 unfold VC158
 rintro _ rfl
 unfold gw
 refine ⟨fun h=>?_,fun h=>?_⟩
 ·rw [if_pos (by simpa using h)]
 ·rintro _ rfl
  rw [if_neg (by simpa using h)]
theorem v159 (s:aa) (n:Int):VC159 s n (fun r=>r=gU s n):=by
 unfold VC159
 rintro _ rfl
 unfold gU
 refine ⟨fun h=>?_,fun h=>?_⟩
 ·rw [if_pos h]
 ·rintro _ rfl
  rw [if_neg (by rw [h]; decide)]
theorem v160 (s:aa):VC160 s (fun r=>r=gv s):=by
 unfold VC160
 rintro _ rfl
 unfold gv
 refine ⟨fun h=>?_,fun h=>?_⟩
 ·rw [if_pos (by simpa using h)]
 ·rintro _ rfl
  rw [if_neg (by simpa using h)]
theorem v161 (s:aa) (n:Int):VC161 s n (fun r=>r=gW s n):=by
 unfold VC161
 rintro _ rfl
 unfold gW
 refine ⟨fun h=>?_,fun h=>?_⟩
 ·rw [if_pos h]
 ·rw [if_neg (by rw [h]; decide)]
theorem v163 (n c:Int):VC163 n c (fun r=>r=gX n c):=rfl
theorem v116 (s:aa) (l:List ae):VC116 s l (fun r=>r=fX s l):=by
 unfold VC116
 intro _
 rintro _ rfl
 have no:((bp l).2≠0∨cW s=false∨(l.length:Int)≠s.Ops)→VC116_J1 s l (fun r=>r=fX s l) true:=by
  intro h
  unfold VC116_J1
  refine ⟨fun _=>?_,fun h=>by cases h⟩
  unfold fX
  rw [if_pos h]
 refine ⟨fun h=>no (.inl (by simpa using h)),fun h=>?_⟩
 have h0:(bp l).2=0:=by simpa using h
 have hl:gA l:=by
  unfold gA
  unfold bp at h0
  split at h0
  ·simp at h0
  ·omega
 rintro _ rfl
 by_cases hb:((!cW s) || (((l.length:Nat):Int) != s.Ops))=true
 ·rw [hb]
  refine no (.inr ?_)
  simpa using hb
 ·have hb:((!cW s) || (((l.length:Nat):Int) != s.Ops))=false:=by simpa using hb
  rw [hb]
  unfold VC116_J1
  refine ⟨fun h=>by (cases h),fun _=>?_⟩
  rintro _ rfl
  refine ⟨hl,?_⟩
  rintro _ rfl _ rfl _ rfl
  refine ⟨hl,?_⟩
  rintro _ rfl _ rfl
  have hn:¬ ((bp l).2≠0∨cW s=false∨(l.length:Int)≠s.Ops):=by
   simp only [Bool.or_eq_false_iff,bne_eq_false_iff_eq] at hb
   rintro (h | h | h)
   ·exact h h0
   ·rw [h] at hb; simp at hb
   ·exact h hb.2
  refine ⟨fun x a=>∃ t:Nat,x=t∧t≤4∧a=((yv s l).take t).foldl (fun a n=>gX n a) 0,fun x _=>(4 - x).toNat,⟨0,rfl,by omega,rfl⟩,?_⟩
  rintro _ _ ⟨t,rfl,ht,rfl⟩
  refine ⟨fun hx=>?_,fun hx=>?_⟩
  ·have hx:(t:Int) < 4:=by simpa using hx
   refine ⟨⟨by omega,hx⟩,?_⟩
   rintro _ rfl
   rw [wrp (by omega) (by omega)]
   refine ⟨⟨t+1,by simp,by omega,?_⟩,by dsimp only; omega⟩
   have h4:t=0∨t=1∨t=2∨t=3:=by omega
   rcases h4 with rfl | rfl | rfl | rfl <;> rfl
  ·have:t=4:=by simp at hx; omega
   subst this
   unfold VC116_J2 fX
   rw [if_neg hn]
   rfl
theorem v57 (s:aa) (l:List ae):VC57 s l (fun r=>r=fu s l):=by
 unfold VC57
 intro _
 rintro _ rfl
 unfold fu
 refine ⟨fun h=>?_,fun h=>?_⟩
 ·rw [if_pos (by simpa using h)]
 ·rw [if_neg (by simpa using h)]
  refine ⟨fun h=>?_,fun h=>?_⟩
  ·refine ⟨fun _=>?_,fun h=>by cases h⟩
   rw [if_pos (.inl (by simpa using h))]
  ·rintro _ rfl
   refine ⟨fun h2=>?_,fun h2=>?_⟩
   ·rw [if_pos (.inr (by simpa using h2))]
   ·rw [if_neg]
    rintro (h3 | h3)
    ·simp [h3] at h
    ·simp [h3] at h2
theorem v18 (o:ah) (l:List ae) (h:jG o l):VC18 o l (fun r=>r=bo o l):=by
 unfold VC18
 refine fun _ _=>⟨h,?_⟩
 rintro _ rfl _ rfl
 unfold bo
 refine ⟨fun hc=>?_,fun hc=>?_⟩
 ·rw [if_pos (by simpa using hc)]
 ·simp only [Bool.or_eq_false_iff,bne_eq_false_iff_eq] at hc
  rw [if_neg (by rintro (h | h); exact h hc.1; exact h hc.2)]
  refine ⟨fun h2=>?_,fun h2=>?_⟩
  ·rw [if_pos (by simpa using h2)]
  ·rw [if_neg (by simpa using h2)]
   refine ⟨h,?_⟩
   rintro _ rfl _ rfl
   rfl
theorem v32 (o:ah) (l:List ae) (h:jG o l):VC32 o l (fun r=>r=eL o l):=by
 unfold VC32
 refine fun _ _=>⟨h,?_⟩
 rintro _ rfl _ rfl
 unfold eL bo
 refine ⟨fun hc=>?_,fun hc=>?_⟩
 ·rw [if_pos (by simpa using hc)]
 ·simp only [Bool.or_eq_false_iff,bne_eq_false_iff_eq] at hc
  rw [if_neg (by rintro (h | h); exact h hc.1; exact h hc.2)]
  refine ⟨fun h2=>?_,fun h2=>?_⟩
  ·rw [if_pos (by simpa using h2)]
  ·rw [if_neg (by simpa using h2)]
   refine ⟨h,?_⟩
   rintro _ rfl _ rfl
   rfl
theorem v39 (s:aa) (i:Int):VC39 s i (fun r=>r=kg s i):=by
 unfold VC39; rintro _ rfl; rfl
theorem v72 (t:eF) (x:ae) (st:Int):VC72 t x st (fun r=>r=dI t x st):=by
 unfold VC72
 intro _
 rintro _ rfl
 unfold dI fM eQ
 refine ⟨fun h=>?_,fun h=>?_⟩
 ·rw [if_pos (by simpa using h)]
 ·rw [if_neg]
  intro h'
  have:((!(aZ t.o st x.Kind).2.2) || ((x.End != (-1)) && (x.Result != (aZ t.o st x.Kind).2.1)))=true:=by simpa using h'
  rw [h] at this
  cases this
theorem v71 (s:aa):VC71 s (fun r=>r=iJ s):=rfl
theorem v117 (k a b:Int) (s:aa):VC117 k a b s (fun r=>r=cI k a b s):=by
 unfold VC117; rintro _ rfl; rfl
theorem v124 (o:ah) (x:ae) (st:Int):VC124 o x st (fun r=>r=jq o x st):=by
 unfold VC124
 intro _
 rintro _ rfl; rfl
theorem v58 (l:List Int) (hp:Bs l):VC58 l (fun r=>r=dw l):=by
 have hp:l.length≤1000000:=hp
 unfold VC58
 intro hs b hb
 refine ⟨fun h=>(hb h).symm,fun _=>⟨by simp only [List.length_nil]; omega,by simp [dw]⟩⟩
theorem v27 (f:aL):VC27 f (fun r=>r=bA f):=by
 unfold VC27
 intro _
 rintro _ rfl
 unfold bA
 refine ⟨fun h=>?_,fun h=>?_⟩
 ·rw [if_pos (by simpa using h)]
 ·rw [if_neg (by simpa using h)]
  refine ⟨fun h=>?_,fun h=>?_⟩
  ·rw [if_pos (by simpa using h)]
  ·rw [if_neg (by simpa using h)]
theorem v76 (p:aE) (m:Int):VC76 p m (fun r=>r=bV p m):=rfl
theorem v118_76 (l:List aE) (m:Int):VC118_76 l m (fun r=>r=aM l m):=by
 unfold VC118_76
 intro hs
 unfold sm at hs
 simp only [decide_eq_true_eq,decide_eq_false_iff_not]
 refine ⟨fun x=>0≤x∧x≤l.length∧∀ j:Int,0≤j→j < x→bV (gi l j) m=false,fun x=>(l.length - x).toNat,⟨by omega,by omega,by omega⟩,?_⟩
 rintro x ⟨h0,h1,h2⟩
 refine ⟨fun hx=>⟨⟨h0,hx⟩,?_⟩,fun hx=>?_⟩
 ·rintro _ rfl
  refine ⟨fun h=>?_,fun h=>?_⟩
  ·unfold aM
   rw [pT (f:=fun p=>bV p m) h0 hx h h2]
   show x=((x.toNat:Nat):Int)
   omega
  ·rw [wrp (by omega) (by omega)]
   refine ⟨⟨by omega,by omega,fun j hj hj2=>?_⟩,by dsimp only; omega⟩
   by_cases e:j=x
   ·subst e; exact h
   ·exact h2 j hj (by omega)
 ·unfold VC118_76_J1 aM
  rw [pS (f:=fun p=>bV p m) (fun j hj hj2=>h2 j hj (by omega))]
theorem v77_76 (l:List aE) (m:Int):VC77_76 l m (fun r=>r=aK l m):=by
 unfold VC77_76
 intro _
 rintro _ rfl
 unfold aM aK
 cases h:l.findIdx? (fun p=>bV p m) with
 | none =>
  have h:=List.findIdx?_eq_none_iff.1 h
  have:(l.any fun p=>bV p m)=false:=by simpa using h
  rw [this]; rfl
 | some i =>
  obtain ⟨hi,h1,_⟩:=List.findIdx?_eq_some_iff_getElem.1 h
  have:(l.any fun p=>bV p m)=true:=List.any_eq_true.2 ⟨_,List.getElem_mem hi,h1⟩
  rw [this]
  simp
end Go.Proofs.YtobeanopikjkeaaGreat
namespace Go.Proofs.YtobeanopikjkeaaGreat
open Go Go.Sv Go.Pu
theorem Io (o:ah) (l:List ae) (s:aa) (i k b:Nat):(mg o l s i k b).length≤2:=by
 unfold mg; split <;> simp
theorem FC (o:ah) (l:List ae) (s:aa) (i k b:Nat):((List.range b).flatMap (mg o l s i k)).length≤b * 2:=by
 have:=mq (Io o l s i k) (List.range b)
 rwa [List.length_range] at this
theorem LV (o:ah) (l:List ae) {s:aa} (h:s.ab≤32) (i k:Nat):(mvK o l s i k).length≤64:=by
 have:=FC o l s i k s.ab.toNat
 unfold mvK; omega
theorem BE (o:ah) (l:List ae) {s:aa} (h:s.ab≤32) (i u:Nat):((List.range u).flatMap (mvK o l s i)).length≤u * 64:=by
 have:=mq (LV o l h i) (List.range u)
 rwa [List.length_range] at this
theorem BD (o:ah) (l:List ae) {s:aa} (h0:s.Ops≤64) (h:s.ab≤32) (i:Nat):(oD o l s i).length≤5000:=by
 have:=BE o l h i s.Ops.toNat
 unfold oD
 rw [List.length_append]
 have:(if (gi l (i:Int)).End=-1 then ([]:List (List Int)) else [[gL s (i:Int)]]).length≤1:=by split <;> simp
 omega
theorem J6 (o:ah) (l:List ae) (s:aa) (t u b:Nat) (I3:(List (List Int))→Int→Prop) (μ3:(List (List Int))→Int→Nat) (out:List (List Int)) (c:List Int) (hu:u≤1000)
  (hc:c=mf o l s t u b) (hlen:out.length≤1000000) (k:VC24_J5 I3 μ3 out b (out++mg o l s t u b)):VC24_J6 l s t (gL s t) u I3 μ3 out b (dp s t u) (bL s u b) out c:=by
 unfold VC24_J6
 subst hc
 rw [wrp (by omega) (by omega)]
 refine ⟨by simp only [List.length_cons,List.length_nil]; omega,fun he=>?_,fun he=>?_⟩
 ·rintro _ rfl
  refine ⟨by simp only [List.length_append,List.length_cons,List.length_nil]; omega,?_⟩
  have he:(gi l (t:Int)).End=-1:=by simpa using he
  have e:out++mg o l s t u b=(out++[mf o l s t u b])++[[IntKind.i64.wrap (0 - dp s t u),gL s t,IntKind.i64.wrap (0 - bL s u b),cI 3 ((u:Int)+1) b s]]:=by
   unfold mg; rw [if_pos he]; simp [jW,cI,bL]
  rw [e] at k
  exact k
 ·have he:¬ (gi l (t:Int)).End=-1:=by simpa using he
  have e:out++mg o l s t u b=out++[mf o l s t u b]:=by unfold mg; rw [if_neg he]
  rw [e] at k
  exact k
theorem J7 (o:ah) (l:List ae) (s:aa) (t:Nat) (I1:(List (List Int))→Int→Prop) (μ1:(List (List Int))→Int→Nat) (out vX:List (List Int)) (h0:0≤s.Ops) (h1:s.Ops≤64) (h2:1≤s.ab) (h3:s.ab≤32)
  (hlen:vX.length≤100000) (k:VC24_J2 I1 μ1 out t (vX++(List.range s.Ops.toNat).flatMap (mvK o l s t))):VC24_J3 o l s s I1 μ1 out t (gL s t) vX:=by
 unfold VC24_J3
 refine ⟨fun q y=>∃ u:Nat,y=u∧u≤s.Ops.toNat∧q=vX++(List.range u).flatMap (mvK o l s t),fun _ y=>(s.Ops - y).toNat,⟨0,rfl,by omega,by simp⟩,?_⟩
 rintro _ _ ⟨u,rfl,hu,rfl⟩
 have hA:=BE o l h3 t u
 refine ⟨fun hy=>?_,fun hy=>?_⟩
 ·have hy:(u:Int) < s.Ops:=by simpa using hy
  refine ⟨fun q z=>∃ b:Nat,z=b∧b≤s.ab.toNat∧q=vX++(List.range u).flatMap (mvK o l s t)++(List.range b).flatMap (mg o l s t u),fun _ z=>(s.ab - z).toNat,⟨0,rfl,by omega,by simp⟩,?_⟩
  rintro _ _ ⟨b,rfl,hb,rfl⟩
  have hB:=FC o l s t u b
  have hL:(vX++(List.range u).flatMap (mvK o l s t)++(List.range b).flatMap (mg o l s t u)).length≤1000000:=by
   simp only [List.length_append]; omega
  refine ⟨fun hz=>?_,fun hz=>?_⟩
  ·have hz:(b:Int) < s.ab:=by simpa using hz
   rintro _ rfl _ rfl _ rfl
   have fin:VC24_J5 (fun q z=>∃ b:Nat,z=b∧b≤s.ab.toNat∧q=vX++(List.range u).flatMap (mvK o l s t)++(List.range b).flatMap (mg o l s t u)) (fun _ z=>(s.ab - z).toNat)
     (vX++(List.range u).flatMap (mvK o l s t)++(List.range b).flatMap (mg o l s t u)) b (vX++(List.range u).flatMap (mvK o l s t)++(List.range b).flatMap (mg o l s t u)++mg o l s t u b):=by
    unfold VC24_J5
    rw [wrp (by omega) (by omega)]
    refine ⟨⟨b+1,by simp,by omega,?_⟩,by dsimp only; omega⟩
    rw [kD]; simp only [List.append_assoc]
   refine ⟨fun hm=>?_,fun hm=>?_⟩
   ·rintro _ rfl
    refine ⟨by simp,?_⟩
    refine J6 o l s t u b _ _ _ _ (by omega) ?_ hL fin
    have hm:(fM o (gi l (t:Int)) b).2=true:=hm
    unfold mf
    rw [if_pos hm,wrp (n:=(u:Int)+1) (by omega) (by omega)]
    rfl
   ·refine J6 o l s t u b _ _ _ _ (by omega) ?_ hL fin
    have hm:(fM o (gi l (t:Int)) b).2=false:=hm
    unfold mf
    rw [if_neg (by rw [hm]; decide)]
    rfl
  ·have:b=s.ab.toNat:=by simp at hz; omega
   subst this
   unfold VC24_J4
   rw [wrp (by omega) (by omega)]
   refine ⟨⟨u+1,by simp,by omega,?_⟩,by dsimp only; omega⟩
   rw [kD,List.append_assoc]
   rfl
 ·have:u=s.Ops.toNat:=by simp at hy; omega
  subst this
  exact k
theorem v24 (o:ah) (l:List ae) (h:q9 o l):VC24 o l (fun r=>r=cJ o l):=by
 obtain ⟨ho,hl⟩:=h
 unfold VC24
 refine fun _ _=>⟨ho,?_⟩
 rintro _ rfl _ rfl
 refine ⟨fun hc=>?_,fun hc=>?_⟩
 ·unfold cJ
  rw [if_neg (by simpa using hc)]
 ·have hc:ao (au o l)=0:=by simpa using hc
  rintro _ rfl
  obtain ⟨c0,c1,c2,c3⟩:=fb hc
  have KO:=BD o l c1 c3
  refine ⟨fun out x=>∃ t:Nat,x=t∧t≤l.length∧out=(List.range t).flatMap (oD o l (au o l)),fun _ x=>(l.length - x).toNat,⟨0,rfl,by omega,rfl⟩,?_⟩
  rintro _ _ ⟨t,rfl,ht,rfl⟩
  have hA:=mq KO (List.range t)
  rw [List.length_range] at hA
  refine ⟨fun hx=>?_,fun hx=>?_⟩
  ·have hx:(t:Int) < l.length:=by simpa using hx
   refine ⟨⟨by omega,hx⟩,?_⟩
   rintro _ rfl
   have fin:∀ q,q=oD o l (au o l) t→VC24_J2 (fun out x=>∃ t:Nat,x=t∧t≤l.length∧out=(List.range t).flatMap (oD o l (au o l))) (fun _ x=>(l.length - x).toNat)
     ((List.range t).flatMap (oD o l (au o l))) t ((List.range t).flatMap (oD o l (au o l))++q):=by
    rintro q rfl
    unfold VC24_J2
    rw [wrp (by omega) (by omega)]
    exact ⟨⟨t+1,by simp,by omega,by rw [kD]⟩,by dsimp only; omega⟩
   refine ⟨fun he=>⟨?_,?_⟩,fun he=>?_⟩
   ·simp only [List.length_cons,List.length_nil]; omega
   ·have he:¬ (gi l (t:Int)).End=-1:=by simpa using he
    refine J7 o l _ t _ _ _ _ c0 c1 c2 c3 (by simp only [List.length_append,List.length_cons,List.length_nil]; omega) ?_
    rw [List.append_assoc]
    refine fin _ ?_
    unfold oD
    rw [if_neg he]
    rfl
   ·have he:(gi l (t:Int)).End=-1:=by simpa using he
    refine J7 o l _ t _ _ _ _ c0 c1 c2 c3 (by omega) ?_
    refine fin _ ?_
    unfold oD
    rw [if_pos he]
    rfl
  ·have:t=l.length:=by simp at hx; omega
   subst this
   unfold VC24_J1 cJ
   rw [if_pos hc]
theorem v19 (parts:List (List (List Int))) (h:Br parts):VC19 parts (fun r=>r=fP parts):=by
 obtain ⟨h0,h1,h2⟩:=h
 unfold VC19
 intro _
 have tk:∀ {α:Type} [Inhabited α] (L:List (List α)) (t:Nat),t < L.length→(L.take (t+1)).flatten=(L.take t).flatten++gi L (t:Int):=by
  intro α _ L t ht
  have:=nu (l:=L) (i:=(t:Int)) (by omega) (by omega)
  rw [show ((t:Int)+1).toNat=t+1 by omega,show ((t:Int)).toNat=t by omega] at this
  rw [this]; simp
 have le:∀ t,(parts.take t).flatten.length≤parts.flatten.length:=by
  intro t
  have:parts.flatten=(parts.take t).flatten++(parts.drop t).flatten:=by rw [← List.flatten_append,List.take_append_drop]
  rw [this,List.length_append]; omega
 refine ⟨fun out x=>∃ t:Nat,x=t∧t≤parts.length∧out=(parts.take t).flatten,fun _ x=>(parts.length - x).toNat,⟨0,rfl,by omega,rfl⟩,?_⟩
 rintro _ _ ⟨t,rfl,ht,rfl⟩
 refine ⟨fun hx=>?_,fun hx=>?_⟩
 ·have hx:(t:Int) < parts.length:=by simpa using hx
  refine ⟨⟨by omega,hx⟩,?_⟩
  have hm:gi parts (t:Int)∈parts:=gS (by omega) hx
  have hT:=le (t+1)
  rw [tk parts t (by omega),List.length_append] at hT
  try intro _
  refine ⟨fun q y=>∃ u:Nat,y=u∧u≤(gi parts (t:Int)).length∧q=(parts.take t).flatten++(gi parts (t:Int)).take u,fun _ y=>((gi parts (t:Int)).length - y).toNat,⟨0,rfl,by omega,by simp⟩,?_⟩
  rintro _ _ ⟨u,rfl,hu,rfl⟩
  refine ⟨fun hy=>?_,fun hy=>?_⟩
  ·have hy:(u:Int) < (gi parts (t:Int)).length:=by simpa using hy
   refine ⟨⟨by omega,hy⟩,?_⟩
   intro _
   refine ⟨h2 _ hm _ (gS (by omega) hy),?_⟩
   rintro _ rfl
   try intro _
   rw [wrp (by omega) (by omega)]
   refine ⟨by simp only [List.length_append,List.length_take,List.length_cons,List.length_nil]; omega,⟨u+1,by simp,by omega,?_⟩,by dsimp only; omega⟩
   have:=nu (l:=gi parts (t:Int)) (i:=(u:Int)) (by omega) hy
   rw [show ((u:Int)+1).toNat=u+1 by omega,show ((u:Int)).toNat=u by omega] at this
   rw [this,List.append_assoc]; rfl
  ·have:u=(gi parts (t:Int)).length:=by simp at hy; omega
   subst this
   unfold VC19_J2
   rw [wrp (by omega) (by omega)]
   refine ⟨⟨t+1,by simp,by omega,?_⟩,by dsimp only; omega⟩
   rw [tk parts t (by omega),List.take_length]
 ·have:t=parts.length:=by simp at hx; omega
  subst this
  unfold VC19_J1 fP
  rw [List.take_length]
end Go.Proofs.YtobeanopikjkeaaGreat
namespace Go.Proofs.YtobeanopikjkeaaGreat
open Go Go.Sv Go.Pu
theorem jR {o:ah} {l:List ae} (h:(bo o l).2=0) :
  (bo o l).1=au o l∧(bq o).2=0∧(bp l).2=0∧au o l=⟨(l.length:Int),o.ab⟩∧ao (au o l)=0:=by
 unfold bo at h ⊢
 split at h
 ·simp at h
 ·rename_i h1
  split at h
  ·simp at h
  ·rename_i h2
   rw [if_neg h1,if_neg h2]
   have h3:(bq o).2=0∧(bp l).2=0:=by
    constructor
    ·exact Classical.byContradiction fun h=>h1 (.inl h)
    ·exact Classical.byContradiction fun h=>h1 (.inr h)
   refine ⟨rfl,h3.1,h3.2,by unfold au; rw [if_pos h3],?_⟩
   have h:fu (au o l) l=0:=h
   unfold fu at h
   split at h
   ·simp at h
   ·rename_i h4
    unfold fX at h4
    split at h4
    ·exact absurd rfl h4
    ·rename_i h5
     exact Classical.byContradiction fun h=>h5 (.inr (.inl (by unfold cW; simp [h])))
theorem v123 (l:List ae) (order:List Int) (in_:List Bool):VC123 l order in_ (fun r=>r=dZ l order in_):=by
 unfold VC123
 intro hl _ _
 unfold sm at hl
 refine ⟨fun h=>?_,fun h=>?_⟩
 ·unfold dZ
  rw [decide_eq_false]
  rintro ⟨h1,h2,_⟩
  simp [h1,h2] at h
 ·have h1:order.length=l.length:=by simp at h; omega
  have h2:in_.length=l.length:=by simp at h; omega
  refine ⟨fun x=>∃ t:Nat,x=t∧t≤l.length∧∀ i:Nat,i < t→((i:Nat):Int)∈order∧((gi l (i:Int)).End=-1∨gi in_ (i:Int)=true),fun x=>(l.length - x).toNat,⟨0,rfl,by omega,by omega⟩,?_⟩
  rintro _ ⟨t,rfl,ht,hq⟩
  refine ⟨fun hx=>?_,fun hx=>?_⟩
  ·have hx:(t:Int) < l.length:=by simpa using hx
   refine ⟨⟨by omega,hx⟩,?_⟩
   rintro _ rfl
   have no:¬ (((t:Nat):Int)∈order∧((gi l (t:Int)).End=-1∨gi in_ (t:Int)=true))→VC123_J2 (fun r=>r=dZ l order in_) (fun x=>∃ t:Nat,x=t∧t≤l.length∧∀ i:Nat,i < t→((i:Nat):Int)∈order∧((gi l (i:Int)).End=-1∨gi in_ (i:Int)=true)) (fun x=>(l.length - x).toNat) t true:=by
    intro hn
    refine ⟨fun _=>?_,fun h=>by cases h⟩
    unfold dZ
    rw [decide_eq_false]
    rintro ⟨_,_,h3⟩
    exact hn (h3 t (List.mem_range.2 (by omega)))
   have yes:(((t:Nat):Int)∈order∧((gi l (t:Int)).End=-1∨gi in_ (t:Int)=true))→VC123_J2 (fun r=>r=dZ l order in_) (fun x=>∃ t:Nat,x=t∧t≤l.length∧∀ i:Nat,i < t→((i:Nat):Int)∈order∧((gi l (i:Int)).End=-1∨gi in_ (i:Int)=true)) (fun x=>(l.length - x).toNat) t false:=by
    intro hn
    refine ⟨fun h=>(by cases h),fun _=>?_⟩
    rw [wrp (by omega) (by omega)]
    refine ⟨⟨t+1,by simp,by omega,fun i hi=>?_⟩,by dsimp only; omega⟩
    by_cases e:i=t
    ·subst e; exact hn
    ·exact hq i (by omega)
   unfold cU
   refine ⟨fun hc=>?_,fun hc=>?_⟩
   ·refine no ?_
    rintro ⟨h,_⟩
    simp [h] at hc
   ·have hc:((t:Nat):Int)∈order:=by simpa using hc
    refine ⟨fun he=>?_,fun he=>?_⟩
    ·have he:¬ (gi l (t:Int)).End=-1:=by simpa using he
     refine ⟨⟨by omega,by omega⟩,?_⟩
     cases hg:gi in_ (t:Int) with
     | true=>exact yes ⟨hc,.inr hg⟩
     | false =>
      refine no ?_
      rintro ⟨_,h | h⟩
      ·exact he h
      ·rw [hg] at h; cases h
    ·have he:(gi l (t:Int)).End=-1:=by simpa using he
     exact yes ⟨hc,.inl he⟩
  ·have:t=l.length:=by simp at hx; omega
   subst this
   unfold VC123_J1 dZ
   rw [decide_eq_true]
   exact ⟨h1,h2,fun i hi=>hq i (List.mem_range.1 hi)⟩
theorem vL:∀ (a b:List Int),a.Nodup→(∀ x∈a,x∈b)→a.length≤b.length
 | [],_,_,_=>Nat.zero_le _
 | x :: a,b,hd,hs=>by
  have hx:x∈b:=hs x (by simp)
  have hd':=List.nodup_cons.1 hd
  have:=vL a (b.erase x) hd'.2 (fun y hy=>by
   have hne:y≠x:=fun e=>hd'.1 (e ▸ hy)
   exact (List.mem_erase_of_ne hne).2 (hs y (by simp [hy])))
  rw [List.length_erase_of_mem hx] at this
  have:0 < b.length:=List.length_pos_of_mem hx
  simp only [List.length_cons]
  omega
theorem iX (n:Nat):((List.range n).map Int.ofNat).Nodup:=by
 rw [List.nodup_iff_pairwise_ne,List.pairwise_map]
 exact (List.nodup_iff_pairwise_ne.1 List.nodup_range).imp fun h e=>h (Int.ofNat.inj e)
theorem uF {l:List ae} {order:List Int} {in_:List Bool} (h:jV l order in_):∀ x∈order,0≤x∧x < l.length:=by
 intro x hx
 obtain ⟨h1,h2,h3⟩:=h
 refine Classical.byContradiction fun hn=>?_
 have:=vL ((List.range l.length).map Int.ofNat) (order.erase x) (iX _) (fun y hy=>by
  obtain ⟨i,hi,rfl⟩:=List.mem_map.1 hy
  have wC:=List.mem_range.1 hi
  refine (List.mem_erase_of_ne (fun e=>hn ?_)).2 (h3 i hi).1
  rw [← e]
  show (0:Int)≤(i:Int)∧(i:Int) < l.length
  omega)
 rw [List.length_erase_of_mem hx,List.length_map,List.length_range] at this
 have:0 < order.length:=List.length_pos_of_mem hx
 omega
theorem qv {o:ah} {l:List ae} {in_:List Bool}:∀ {order:List Int} {st:Int} {r:List Int},iI o l in_ order st=some r→r.length=order.length
 | [],st,r,h=>by cases h; rfl
 | i :: q,st,r,h=>by
  unfold iI at h
  split at h
  ·split at h
   ·cases hp:iI o l in_ q (fM o (gi l i) st).1 with
    | none=>rw [hp] at h; cases h
    | some y=>rw [hp] at h; cases h; simp [qv hp]
   ·cases h
  ·cases hp:iI o l in_ q st with
   | none=>rw [hp] at h; cases h
   | some y=>rw [hp] at h; cases h; simp [qv hp]
def rb (out:List Int):Option (List Int)→List Int × Bool
 | some r=>(out++r,true)
 | none=>([],false)
theorem sU (out:List Int) (x:Int) (y:Option (List Int)):rb out (y.map (fun q=>x :: q))=rb (out++[x]) y:=by
 cases y <;> simp [rb]
theorem IY (q:List Int) (x:Int):gi (q++[x]) ((q.length:Nat):Int)=x:=by
 rw [cA _ _ (by simp)]; simp
theorem v83 (o:ah) (l:List ae) (order:List Int) (in_:List Bool) (h:Bp o l order in_):VC83 o l order in_ (fun r=>r=b6 o l order in_):=by
 obtain ⟨ho,hl⟩:=h
 unfold VC83
 refine fun _ _ _ _=>⟨ho,?_⟩
 rintro _ rfl _ rfl
 have no:¬ (ao (au o l)=0∧jV l order in_)→VC83_J1 o l order in_ (fun r=>r=b6 o l order in_) true:=by
  intro hn
  refine ⟨fun _=>?_,fun h=>by cases h⟩
  unfold b6
  rw [if_neg hn]
 refine ⟨fun hc=>no ?_,fun hc=>?_⟩
 ·rintro ⟨h,_⟩
  simp [h] at hc
 ·have hc:ao (au o l)=0:=by simpa using hc
  rintro _ rfl
  unfold dZ
  by_cases hp:jV l order in_
  ·rw [decide_eq_true hp]
   have hin:=uF hp
   have hlen:order.length=l.length:=hp.1
   have WH:in_.length=l.length:=hp.2.1
   have hP:b6 o l order in_=rb [o.aU] (iI o l in_ order o.aU):=by
    unfold b6
    rw [if_pos ⟨hc,hp⟩]
    cases iI o l in_ order o.aU <;> rfl
   refine ⟨fun h=>by (cases h),fun _=>?_⟩
   refine ⟨fun out x=>∃ t:Nat,x=t∧t≤order.length∧∃ (q:List Int) (st:Int),out=q++[st]∧q.length=t∧b6 o l order in_=rb out (iI o l in_ (order.drop t) st),fun _ x=>(order.length - x).toNat,⟨0,rfl,by omega,[],o.aU,rfl,rfl,hP⟩,?_⟩
   rintro _ _ ⟨t,rfl,ht,q,st,rfl,hq,hE⟩
   refine ⟨fun hx=>?_,fun hx=>?_⟩
   ·have hx:(t:Int) < order.length:=by simpa using hx
    have hg:=hin _ (gS (l:=order) (i:=(t:Int)) (by omega) hx)
    have hw:IntKind.i64.wrap ((((q++[st]).length:Nat):Int) - 1)=(q.length:Nat):=by
     rw [wrp (by simp only [List.length_append,List.length_cons,List.length_nil]; omega) (by simp only [List.length_append,List.length_cons,List.length_nil]; omega)]; simp
    rw [hw,IY]
    rw [iw (by omega)] at hE
    have J3:∀ x,b6 o l order in_=rb ((q++[st])++[x]) (iI o l in_ (order.drop (t+1)) x)→VC83_J3 (fun out x=>∃ t:Nat,x=t∧t≤order.length∧∃ (q:List Int) (st:Int),out=q++[st]∧q.length=t∧b6 o l order in_=rb out (iI o l in_ (order.drop t) st)) (fun _ x=>(order.length - x).toNat) (q++[st]) t (q++[st]) x:=by
     intro x Og
     unfold VC83_J3
     rw [wrp (by omega) (by omega)]
     refine ⟨by simp only [List.length_append,List.length_cons,List.length_nil]; omega,⟨t+1,by simp,by omega,q++[st],x,rfl,by simp [hq],Og⟩,by dsimp only; omega⟩
    refine ⟨⟨by omega,hx⟩,⟨by omega,by simp only [List.length_append,List.length_cons,List.length_nil]; omega⟩,⟨hg.1,by omega⟩,fun hb=>?_,fun hb=>?_⟩
    ·refine ⟨hg,?_⟩
     rintro _ rfl
     unfold jq
     refine ⟨fun hm=>?_,fun hm=>?_⟩
     ·have hm:(fM o (gi l (gi order t)) st).2=false:=by simpa using hm
      rw [hE]
      unfold iI
      rw [if_pos hb,if_neg (by rw [hm]; decide)]
      rfl
     ·have hm:(fM o (gi l (gi order t)) st).2=true:=by simpa using hm
      refine J3 _ ?_
      rw [hE,← sU (q++[st])]
      conv=>lhs; unfold iI
      rw [if_pos hb,if_pos hm]
    ·refine J3 _ ?_
     rw [hE,← sU (q++[st])]
     conv=>lhs; unfold iI
     rw [if_neg (by rw [hb]; decide)]
   ·have:t=order.length:=by simp at hx; omega
    subst this
    unfold VC83_J2
    rw [hE,List.drop_length]
    simp [iI,rb]
  ·rw [decide_eq_false hp]
   exact no (fun h=>hp h.2)
theorem wh:∀ (l:List Int) (c:List Int),c∈lg l→c.length=2
 | [],c,h=>by cases h
 | x :: r,c,h=>by
  unfold lg at h
  rcases List.mem_append.1 h with h | h
  ·obtain ⟨y,_,rfl⟩:=List.mem_map.1 h; rfl
  ·exact wh r c h
theorem v6 (o:ah) (l:List ae) (h:q9 o l):VC6 o l (fun r=>r=bg o l):=by
 obtain ⟨ho,hl⟩:=h
 unfold VC6
 refine fun _ _=>⟨ho,?_⟩
 rintro _ rfl
 refine ⟨fun hc=>?_,fun hc=>?_⟩
 ·unfold bg
  rw [if_pos (by simpa using hc)]
 ·have hc:(bo o l).2=0:=by simpa using hc
  obtain ⟨e1,_,_,_,hk⟩:=jR hc
  rw [e1]
  generalize hs:au o l=s at *
  obtain ⟨c0,c1,c2,c3⟩:=fb hk
  rintro _ rfl _
  refine ⟨show l.length≤5000 by omega,?_⟩
  rintro _ rfl _
  have Ad:(bS l).length≤9:=by
   have:=sY l l.length l.length
   have h9:l.length * l.length≤3 * 3:=Nat.mul_le_mul hl hl
   exact Nat.le_trans this h9
  refine ⟨show (bS l).length≤1000 by omega,?_⟩
  rintro _ rfl _ _ rfl _
  refine ⟨⟨ho,hl⟩,?_⟩
  rintro _ rfl _
  have hP:(cc s).length≤1000000:=by
   unfold cc
   rw [if_pos hk,List.length_append]
   have Sg:=lM (fun a=>yG (s:=s) c1 a) s.Ops.toNat
   have Ua:=lM (fun a=>yH (s:=s) c1 a) s.Ops.toNat
   omega
  have hT:(cH s (bS l)).length≤1000000:=by
   unfold cH
   rw [if_pos hk]
   have:=wO c1 (bS l)
   omega
  have hS:(cb s o.aU).length≤1000000:=by
   unfold cb
   split
   ·have:=yF hk (s.Ops+1).toNat
    simp only [List.length_cons]
    omega
   ·simp
  have hM:(cJ o l).length≤1000000:=by
   unfold cJ
   rw [hs,if_pos hk]
   have:=mq (BD o l c1 c3) (List.range l.length)
   rw [List.length_range] at this
   omega
  refine ⟨⟨by simp,by simp only [List.flatten_cons,List.flatten_nil,List.length_append,List.length_nil]; omega,?_⟩,?_⟩
  ·intro p hp c hcl
   simp only [List.mem_cons,List.not_mem_nil,or_false] at hp
   rcases hp with rfl | rfl | rfl | rfl
   ·unfold cc at hcl
    rw [if_pos hk] at hcl
    rcases List.mem_append.1 hcl with hcl | hcl
    ·obtain ⟨a,_,hcl⟩:=List.mem_flatMap.1 hcl
     unfold wL at hcl
     rcases List.mem_cons.1 hcl with rfl | hcl
     ·rw [pq]; omega
     ·rw [wh _ _ hcl]; omega
    ·obtain ⟨a,_,hcl⟩:=List.mem_flatMap.1 hcl
     rw [wh _ _ hcl]; omega
   ·unfold cH at hcl
    rw [if_pos hk] at hcl
    obtain ⟨p,_,hcl⟩:=List.mem_flatMap.1 hcl
    unfold fT at hcl
    split at hcl
    ·obtain ⟨a,_,hcl⟩:=List.mem_flatMap.1 hcl
     obtain ⟨b,_,rfl⟩:=List.mem_map.1 hcl
     simp [kQ]
    ·cases hcl
   ·unfold cb at hcl
    split at hcl
    ·rcases List.mem_cons.1 hcl with rfl | hcl
     ·simp
     ·obtain ⟨a,_,hcl⟩:=List.mem_flatMap.1 hcl
      unfold blk at hcl
      rcases List.mem_cons.1 hcl with rfl | hcl
      ·rw [ny]; omega
      ·rw [wh _ _ hcl]; omega
    ·cases hcl
   ·unfold cJ at hcl
    rw [hs,if_pos hk] at hcl
    obtain ⟨i,_,hcl⟩:=List.mem_flatMap.1 hcl
    unfold oD at hcl
    rcases List.mem_append.1 hcl with hcl | hcl
    ·split at hcl
     ·cases hcl
     ·rcases List.mem_cons.1 hcl with rfl | hcl
      ·simp
      ·cases hcl
    ·obtain ⟨k,_,hcl⟩:=List.mem_flatMap.1 hcl
     obtain ⟨b,_,hcl⟩:=List.mem_flatMap.1 hcl
     unfold mg at hcl
     rcases List.mem_cons.1 hcl with rfl | hcl
     ·unfold mf wg; split <;> simp
     ·split at hcl
      ·rcases List.mem_cons.1 hcl with rfl | hcl
       ·simp
       ·cases hcl
      ·cases hcl
  ·rintro _ rfl _ _ rfl
   unfold bg
   rw [if_neg (by rw [hc]; simp),e1]
   rfl
end Go.Proofs.YtobeanopikjkeaaGreat
namespace Go.Proofs.YtobeanopikjkeaaGreat
open Go Go.Sv Go.Pu
theorem BN {s:aa} {i:Int} (hc:ao s=0) (h0:0≤i) (h1:i < s.Ops) :
  gL s i=s.Ops * s.Ops+i+1∧1≤gL s i∧gL s i≤s.Ops * s.Ops+s.Ops∧s.Ops * s.Ops+s.Ops≤aw s∧aw s≤10000:=by
 obtain ⟨c0,c1,c2,c3⟩:=fb hc
 have hm:=pA c0 c1 c0 c1
 have hz:=pA (a:=s.Ops) (b:=s.ab) c0 c1 (by omega) c3
 have hv:aw s=s.Ops * s.Ops+s.Ops+(s.Ops * s.ab+s.ab):=by
  unfold aw; rw [if_pos hc,Int.mul_add,Int.mul_comm s.ab,Int.mul_one]
 have e:gL s i=s.Ops * s.Ops+i+1:=by
  unfold gL bd
  rw [if_pos]
  ·simp [base,wide]
  ·refine ⟨hc,by simp,by simp,h0,?_,by simp,?_⟩
   ·simpa [tW] using h1
   ·simp [wide]
 rw [e,hv]
 omega
theorem qz {s:aa} {m:List Bool} (h:(aq s m).2=true):fA s m:=by
 unfold aq at h
 split at h
 ·assumption
 ·cases h
theorem jo {s:aa} {m:List Bool} (h:(aq s m).2=true):(aq s m).1.length=s.Ops.toNat:=by
 have hm:=qz h
 unfold aq
 rw [if_pos hm]; simp
theorem rZ {s:aa} {m:List Bool} (h:(aQ s m).2=true):(aQ s m).1.length=(s.Ops+1).toNat:=by
 unfold aQ at h ⊢
 split
 ·simp
 ·rename_i hn
  rw [if_neg hn] at h
  cases h
theorem Fa {o:ah} {l:List ae} {order:List Int} {in_:List Bool} (h:(b6 o l order in_).2=true):(b6 o l order in_).1.length=order.length+1:=by
 unfold b6 at h ⊢
 split
 ·rename_i hp
  rw [if_pos hp] at h
  cases hq:iI o l in_ order o.aU with
  | none=>rw [hq] at h; cases h
  | some r=>simp [Fb,qv hq]
 ·rename_i hn
  rw [if_neg hn] at h
  cases h
theorem FZ (s:aa) (m:List Bool) {t n:Nat} (h:t < n):(kC s m t++List.replicate (n - t) false).set t (gi m (gL s (t:Int) - 1))=kC s m (t+1)++List.replicate (n - (t+1)) false:=by
 have hl:(kC s m t).length=t:=by simp [kC]
 rw [show n - t=(n - (t+1))+1 by omega,List.replicate_succ,lY _ _ _ _ hl.symm]
 unfold kC
 rw [kn]
 simp
theorem v33 (o:ah) (l:List ae) (m:List Bool) (h:q8 o l m):VC33 o l m (fun r=>r=dy o l m):=by
 obtain ⟨ho,hl⟩:=h
 unfold VC33
 refine fun _ _ _=>⟨ho,?_⟩
 rintro _ rfl
 have no:¬ ((bo o l).2=0∧uz o l m (bo o l).1)→false=dy o l m:=by
  intro h
  unfold dy
  rw [decide_eq_false h]
 refine ⟨fun hc=>no ?_,fun hc=>?_⟩
 ·rintro ⟨h,_⟩
  simp [h] at hc
 ·have hc:(bo o l).2=0:=by simpa using hc
  obtain ⟨e1,_,_,e2,hk⟩:=jR hc
  have hO:(bo o l).1.Ops=l.length:=by rw [e1,e2]
  rw [← e1] at hk
  generalize hs:(bo o l).1=s at *
  obtain ⟨c0,c1,c2,c3⟩:=fb hk
  rintro _ rfl _ _ rfl _
  refine ⟨fun h=>no ?_,fun h=>?_⟩
  ·rintro ⟨_,h1,h2,_⟩
   rw [h1,h2] at h
   cases h
  ·have h1:(aq s m).2=true:=by
    cases hq:(aq s m).2 with
    | true=>rfl
    | false=>rw [hq] at h; cases h
   have h2:(aQ s m).2=true:=by
    cases hq:(aQ s m).2 with
    | true=>rfl
    | false=>rw [h1,hq] at h; cases h
   have hm:(m.length:Int)=aw s:=(qz h1).2.1
   refine ⟨⟨by omega,by omega,by omega⟩,fun q x=>∃ t:Nat,x=t∧t≤l.length∧q=kC s m t++List.replicate (l.length - t) false,fun _ x=>(l.length - x).toNat,⟨0,rfl,by omega,by simp [kC]⟩,?_⟩
   rintro _ _ ⟨t,rfl,ht,rfl⟩
   have UM:(kC s m t++List.replicate (l.length - t) false).length=l.length:=by simp [kC]; omega
   refine ⟨fun hx=>?_,fun hx=>?_⟩
   ·have hx:(t:Int) < l.length:=by simpa using hx
    rintro _ rfl
    have hi:=BN hk (i:=(t:Int)) (by omega) (by omega)
    have hw:IntKind.i64.wrap (bd s ⟨2,(t:Int),0⟩ - 1)=gL s t - 1:=wrp (by have:=hi.2.1; unfold gL at this; omega) (by have:=hi.2.2; unfold gL at this; omega)
    rw [hw,wrp (by omega) (by omega)]
    refine ⟨⟨by omega,by omega⟩,⟨by omega,by rw [UM]; omega⟩,⟨t+1,by simp,by omega,?_⟩,by dsimp only; omega⟩
    rw [show ((t:Int)).toNat=t by omega,FZ s m (by omega)]
   ·have:t=l.length:=by simp at hx; omega
    subst this
    rw [Nat.sub_self,List.replicate_zero,List.append_nil]
    unfold VC33_J1
    refine ⟨⟨ho,by omega⟩,?_⟩
    rintro _ rfl _
    refine ⟨show l.length≤5000 by omega,?_⟩
    rintro _ rfl _ _ rfl
    refine ⟨fun h=>no ?_,fun h=>?_⟩
    ·rintro ⟨_,_,_,h3,h4,_⟩
     rw [h3,h4] at h
     cases h
    ·have h4:(di (aq s m).1 (bS l)).2=true:=by
      cases hq:(di (aq s m).1 (bS l)).2 with
      | true=>rfl
      | false=>rw [hq] at h; cases h
     have h3:(b6 o l (aq s m).1 (kC s m l.length)).2=true:=by
      cases hq:(b6 o l (aq s m).1 (kC s m l.length)).2 with
      | true=>rfl
      | false=>rw [h4,hq] at h; cases h
     have l1:=rZ h2
     have l2:=Fa h3
     rw [jo h1] at l2
     refine ⟨fun x=>0≤x∧x≤(aQ s m).1.length∧∀ j:Int,0≤j→j < x→gi (aQ s m).1 j=gi (b6 o l (aq s m).1 (kC s m l.length)).1 j,fun x=>((aQ s m).1.length - x).toNat,⟨by omega,by omega,by omega⟩,?_⟩
     rintro x ⟨x0,x1,x2⟩
     refine ⟨fun hy=>?_,fun hy=>?_⟩
     ·have hy:x < (aQ s m).1.length:=by simpa using hy
      refine ⟨⟨x0,hy⟩,⟨x0,by omega⟩,fun hg=>no ?_,fun hg=>?_⟩
      ·rintro ⟨_,_,_,_,_,h5⟩
       rw [h5] at hg
       simp at hg
      ·rw [wrp (by omega) (by omega)]
       refine ⟨⟨by omega,by omega,fun j hj hj2=>?_⟩,by dsimp only; omega⟩
       by_cases e:j=x
       ·subst e; simpa using hg
       ·exact x2 j hj (by omega)
     ·have hy:¬ x < (aQ s m).1.length:=by simpa using hy
      unfold VC33_J2 dy
      rw [decide_eq_true]
      rw [hs]
      refine ⟨hc,h1,h2,h3,h4,?_⟩
      exact tB (by omega) (fun j hj hj2=>x2 j hj (by omega))
theorem v37 (k i:Int) (o:ah) (row:List Int) (l:List ae) (out:List ak) (h:Bq k i o row l out):VC37 k i o row l out (fun r=>r=eZ k i o row l out):=by
 obtain ⟨h1,h2,h3,h4,h5⟩:=h
 unfold VC37
 refine fun _ _ _ _=>⟨⟨h1,h2⟩,⟨h3,h4⟩,?_⟩
 rintro _ rfl
 exact ⟨by simp only [List.length_cons,List.length_nil]; omega,rfl⟩
theorem H3 {o:ah} {l:List ae} {m:List Bool} (h:dy o l m=true):(bo o l).2=0∧uz o l m (au o l):=by
 unfold dy at h
 have h:=of_decide_eq_true h
 rw [(jR h.1).1] at h
 exact h
theorem zi {o:ah} {l:List ae} {m:List Bool} {s:aa} (h:uz o l m s):jV l (aq s m).1 (kC s m l.length):=by
 have h3:=h.2.2.1
 unfold b6 at h3
 split at h3
 ·rename_i hp
  exact hp.2
 ·cases h3
theorem GP (o:ah) (l:List ae) (s:aa) (m:List Bool) (row order:List Int) (k:Nat):(oh o l s m row order k).length≤1:=by
 unfold oh; split <;> simp
theorem Am {α:Type} (f:Nat→List α) (t:Nat):(List.range (t+1)).flatMap f=(List.range t).flatMap f++f t:=by
 rw [List.range_succ,List.flatMap_append]; simp
theorem v10 (o:ah) (l:List ae) (m:List Bool) (h:q8 o l m):VC10 o l m (fun r=>r=bX o l m):=by
 obtain ⟨ho,hl⟩:=h
 unfold VC10
 refine fun _ _ _=>⟨ho,?_⟩
 rintro _ rfl
 refine ⟨fun hc=>?_,fun hc=>⟨⟨ho,hl⟩,?_⟩⟩
 ·unfold bX
  rw [if_pos (by simpa using hc)]
 ·have hc:eL o l=0:=by simpa using hc
  rintro _ rfl
  have hD:bX o l m=if dy o l m=false then ([],5) else (QS o l (au o l) m (aQ (au o l) m).1 (aq (au o l) m).1,0):=by
   unfold bX
   rw [if_neg (by simp [hc])]
  refine ⟨fun h=>?_,fun h=>⟨ho,?_⟩⟩
  ·rw [hD,if_pos (by simpa using h)]
  ·have hS:dy o l m=true:=by simpa using h
   obtain ⟨hz,hy⟩:=H3 hS
   obtain ⟨_,_,_,e2,hk⟩:=jR hz
   have hO:(au o l).Ops=l.length:=by rw [e2]
   have PH:=zi hy
   have hin:=uF PH
   have l1:=jo hy.1
   have l2:=rZ hy.2.1
   have hm:(m.length:Int)=aw (au o l):=(qz hy.1).2.1
   rintro _ rfl _ rfl _ _ rfl _
   generalize hs:au o l=s at *
   refine ⟨fun x q=>∃ t:Nat,x=t∧t≤(aq s m).1.length∧q=(List.range t).flatMap (oh o l s m (aQ s m).1 (aq s m).1),fun x _=>((aq s m).1.length - x).toNat,⟨0,rfl,by omega,rfl⟩,?_⟩
   rintro _ _ ⟨t,rfl,ht,rfl⟩
   have hq:=mq (GP o l s m (aQ s m).1 (aq s m).1) (List.range t)
   rw [List.length_range] at hq
   refine ⟨fun hx=>?_,fun hx=>?_⟩
   ·have hx:(t:Int) < (aq s m).1.length:=by simpa using hx
    refine ⟨⟨by omega,hx⟩,?_⟩
    rintro _ rfl
    have hg:=hin _ (gS (l:=(aq s m).1) (i:=(t:Int)) (by omega) hx)
    have hi:=BN hk (i:=gi (aq s m).1 (t:Int)) hg.1 (by omega)
    unfold kg
    rw [wrp (by omega) (by omega)]
    have go:∀ q,q=(List.range t).flatMap (oh o l s m (aQ s m).1 (aq s m).1)++oh o l s m (aQ s m).1 (aq s m).1 t →
      VC10_J2 (fun x q=>∃ t:Nat,x=t∧t≤(aq s m).1.length∧q=(List.range t).flatMap (oh o l s m (aQ s m).1 (aq s m).1)) (fun x _=>((aq s m).1.length - x).toNat) t ((List.range t).flatMap (oh o l s m (aQ s m).1 (aq s m).1)) q:=by
     rintro q rfl
     unfold VC10_J2
     rw [wrp (by omega) (by omega)]
     exact ⟨⟨t+1,by simp,by omega,by rw [Am]⟩,by dsimp only; omega⟩
    refine ⟨⟨by omega,by omega⟩,fun hb=>⟨⟨by omega,by omega,hg.1,hg.2,by omega⟩,?_⟩,fun hb=>?_⟩
    ·rintro _ rfl _
     refine go _ ?_
     unfold eZ oh
     rw [if_pos hb]
    ·refine go _ ?_
     unfold oh
     rw [if_neg (by rw [hb]; decide),List.append_nil]
   ·have:t=(aq s m).1.length:=by simp at hx; omega
    subst this
    unfold VC10_J1
    rw [hD,if_neg (by rw [hS]; decide)]
    rfl
theorem y9 (m:Int) {t n:Nat} (h:t < n):((List.range t).map (qa m)++List.replicate (n - t) false).set t (qa m t)=(List.range (t+1)).map (qa m)++List.replicate (n - (t+1)) false:=by
 have hl:((List.range t).map (qa m)).length=t:=by simp
 rw [show n - t=(n - (t+1))+1 by omega,List.replicate_succ,lY _ _ _ _ hl.symm,kn]
 simp
theorem v31 (m vars:Int) (h:E6 m vars):VC31 m vars (fun r=>r=bz m vars):=by
 obtain ⟨h0,h1⟩:=h
 unfold VC31
 refine ⟨⟨h0,by omega,by omega⟩,fun q x=>∃ t:Nat,x=t∧t≤vars.toNat∧q=(List.range t).map (qa m)++List.replicate (vars.toNat - t) false,fun _ x=>(vars - x).toNat,⟨0,rfl,by omega,by simp⟩,?_⟩
 rintro _ _ ⟨t,rfl,ht,rfl⟩
 have UM:((List.range t).map (qa m)++List.replicate (vars.toNat - t) false).length=vars.toNat:=by simp; omega
 refine ⟨fun hx=>?_,fun hx=>?_⟩
 ·have hx:(t:Int) < max vars 0:=by simpa using hx
  have hx:t < vars.toNat:=by omega
  rw [wrp (by omega) (by omega)]
  refine ⟨by omega,⟨by omega,by rw [UM]; omega⟩,⟨t+1,by simp,by omega,?_⟩,by dsimp only; omega⟩
  have:=y9 m hx
  rw [← this]
  rfl
 ·have:t=vars.toNat:=by simp at hx; omega
  subst this
  unfold VC31_J1 bz
  simp
theorem C1 (c:List Int) {i:Int} (h0:0≤i) (h:i < c.length):fo (c.take (i+1).toNat)=jy (fo (c.take i.toNat)) (gi c i):=by
 rw [nu h0 h]
 unfold fo
 rw [List.foldl_append]
 rfl
theorem js {f:aL} (h:bA f=0):0≤f.bC∧f.bC≤16∧∀ c∈f.ai,c.length≤1000∧∀ l∈c,l≠0∧-f.bC≤l∧l≤f.bC:=by
 unfold bA at h
 split at h
 ·rename_i hn; exact absurd h hn
 ·rename_i hn
  have hc:(fj f).2=0:=Classical.byContradiction hn
  split at h
  ·cases h
  ·unfold fj Jf at hc
   split at hc
   ·cases hc
   ·split at hc
    ·cases hc
    ·rename_i h1 _
     refine ⟨by omega,by omega,?_⟩
     have key:∀ (L:List (List Int)) (k:Int),(mD f.bC L k).2=0→∀ c∈L,eU c f.bC=0:=by
      intro L
      induction L with
      | nil=>intro _ _ c hc; cases hc
      | cons x r ih =>
       intro k hk c hcm
       unfold mD at hk
       split at hk
       ·rename_i hx; exact absurd hk hx
       ·rename_i hx
        split at hk
        ·cases hk
        ·rcases List.mem_cons.1 hcm with rfl | hcm
         ·exact Classical.byContradiction hx
         ·exact ih _ hk c hcm
     intro c hcm
     have:=(rr c f.bC ⟨by omega,by omega⟩).1 (key _ _ hc c hcm)
     exact ⟨this.1,this.2.1⟩
theorem Nb {α:Type} [Inhabited α] (A r:List α) (b:α):gi (A++b :: r) ((A.length:Nat):Int)=b:=by
 rw [cA _ _ (by simp)]; simp
theorem v75 (f:aL) (h:E8 f):VC75 f (fun r=>r=b7 f):=by
 obtain ⟨v0,v1,hcl⟩:=js h
 have hn:f.ai.length≤1000000:=by
  have h:bA f=0:=h
  unfold bA at h
  split at h
  ·rename_i hn; exact absurd h hn
  ·rename_i hn
   have hc:(fj f).2=0:=Classical.byContradiction hn
   unfold fj Jf at hc
   split at hc
   ·cases hc
   ·split at hc
    ·cases hc
    ·omega
 unfold VC75
 refine fun _=>⟨⟨by omega,by omega,by omega⟩,fun q x=>∃ t:Nat,x=t∧t≤f.ai.length∧q=(f.ai.take t).map fo++List.replicate (f.ai.length - t) ⟨0,0⟩,fun _ x=>(f.ai.length - x).toNat,⟨0,rfl,by omega,by simp⟩,?_⟩
 rintro _ _ ⟨t,rfl,ht,rfl⟩
 refine ⟨fun hx=>?_,fun hx=>?_⟩
 ·have hx:(t:Int) < f.ai.length:=by simpa using hx
  have Dm:t < f.ai.length:=by omega
  have hcm:gi f.ai (t:Int)∈f.ai:=gS (by omega) hx
  obtain ⟨hw,ZJ⟩:=hcl _ hcm
  have eg:gi f.ai (t:Int)=f.ai[t]:=cA _ _ Dm
  have hP:((f.ai.take t).map fo).length=t:=by simp; omega
  refine ⟨⟨by omega,hx⟩,fun _=>⟨fun q y=>∃ p,0≤y∧y≤(gi f.ai (t:Int)).length∧p=fo ((gi f.ai (t:Int)).take y.toNat)∧q=(f.ai.take t).map fo++p :: List.replicate (f.ai.length - (t+1)) ⟨0,0⟩,fun _ y=>((gi f.ai (t:Int)).length - y).toNat,?_,?_⟩⟩
  ·refine ⟨_,by omega,by omega,rfl,?_⟩
   rw [show f.ai.length - t=(f.ai.length - (t+1))+1 by omega,List.replicate_succ]
   rfl
  ·rintro _ y ⟨p,y0,y1,hp,rfl⟩
   have hlen:((f.ai.take t).map fo++p :: List.replicate (f.ai.length - (t+1)) ⟨0,0⟩).length=f.ai.length:=by
    simp only [List.length_append,hP,List.length_cons,List.length_replicate]; omega
   have lL:gi ((f.ai.take t).map fo++p :: List.replicate (f.ai.length - (t+1)) ⟨0,0⟩) (t:Int)=p:=by
    have:=Nb ((f.ai.take t).map fo) (List.replicate (f.ai.length - (t+1)) ⟨0,0⟩) p
    rwa [hP] at this
   have Gb:∀ x,((f.ai.take t).map fo++p :: List.replicate (f.ai.length - (t+1)) ⟨0,0⟩).set t x=(f.ai.take t).map fo++x :: List.replicate (f.ai.length - (t+1)) ⟨0,0⟩:=fun x=>lY _ _ _ _ hP.symm
   refine ⟨fun hy=>?_,fun hy=>?_⟩
   ·have hy:y < (gi f.ai (t:Int)).length:=by simpa using hy
    obtain ⟨hz,Oj,Sr⟩:=ZJ _ (gS (l:=gi f.ai (t:Int)) y0 hy)
    have MJ:=C1 (gi f.ai (t:Int)) y0 hy
    rw [← hp] at MJ
    have J3:∀ x,x=jy p (gi (gi f.ai (t:Int)) y)→VC75_J3 (fun q y=>∃ p,0≤y∧y≤(gi f.ai (t:Int)).length∧p=fo ((gi f.ai (t:Int)).take y.toNat)∧q=(f.ai.take t).map fo++p :: List.replicate (f.ai.length - (t+1)) ⟨0,0⟩) (fun _ y=>((gi f.ai (t:Int)).length - y).toNat) ((f.ai.take t).map fo++p :: List.replicate (f.ai.length - (t+1)) ⟨0,0⟩) y ((f.ai.take t).map fo++x :: List.replicate (f.ai.length - (t+1)) ⟨0,0⟩):=by
     rintro x rfl
     unfold VC75_J3
     rw [wrp (by omega) (by omega)]
     exact ⟨⟨_,by omega,by omega,MJ.symm,rfl⟩,by dsimp only; omega⟩
    refine ⟨⟨y0,hy⟩,fun hg=>?_,fun hg=>?_⟩
    ·have hg:gi (gi f.ai (t:Int)) y > 0:=by simpa using hg
     rw [wrp (n:=gi (gi f.ai (t:Int)) y - 1) (by omega) (by omega),lL]
     refine ⟨by omega,⟨by omega,by rw [hlen]; omega⟩,⟨by omega,by rw [hlen]; omega⟩,?_⟩
     rw [show ((t:Int)).toNat=t by omega,Gb]
     refine J3 _ ?_
     unfold jy
     rw [if_pos hg]
     rfl
    ·have hg:¬ gi (gi f.ai (t:Int)) y > 0:=by simpa using hg
     rw [wrp (n:=0 - gi (gi f.ai (t:Int)) y) (by omega) (by omega),wrp (n:=0 - gi (gi f.ai (t:Int)) y - 1) (by omega) (by omega),lL]
     refine ⟨by omega,⟨by omega,by rw [hlen]; omega⟩,⟨by omega,by rw [hlen]; omega⟩,?_⟩
     rw [show ((t:Int)).toNat=t by omega,Gb]
     refine J3 _ ?_
     unfold jy
     rw [if_neg hg,show -(gi (gi f.ai (t:Int)) y) - 1=0 - gi (gi f.ai (t:Int)) y - 1 by omega]
     rfl
   ·have hy:y=(gi f.ai (t:Int)).length:=by simp at hy; omega
    unfold VC75_J2
    rw [wrp (by omega) (by omega)]
    refine ⟨⟨t+1,by simp,by omega,?_⟩,by dsimp only; omega⟩
    have Zx:p=fo f.ai[t]:=by rw [hp,hy,eg]; simp
    rw [List.take_succ_eq_append_getElem Dm,Zx,List.map_append,List.append_assoc]
    rfl
 ·have:t=f.ai.length:=by simp at hx; omega
  subst this
  unfold VC75_J1 b7
  simp
end Go.Proofs.YtobeanopikjkeaaGreat
namespace Go.Proofs.YtobeanopikjkeaaGreat
open Go Go.Sv Go.Pu
def inI (s:aa) (m:List Bool) (i:Int):Bool:=gi m (gL s i - 1)
def okC (m:List Bool) (c:List Int):Bool:=cv c m
structure Cx (o:ah) (l:List ae) (s:aa) (m:List Bool):Prop where
 hc:ao s=0
 hl:(m.length:Int)=aw s
 hn:s.Ops=l.length
 hS:s.ab=o.ab
 ho:(bq o).2=0
variable {o:ah} {l:List ae} {s:aa} {m:List Bool}
theorem Cx.place (C:Cx o l s m) {a k:Int} (ha:0≤a) (B8:a < l.length) (hk:0≤k) (IP:k < l.length):okl m (dp s a k):=by
 have:=mX C.hc ha (by rw [C.hn]; exact B8) hk (by rw [C.hn]; exact IP)
 have:=C.hl
 exact ⟨by omega,by omega,by omega⟩
theorem Cx.inv (C:Cx o l s m) {i:Int} (h0:0≤i) (h1:i < l.length):okl m (gL s i):=by
 have:=BN C.hc h0 (by rw [C.hn]; exact h1)
 have:=C.hl
 exact ⟨by omega,by omega,by omega⟩
theorem Cx.state (C:Cx o l s m) {a b:Int} (ha:0≤a) (B8:a≤l.length) (hb:0≤b) (hb1:b < o.ab):okl m (bL s a b):=by
 have:=yI C.hc ha (by rw [C.hn]; exact B8) hb (by rw [C.hS]; exact hb1)
 have:=C.hl
 exact ⟨by omega,by omega,by omega⟩
theorem lp {v:Int} (h:okl m v):pG m v=gi m (v - 1):=BF h.1 h.2.1 h.2.2
theorem ln {v:Int} (h:okl m v):pG m (jW v)=!gi m (v - 1):=pF h.1 h.2.1 h.2.2
theorem tj (ho:(bq o).2=0) {x:ae} {b:Int} (h:(fM o x b).2=true):(aZ o b x.Kind).2.2=true∧(x.End≠-1→x.Result=(aZ o b x.Kind).2.1)∧(fM o x b).1=(aZ o b x.Kind).1∧0≤(fM o x b).1∧(fM o x b).1 < o.ab:=by
 unfold fM at h ⊢
 split at h
 ·cases h
 ·rename_i hn
  rw [if_neg hn]
  have h1:(aZ o b x.Kind).2.2=true:=by
   cases hq:(aZ o b x.Kind).2.2 with
   | true=>rfl
   | false=>exact absurd (.inl hq) hn
  refine ⟨h1,fun he=>Classical.byContradiction fun hr=>hn (.inr ⟨he,hr⟩),rfl,Iq ho h1⟩
theorem th (C:Cx o l s m) {i k b:Nat} (hi:i < l.length) (hk:k < l.length) (hb:(b:Int) < o.ab) :
  okC m (mf o l s i k b)=(!(pon s m i k) || (!(inI s m i) || (!(on s m k b) || ((fM o (gi l (i:Int)) b).2 && on s m ((k:Int)+1) (fM o (gi l (i:Int)) b).1)))):=by
 have h1:=ln (C.place (a:=(i:Int)) (k:=(k:Int)) (by omega) (by omega) (by omega) (by omega))
 have h2:=ln (C.inv (i:=(i:Int)) (by omega) (by omega))
 have h3:=ln (C.state (a:=(k:Int)) (b:=(b:Int)) (by omega) (by omega) (by omega) hb)
 unfold okC cv mf wg
 cases hm:(fM o (gi l (i:Int)) b).2 with
 | false =>
  rw [if_neg (by decide)]
  simp only [List.any_cons,List.any_nil,h1,h2,h3,Bool.or_false,Bool.false_and]
  rfl
 | true =>
  rw [if_pos rfl]
  obtain ⟨_,_,_,n0,n1⟩:=tj C.ho hm
  have h4:=lp (C.state (a:=(k:Int)+1) (b:=(fM o (gi l (i:Int)) b).1) (by omega) (by omega) n0 n1)
  simp only [List.cons_append,List.nil_append,List.any_cons,List.any_nil,h1,h2,h3,h4,Bool.or_false,Bool.true_and]
  rfl
theorem sG (C:Cx o l s m) {i k b:Nat} (hi:i < l.length) (hk:k < l.length) (hb:(b:Int) < o.ab) :
  okC m [jW (dp s i k),gL s i,jW (bL s k b),bL s ((k:Int)+1) b]=(!(pon s m i k) || (inI s m i || (!(on s m k b) || on s m ((k:Int)+1) b))):=by
 have h1:=ln (C.place (a:=(i:Int)) (k:=(k:Int)) (by omega) (by omega) (by omega) (by omega))
 have h2:=lp (C.inv (i:=(i:Int)) (by omega) (by omega))
 have h3:=ln (C.state (a:=(k:Int)) (b:=(b:Int)) (by omega) (by omega) (by omega) hb)
 have h4:=lp (C.state (a:=(k:Int)+1) (b:=(b:Int)) (by omega) (by omega) (by omega) hb)
 unfold okC cv
 simp only [List.any_cons,List.any_nil,h1,h2,h3,h4,Bool.or_false]
 rfl
def Mv (o:ah) (l:List ae) (s:aa) (m:List Bool):Prop:=∀ i:Nat,i < l.length→((gi l (i:Int)).End≠-1→inI s m i=true)∧∀ k:Nat,k < l.length→∀ b:Nat,(b:Int) < o.ab→pon s m i k=true→on s m k b=true →
 (inI s m i=true→(fM o (gi l (i:Int)) b).2=true∧on s m ((k:Int)+1) (fM o (gi l (i:Int)) b).1=true)∧(inI s m i=false→(gi l (i:Int)).End=-1→on s m ((k:Int)+1) b=true)
theorem FB (C:Cx o l s m):((List.range l.length).flatMap (oD o l s)).all (okC m)=true↔Mv o l s m:=by
 have e1:s.Ops.toNat=l.length:=by have:=C.hn; omega
 have e2:∀ b:Nat,b < s.ab.toNat↔(b:Int) < o.ab:=by have:=C.hS; intro b; omega
 constructor
 ·intro h i hi
  have h1:∀ c∈oD o l s i,okC m c=true:=fun c hc=>List.all_eq_true.1 h c (List.mem_flatMap.2 ⟨i,List.mem_range.2 hi,hc⟩)
  unfold oD at h1
  refine ⟨fun he=>?_,fun k hk b hb hp ho=>?_⟩
  ·rw [if_neg he] at h1
   have:=h1 [gL s i] (by simp)
   unfold okC cv at this
   simp only [List.any_cons,List.any_nil,lp (C.inv (i:=(i:Int)) (by omega) (by omega)),Bool.or_false] at this
   exact this
  ·have h2:∀ c∈mg o l s i k b,okC m c=true:=fun c hc=>h1 c (List.mem_append.2 (.inr (List.mem_flatMap.2 ⟨k,List.mem_range.2 (by omega),List.mem_flatMap.2 ⟨b,List.mem_range.2 ((e2 b).2 hb),hc⟩⟩)))
   unfold mg at h2
   refine ⟨fun hin=>?_,fun hin he=>?_⟩
   ·have:=h2 _ (List.mem_cons_self ..)
    rw [th C hi hk hb,hp,hin,ho] at this
    simpa using this
   ·rw [if_pos he] at h2
    have:=h2 _ (List.mem_cons_of_mem _ (List.mem_cons_self ..))
    rw [sG C hi hk hb,hp,hin,ho] at this
    simpa using this
 ·intro h
  refine List.all_eq_true.2 fun c hc=>?_
  obtain ⟨i,hi,hc⟩:=List.mem_flatMap.1 hc
  have hi:=List.mem_range.1 hi
  obtain ⟨h1,h2⟩:=h i hi
  unfold oD at hc
  rcases List.mem_append.1 hc with hc | hc
  ·split at hc
   ·cases hc
   ·rename_i he
    rcases List.mem_cons.1 hc with rfl | hc
    ·unfold okC cv
     simp only [List.any_cons,List.any_nil,lp (C.inv (i:=(i:Int)) (by omega) (by omega)),Bool.or_false]
     exact h1 he
    ·cases hc
  ·obtain ⟨k,hk,hc⟩:=List.mem_flatMap.1 hc
   obtain ⟨b,hb,hc⟩:=List.mem_flatMap.1 hc
   have hk:k < l.length:=by have:=List.mem_range.1 hk; omega
   have hb:=(e2 b).1 (List.mem_range.1 hb)
   have h3:=h2 k hk b hb
   unfold mg at hc
   rcases List.mem_cons.1 hc with rfl | hc
   ·rw [th C hi hk hb]
    cases hp:pon s m i k with
    | false=>rfl
    | true=>cases hin:inI s m i with
     | false=>rfl
     | true=>cases ho:on s m k b with
      | false=>rfl
      | true =>
       obtain ⟨h4,h5⟩:=(h3 hp ho).1 hin
       rw [h4,h5]; rfl
   ·split at hc
    ·rename_i he
     rcases List.mem_cons.1 hc with rfl | hc
     ·rw [sG C hi hk hb]
      cases hp:pon s m i k with
      | false=>rfl
      | true=>cases hin:inI s m i with
       | true=>rfl
       | false=>cases ho:on s m k b with
        | false=>rfl
        | true=>rw [(h3 hp ho).2 hin he]; rfl
     ·cases hc
    ·cases hc
theorem Al (hM:fA s m) {k:Nat} (hk:k < s.Ops.toNat):gi (aq s m).1 (k:Int)=who s m s.Ops.toNat k:=by
 unfold aq
 rw [if_pos hM]
 exact Ez hk
theorem nF (hM:fA s m) {k:Nat} (hk:k < s.Ops.toNat) {a:Int} (ha:0≤a) (B8:a < s.Ops.toNat):pon s m a k=true↔gi (aq s m).1 (k:Int)=a:=by
 rw [Al hM hk]
 have h1:=pD hM hk
 have h2:=AZ h1
 constructor
 ·intro h
  have hs:=rY h1
  have:a∈sel s.Ops.toNat (fun a=>pon s m a (k:Int)):=iW.2 ⟨ha,B8,h⟩
  rw [hs] at this
  exact (List.mem_singleton.1 this).symm
 ·intro h
  rw [← h]; exact h2.2.2
theorem v7 (hM:fA s m) {k:Nat} (hk:k < s.Ops.toNat):0≤gi (aq s m).1 (k:Int)∧gi (aq s m).1 (k:Int) < s.Ops.toNat:=by
 rw [Al hM hk]
 have:=AZ (pD hM hk)
 exact ⟨this.1,this.2.1⟩
theorem kd (hM:fA s m):(aq s m).2=true:=by unfold aq; rw [if_pos hM]
theorem Bv (hM:fA s m) {j k:Nat} (hj:j < s.Ops.toNat) (hk:k < s.Ops.toNat) (h:gi (aq s m).1 (j:Int)=gi (aq s m).1 (k:Int)):j=k:=by
 obtain ⟨a0,a1⟩:=v7 hM hk
 have pj:=(nF hM hj a0 a1).2 h
 have pk:=(nF hM hk a0 a1).2 rfl
 have hr:=pC hM (a:=(gi (aq s m).1 (k:Int)).toNat) (by omega)
 have e:(((gi (aq s m).1 (k:Int)).toNat:Nat):Int)=gi (aq s m).1 (k:Int):=by omega
 rw [e] at hr
 have hs:=rY hr
 have mj:(j:Int)∈sel s.Ops.toNat (pon s m (gi (aq s m).1 (k:Int))):=iW.2 ⟨by omega,by omega,pj⟩
 have mk:(k:Int)∈sel s.Ops.toNat (pon s m (gi (aq s m).1 (k:Int))):=iW.2 ⟨by omega,by omega,pk⟩
 rw [hs] at mj mk
 have:=(List.mem_singleton.1 mj).trans (List.mem_singleton.1 mk).symm
 omega
theorem Fv {L:List Int} (h:∀ j k:Nat,j < L.length→k < L.length→gi L (j:Int)=gi L (k:Int)→j=k):L.Nodup:=by
 rw [List.nodup_iff_pairwise_ne,List.pairwise_iff_getElem]
 intro i j hi hj Hx e
 have:=h i j hi hj (by rw [cA _ _ hi,cA _ _ hj]; exact e)
 omega
theorem uM (hM:fA s m):(aq s m).1.Nodup:=by
 have hl:=jo (kd hM)
 exact Fv fun j k hj hk h=>Bv hM (by omega) (by omega) h
theorem Bz (hM:fA s m):∀ x∈(aq s m).1,0≤x∧x < s.Ops.toNat:=by
 intro x hx
 obtain ⟨k,hk,rfl⟩:=List.getElem_of_mem hx
 have hl:=jo (kd hM)
 have:=v7 hM (k:=k) (by omega)
 rwa [cA _ _ hk] at this
def nk (s:aa) (m:List Bool):Prop:=(List.range (s.Ops+1).toNat).all (oneOf s m)=true
theorem vN (hc:ao s=0) (hl:(m.length:Int)=aw s) (hR:nk s m):aQ s m=((List.range (s.Ops+1).toNat).map (lh s m),true):=by
 unfold aQ
 rw [if_pos ⟨hc,hl,hR⟩]
theorem Ak (hc:ao s=0) (hl:(m.length:Int)=aw s) (hR:nk s m) {a:Nat} (ha:a < (s.Ops+1).toNat):gi (aQ s m).1 (a:Int)=lh s m a:=by
 rw [vN hc hl hR,cA _ _ (by simp; omega)]; simp
theorem l8 (hc:ao s=0) (hl:(m.length:Int)=aw s) (hR:nk s m) {a:Nat} (ha:a < (s.Ops+1).toNat) {b:Int} (hb:0≤b) (hb1:b < s.ab.toNat):on s m a b=true↔gi (aQ s m).1 (a:Int)=b:=by
 have h1:=xK (List.all_eq_true.1 hR a (List.mem_range.2 ha))
 rw [Ak hc hl hR ha]
 have Ae:b∈g9 s m a s.ab.toNat↔on s m a b=true:=⟨fun h=>(lC.1 h).2.2,fun h=>lC.2 ⟨hb,hb1,h⟩⟩
 rw [← Ae,h1]
 simp [eq_comm]
theorem zl (hc:ao s=0) (hl:(m.length:Int)=aw s) (hR:nk s m) {a:Nat} (ha:a < (s.Ops+1).toNat):0≤gi (aQ s m).1 (a:Int)∧gi (aQ s m).1 (a:Int) < s.ab.toNat:=by
 have h1:=xK (List.all_eq_true.1 hR a (List.mem_range.2 ha))
 rw [Ak hc hl hR ha]
 have:lh s m a∈g9 s m a s.ab.toNat:=by rw [h1]; simp
 exact ⟨(lC.1 this).1,(lC.1 this).2.1⟩
end Go.Proofs.YtobeanopikjkeaaGreat
