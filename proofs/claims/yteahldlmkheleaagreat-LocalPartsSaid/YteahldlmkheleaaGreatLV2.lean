/- Qz. -/
import Derived.Test.YteahldlmkheleaaGreatLV1
set_option linter.all false
namespace Go.Proofs.YteahldlmkheleaaGreat
open Go Go.Sv Go.Pu
def iG (ac:List aa) (k:Nat):List Int:=((ac.take k).map (·.Oper)).reverse
theorem prev_zero (p:List aa):iG p 0=[]:=by simp [iG]
theorem lX {p:List aa} {k:Nat} (h:k < p.length):iG p (k+1)=(gi p (k:Int)).Oper :: iG p k:=by
 unfold iG
 rw [List.take_succ_eq_append_getElem h,List.map_append,List.reverse_append,bS _ _ h]; rfl
theorem qi {p:List aa} {x:Int}:∀ {k:Nat},k≤p.length→(x∈iG p k↔∃ j:Nat,j < k∧(gi p (j:Int)).Oper=x)
 | 0,_=>by rw [prev_zero]; simp
 | k+1,h=>by
  rw [lX (by omega),List.mem_cons,qi (by omega)]
  constructor
  ·rintro (h2 | ⟨j,hj,h2⟩)
   ·exact ⟨k,by omega,h2.symm⟩
   ·exact ⟨j,by omega,h2⟩
  ·rintro ⟨j,hj,h2⟩
   by_cases wo:j=k
   ·subst wo; exact Or.inl h2.symm
   ·exact Or.inr ⟨j,by omega,h2⟩
def comb (k:Nat) (r:Int × Int × Int):Int × Int × Int:=(r.1,r.2.1+k,r.2.2)
theorem tO {o:ah} {l:List ab} {p:List aa} {k:Nat} {prev:List Int} {s:Int} (h:k < p.length) :
  gT o l prev s (p.drop k)=if (di o l prev s (gi p (k:Int))).2≠0 then (0,0,(di o l prev s (gi p (k:Int))).2) else comb 1 (gT o l ((gi p (k:Int)).Oper :: prev) (di o l prev s (gi p (k:Int))).1 (p.drop (k+1))):=by
 rw [gJ h,gT]; rfl
theorem rT (a b:Nat) (r:Int × Int × Int):comb a (comb b r)=comb (a+b) r:=by
 unfold comb; simp; omega
theorem pE (o:ah) (l:List ab) (s:Int) (p:aa):(gf o l s p).2=fV o l s p∧((gf o l s p).2≠0→(gf o l s p).1=0):=by
 unfold gf
 split
 ·exact ⟨rfl,fun _=>rfl⟩
 ·rename_i h
  exact ⟨by dsimp only; omega,fun h2=>absurd rfl h2⟩
theorem v36 (o:ah) (l:List ab) (s:Int) (p:List aa):VC36 o l s p (fun r=>r=cN o l s p):=by
 unfold VC36
 intro _ hl hp
 simp only [sm] at hl hp
 rintro _ rfl
 simp only [Bool.or_eq_true,decide_eq_true_eq,Bool.or_eq_false_iff,decide_eq_false_iff_not,bne_iff_ne,bne_eq_false_iff_eq]
 refine ⟨fun h=>?_,fun h=>⟨fun h2=>?_,fun h2=>?_⟩⟩
 ·have e:fg o s=2:=by unfold fg; rw [if_pos h]
  unfold cN; rw [e,if_pos (by decide)]
 ·have e:fg o s=30:=by unfold fg; rw [if_neg (by omega),if_pos h2]
  unfold cN; rw [e,if_pos (by decide)]
 ·have e:fg o s=0:=by unfold fg; rw [if_neg (by omega),if_neg (by omega)]
  have ef:cN o l s p=gT o l [] s p:=by unfold cN; rw [e,if_neg (by decide)]
  rw [ef]
  refine ⟨fun st i=>∃ k:Nat,i=k∧k≤p.length∧comb k (gT o l (iG p k) st (p.drop k))=gT o l [] s p,fun _ i=>(p.length - i).toNat,⟨0,rfl,by omega,by rw [prev_zero]; simp [comb]⟩,?_⟩
  rintro st _ ⟨k,rfl,hk,i5⟩
  refine ⟨fun hi=>⟨⟨by omega,hi⟩,?_⟩,fun hi=>?_⟩
  ·have hi:k < p.length:=by omega
   rw [tO hi] at i5
   have bad:∀ e:Int,(di o l (iG p k) st (gi p (k:Int))).2=e→e≠0→((0:Int),(k:Int),e)=gT o l [] s p:=by
    rintro e rfl he
    rw [if_pos he] at i5
    rw [← i5]; unfold comb; simp
   refine ⟨fun h3=>bad 2 (by unfold di; rw [if_pos h3]) (by decide),fun h3=>?_⟩
   refine ⟨fun j=>∃ v:Nat,j=v∧v≤k∧∀ q:Nat,q < v→(gi p (q:Int)).Oper≠(gi p (k:Int)).Oper,fun j=>(k - j).toNat,⟨0,rfl,by omega,fun q hq=>by omega⟩,?_⟩
   rintro _ ⟨v,rfl,hv,ze⟩
   refine ⟨fun gS=>⟨⟨by omega,by omega⟩,fun he=>?_,fun he=>?_⟩,fun hge=>?_⟩
   ·rw [beq_iff_eq] at he
    refine bad 21 ?_ (by decide)
    unfold di
    rw [if_neg (by omega),if_pos ((qi hk).mpr ⟨v,by omega,he⟩)]
   ·rw [beq_eq_false_iff_ne] at he
    rw [wrp (by omega) (by omega)]
    refine ⟨⟨v+1,by simp,by omega,fun q hq=>?_⟩,by dsimp only; omega⟩
    by_cases h:q < v
    ·exact ze q h
    ·rw [show q=v by omega]; exact he
   ·have hv:v=k:=by omega
    subst hv
    have Dc:(gi p (v:Int)).Oper∉iG p v:=by
     rw [qi hk]; rintro ⟨j,hj,h⟩; exact ze j hj h
    have xD:di o l (iG p v) st (gi p (v:Int))=gf o l st (gi p (v:Int)):=by
     unfold di; rw [if_neg (by omega),if_neg Dc]
    rw [xD] at bad i5
    unfold VC36_J2
    refine ⟨⟨by omega,by omega⟩,?_⟩
    rintro _ rfl
    simp only [bne_iff_ne,bne_eq_false_iff_eq]
    refine ⟨fun he=>bad _ ?_ he,fun he=>⟨⟨by omega,by omega⟩,?_⟩⟩
    ·rw [(pE _ _ _ _).1]
     unfold fV
     rw [if_neg (fun h=>he h.1)]
    ·have j3:∀ b,(b=true↔((gi l (gi p (v:Int)).Oper).End≠-1∧(gi l (gi p (v:Int)).Oper).Result≠(gi p (v:Int)).Result))→VC36_J3 (fun r=>r=gT o l [] s p) (fun st i=>∃ k:Nat,i=k∧k≤p.length∧comb k (gT o l (iG p k) st (p.drop k))=gT o l [] s p) (fun _ i=>(p.length - i).toNat) st v (cX o st (gi l (gi p (v:Int)).Oper).Kind (gi p (v:Int)).Result) b:=by
      intro b hb
      unfold VC36_J3
      refine ⟨fun h=>bad 40 ?_ (by decide),fun h=>?_⟩
      ·rw [(pE _ _ _ _).1]
       unfold fV
       rw [if_pos ⟨he,hb.mp h⟩]
      ·have hno:¬ ((gi l (gi p (v:Int)).Oper).End≠-1∧(gi l (gi p (v:Int)).Oper).Result≠(gi p (v:Int)).Result):=fun h2=>by rw [hb.mpr h2] at h; cases h
       have ht:gf o l st (gi p (v:Int))=((cX o st (gi l (gi p (v:Int)).Oper).Kind (gi p (v:Int)).Result).1,0):=by
        have OD:fV o l st (gi p (v:Int))=0:=by
         unfold fV
         rw [if_neg (fun h=>hno h.2)]; exact he
        unfold gf
        rw [if_neg (fun h=>h OD)]
       rw [ht] at i5
       rw [if_neg (by simp),rT,← lX hi] at i5
       rw [wrp (by omega) (by omega)]
       exact ⟨⟨v+1,by simp,by omega,i5⟩,by dsimp only; omega⟩
     refine ⟨fun h4=>⟨⟨by omega,by omega⟩,j3 _ ?_⟩,fun h4=>j3 false ⟨(fun h=>by cases h),fun h=>absurd h4 h.1⟩⟩
     rw [bne_iff_ne]
     exact ⟨fun h=>⟨h4,h⟩,fun h=>h.2⟩
  ·have:k=p.length:=by omega
   subst this
   unfold VC36_J1
   rw [← i5,List.drop_length,gT]
   unfold comb; simp
def Used (u:List (Int × Int)) (prev:List Int):Prop:=∀ x,(aC u x).getD 0=if x∈prev then 1 else 0
theorem Ah:Used [] []:=fun x=>by simp [aC]
theorem yn {u:List (Int × Int)} {prev:List Int} {x:Int} (h:Used u prev) (hx:x∉prev):Used (ju u x) (x :: prev):=by
 intro y
 unfold ju
 have Ho:=h x
 rw [if_neg hx] at Ho
 rw [eV,Ho]
 by_cases hy:y=x
 ·subst hy
  rw [if_pos rfl,if_pos (List.mem_cons_self ..)]
  show IntKind.i64.wrap (0+1)=1
  rw [wrp (by omega) (by omega)]; rfl
 ·rw [if_neg hy,h y]
  simp [hy]
theorem yw {o:ah} {l:List ab} {u:List (Int × Int)} {prev:List Int} {s:Int} {p:aa} (h:Used u prev) :
  ((dc p l u o s).1,(dc p l u o s).2.1)=di o l prev s p∧((dc p l u o s).2.1=0→Used (dc p l u o s).2.2.1 (p.Oper :: prev)∧(dc p l u o s).2.2.2=(dc p l u o s).1):=by
 have hu:=h p.Oper
 unfold dc di
 by_cases h1:p.Oper < 0∨p.Oper≥l.length
 ·rw [if_pos h1,if_pos h1]; exact ⟨rfl,fun h=>by cases h⟩
 ·rw [if_neg h1,if_neg h1]
  by_cases h2:p.Oper∈prev
  ·rw [if_pos h2] at hu
   rw [if_pos (by omega),if_pos h2]; exact ⟨rfl,fun h=>by cases h⟩
  ·rw [if_neg h2] at hu
   rw [if_neg (by omega),if_neg h2]
   by_cases h3:(gf o l s p).2≠0
   ·rw [if_pos h3]
    refine ⟨?_,fun h=>absurd h h3⟩
    have:(gf o l s p).1=0:=(pE _ _ _ _).2 h3
    rw [← this]
   ·rw [if_neg h3]
    refine ⟨?_,fun _=>⟨yn h h2,rfl⟩⟩
    have:(gf o l s p).2=0:=by omega
    rw [← this]
theorem v62 (o:ah) (l:List ab) (s:Int) (p:List aa) (h:xc o l s p):VC62 o l s p (fun r=>r=iO o l s p):=by
 unfold VC62 iO
 intro _ hl hp
 simp only [sm] at hl hp
 refine ⟨h,?_⟩
 rintro _ rfl
 simp only [bne_iff_ne,bne_eq_false_iff_eq]
 refine ⟨fun h=>by unfold cN; rw [if_pos h],fun e=>?_⟩
 have ef:cN o l s p=gT o l [] s p:=by unfold cN; rw [e,if_neg (by decide)]
 rw [ef]
 rintro _ rfl _ _
 unfold dZ
 dsimp only
 simp only [decide_eq_true_eq,decide_eq_false_iff_not]
 refine ⟨fun st i u JZ=>st=JZ∧∃ k:Nat,i=k∧k≤p.length∧Used u (iG p k)∧comb k (gT o l (iG p k) st (p.drop k))=gT o l [] s p,fun _ i _ _=>(p.length - i).toNat,⟨rfl,0,rfl,by omega,by rw [prev_zero]; exact Ah,by rw [prev_zero]; simp [comb]⟩,?_⟩
 rintro st _ u _ ⟨rfl,k,rfl,hk,hu,i5⟩
 refine ⟨fun hi=>⟨⟨by omega,hi⟩,?_⟩,fun hi=>?_⟩
 ·have hi:k < p.length:=by omega
  rw [tO hi] at i5
  rintro _ rfl
  obtain ⟨q1,q2⟩:=yw (o:=o) (l:=l) (s:=st) (p:=gi p (k:Int)) hu
  rw [← q1] at i5
  dsimp only at i5
  refine ⟨fun he=>?_,fun he=>?_⟩
  ·rw [if_pos he] at i5
   rw [← i5]; unfold comb; simp
  ·rw [if_neg (by omega),rT,← lX hi] at i5
   obtain ⟨q3,q4⟩:=q2 he
   rw [wrp (by omega) (by omega)]
   exact ⟨⟨q4.symm,k+1,by simp,by omega,by rw [lX hi]; exact q3,i5⟩,by dsimp only; omega⟩
 ·have:k=p.length:=by omega
  subst this
  unfold VC62_J1
  rw [← i5,List.drop_length,gT]
  unfold comb; simp
end Go.Proofs.YteahldlmkheleaaGreat
