/- P5. -/
import Derived.Test.YteahldlmkheleaaGreatLV1
set_option linter.all false
namespace Go.Proofs.YteahldlmkheleaaGreat
open Go Go.Sv Go.Pu
def iK (ac:List aa) (k:Nat):List Int:=((ac.take k).map (·.Oper)).reverse
theorem prev_zero (p:List aa):iK p 0=[]:=by simp [iK]
theorem l5 {p:List aa} {k:Nat} (h:k < p.length):iK p (k+1)=(gi p (k:Int)).Oper :: iK p k:=by
 unfold iK
 rw [List.take_succ_eq_append_getElem h,List.map_append,List.reverse_append,cd _ _ h]; rfl
theorem qh {p:List aa} {x:Int}:∀ {k:Nat},k≤p.length→(x∈iK p k↔∃ j:Nat,j < k∧(gi p (j:Int)).Oper=x)
 | 0,_=>by rw [prev_zero]; simp
 | k+1,h=>by
  rw [l5 (by omega),List.mem_cons,qh (by omega)]
  constructor
  ·rintro (h2 | ⟨j,hj,h2⟩)
   ·exact ⟨k,by omega,h2.symm⟩
   ·exact ⟨j,by omega,h2⟩
  ·rintro ⟨j,hj,h2⟩
   by_cases wJ:j=k
   ·subst wJ; exact Or.inl h2.symm
   ·exact Or.inr ⟨j,by omega,h2⟩
def comb (k:Nat) (r:Int × Int × Int):Int × Int × Int:=(r.1,r.2.1+k,r.2.2)
theorem uc {o:al} {l:List ab} {p:List aa} {k:Nat} {prev:List Int} {s:Int} (h:k < p.length) :
  gN o l prev s (p.drop k)=if (dg o l prev s (gi p (k:Int))).2≠0 then (0,0,(dg o l prev s (gi p (k:Int))).2) else comb 1 (gN o l ((gi p (k:Int)).Oper :: prev) (dg o l prev s (gi p (k:Int))).1 (p.drop (k+1))):=by
 rw [gx h,gN]; rfl
theorem r7 (a b:Nat) (r:Int × Int × Int):comb a (comb b r)=comb (a+b) r:=by
 unfold comb; simp; omega
theorem pE (o:al) (l:List ab) (s:Int) (p:aa):(gg o l s p).2=gM o l s p∧((gg o l s p).2≠0→(gg o l s p).1=0):=by
 unfold gg
 split
 ·exact ⟨rfl,fun _=>rfl⟩
 ·rename_i h
  exact ⟨by dsimp only; omega,fun h2=>absurd rfl h2⟩
theorem v36 (o:al) (l:List ab) (s:Int) (p:List aa):VC36 o l s p (fun r=>r=cH o l s p):=by
 unfold VC36
 intro _ hl hp
 simp only [sm] at hl hp
 rintro _ rfl
 simp only [Bool.or_eq_true,decide_eq_true_eq,Bool.or_eq_false_iff,decide_eq_false_iff_not,bne_iff_ne,bne_eq_false_iff_eq]
 refine ⟨fun h=>?_,fun h=>⟨fun h2=>?_,fun h2=>?_⟩⟩
 ·have e:fG o s=2:=by unfold fG; rw [if_pos h]
  unfold cH; rw [e,if_pos (by decide)]
 ·have e:fG o s=30:=by unfold fG; rw [if_neg (by omega),if_pos h2]
  unfold cH; rw [e,if_pos (by decide)]
 ·have e:fG o s=0:=by unfold fG; rw [if_neg (by omega),if_neg (by omega)]
  have ef:cH o l s p=gN o l [] s p:=by unfold cH; rw [e,if_neg (by decide)]
  rw [ef]
  refine ⟨fun st i=>∃ k:Nat,i=k∧k≤p.length∧comb k (gN o l (iK p k) st (p.drop k))=gN o l [] s p,fun _ i=>(p.length - i).toNat,⟨0,rfl,by omega,by rw [prev_zero]; simp [comb]⟩,?_⟩
  rintro st _ ⟨k,rfl,hk,jH⟩
  refine ⟨fun hi=>⟨⟨by omega,hi⟩,?_⟩,fun hi=>?_⟩
  ·have hi:k < p.length:=by omega
   rw [uc hi] at jH
   have bad:∀ e:Int,(dg o l (iK p k) st (gi p (k:Int))).2=e→e≠0→((0:Int),(k:Int),e)=gN o l [] s p:=by
    rintro e rfl he
    rw [if_pos he] at jH
    rw [← jH]; unfold comb; simp
   refine ⟨fun h3=>bad 2 (by unfold dg; rw [if_pos h3]) (by decide),fun h3=>?_⟩
   refine ⟨fun j=>∃ v:Nat,j=v∧v≤k∧∀ q:Nat,q < v→(gi p (q:Int)).Oper≠(gi p (k:Int)).Oper,fun j=>(k - j).toNat,⟨0,rfl,by omega,fun q hq=>by omega⟩,?_⟩
   rintro _ ⟨v,rfl,hv,zu⟩
   refine ⟨fun gK=>⟨⟨by omega,by omega⟩,fun he=>?_,fun he=>?_⟩,fun hge=>?_⟩
   ·rw [beq_iff_eq] at he
    refine bad 21 ?_ (by decide)
    unfold dg
    rw [if_neg (by omega),if_pos ((qh hk).mpr ⟨v,by omega,he⟩)]
   ·rw [beq_eq_false_iff_ne] at he
    rw [wrp (by omega) (by omega)]
    refine ⟨⟨v+1,by simp,by omega,fun q hq=>?_⟩,by dsimp only; omega⟩
    by_cases h:q < v
    ·exact zu q h
    ·rw [show q=v by omega]; exact he
   ·have hv:v=k:=by omega
    subst hv
    have CZ:(gi p (v:Int)).Oper∉iK p v:=by
     rw [qh hk]; rintro ⟨j,hj,h⟩; exact zu j hj h
    have zn:dg o l (iK p v) st (gi p (v:Int))=gg o l st (gi p (v:Int)):=by
     unfold dg; rw [if_neg (by omega),if_neg CZ]
    rw [zn] at bad jH
    unfold VC36_J2
    refine ⟨⟨by omega,by omega⟩,?_⟩
    rintro _ rfl
    simp only [bne_iff_ne,bne_eq_false_iff_eq]
    refine ⟨fun he=>bad _ ?_ he,fun he=>⟨⟨by omega,by omega⟩,?_⟩⟩
    ·rw [(pE _ _ _ _).1]
     unfold gM
     rw [if_neg (fun h=>he h.1)]
    ·have j3:∀ b,(b=true↔((gi l (gi p (v:Int)).Oper).End≠-1∧(gi l (gi p (v:Int)).Oper).Result≠(gi p (v:Int)).Result))→VC36_J3 (fun r=>r=gN o l [] s p) (fun st i=>∃ k:Nat,i=k∧k≤p.length∧comb k (gN o l (iK p k) st (p.drop k))=gN o l [] s p) (fun _ i=>(p.length - i).toNat) st v (c9 o st (gi l (gi p (v:Int)).Oper).Kind (gi p (v:Int)).Result) b:=by
      intro b hb
      unfold VC36_J3
      refine ⟨fun h=>bad 40 ?_ (by decide),fun h=>?_⟩
      ·rw [(pE _ _ _ _).1]
       unfold gM
       rw [if_pos ⟨he,hb.mp h⟩]
      ·have hno:¬ ((gi l (gi p (v:Int)).Oper).End≠-1∧(gi l (gi p (v:Int)).Oper).Result≠(gi p (v:Int)).Result):=fun h2=>by rw [hb.mpr h2] at h; cases h
       have ht:gg o l st (gi p (v:Int))=((c9 o st (gi l (gi p (v:Int)).Oper).Kind (gi p (v:Int)).Result).1,0):=by
        have N6:gM o l st (gi p (v:Int))=0:=by
         unfold gM
         rw [if_neg (fun h=>hno h.2)]; exact he
        unfold gg
        rw [if_neg (fun h=>h N6)]
       rw [ht] at jH
       rw [if_neg (by simp),r7,← l5 hi] at jH
       rw [wrp (by omega) (by omega)]
       exact ⟨⟨v+1,by simp,by omega,jH⟩,by dsimp only; omega⟩
     refine ⟨fun h4=>⟨⟨by omega,by omega⟩,j3 _ ?_⟩,fun h4=>j3 false ⟨(fun h=>by cases h),fun h=>absurd h4 h.1⟩⟩
     rw [bne_iff_ne]
     exact ⟨fun h=>⟨h4,h⟩,fun h=>h.2⟩
  ·have:k=p.length:=by omega
   subst this
   unfold VC36_J1
   rw [← jH,List.drop_length,gN]
   unfold comb; simp
def Used (u:List (Int × Int)) (prev:List Int):Prop:=∀ x,(aC u x).getD 0=if x∈prev then 1 else 0
theorem Ai:Used [] []:=fun x=>by simp [aC]
theorem yI {u:List (Int × Int)} {prev:List Int} {x:Int} (h:Used u prev) (hx:x∉prev):Used (jr u x) (x :: prev):=by
 intro y
 unfold jr
 have Ha:=h x
 rw [if_neg hx] at Ha
 rw [eO,Ha]
 by_cases hy:y=x
 ·subst hy
  rw [if_pos rfl,if_pos (List.mem_cons_self ..)]
  show IntKind.i64.wrap (0+1)=1
  rw [wrp (by omega) (by omega)]; rfl
 ·rw [if_neg hy,h y]
  simp [hy]
theorem yO {o:al} {l:List ab} {u:List (Int × Int)} {prev:List Int} {s:Int} {p:aa} (h:Used u prev) :
  ((c7 p l u o s).1,(c7 p l u o s).2.1)=dg o l prev s p∧((c7 p l u o s).2.1=0→Used (c7 p l u o s).2.2.1 (p.Oper :: prev)∧(c7 p l u o s).2.2.2=(c7 p l u o s).1):=by
 have hu:=h p.Oper
 unfold c7 dg
 by_cases h1:p.Oper < 0∨p.Oper≥l.length
 ·rw [if_pos h1,if_pos h1]; exact ⟨rfl,fun h=>by cases h⟩
 ·rw [if_neg h1,if_neg h1]
  by_cases h2:p.Oper∈prev
  ·rw [if_pos h2] at hu
   rw [if_pos (by omega),if_pos h2]; exact ⟨rfl,fun h=>by cases h⟩
  ·rw [if_neg h2] at hu
   rw [if_neg (by omega),if_neg h2]
   by_cases h3:(gg o l s p).2≠0
   ·rw [if_pos h3]
    refine ⟨?_,fun h=>absurd h h3⟩
    have:(gg o l s p).1=0:=(pE _ _ _ _).2 h3
    rw [← this]
   ·rw [if_neg h3]
    refine ⟨?_,fun _=>⟨yI h h2,rfl⟩⟩
    have:(gg o l s p).2=0:=by omega
    rw [← this]
theorem v62 (o:al) (l:List ab) (s:Int) (p:List aa) (h:xy o l s p):VC62 o l s p (fun r=>r=iQ o l s p):=by
 unfold VC62 iQ
 intro _ hl hp
 simp only [sm] at hl hp
 refine ⟨h,?_⟩
 rintro _ rfl
 simp only [bne_iff_ne,bne_eq_false_iff_eq]
 refine ⟨fun h=>by unfold cH; rw [if_pos h],fun e=>?_⟩
 have ef:cH o l s p=gN o l [] s p:=by unfold cH; rw [e,if_neg (by decide)]
 rw [ef]
 rintro _ rfl _ _
 unfold dS
 dsimp only
 simp only [decide_eq_true_eq,decide_eq_false_iff_not]
 refine ⟨fun st i u Jy=>st=Jy∧∃ k:Nat,i=k∧k≤p.length∧Used u (iK p k)∧comb k (gN o l (iK p k) st (p.drop k))=gN o l [] s p,fun _ i _ _=>(p.length - i).toNat,⟨rfl,0,rfl,by omega,by rw [prev_zero]; exact Ai,by rw [prev_zero]; simp [comb]⟩,?_⟩
 rintro st _ u _ ⟨rfl,k,rfl,hk,hu,jH⟩
 refine ⟨fun hi=>⟨⟨by omega,hi⟩,?_⟩,fun hi=>?_⟩
 ·have hi:k < p.length:=by omega
  rw [uc hi] at jH
  rintro _ rfl
  obtain ⟨q1,q2⟩:=yO (o:=o) (l:=l) (s:=st) (p:=gi p (k:Int)) hu
  rw [← q1] at jH
  dsimp only at jH
  refine ⟨fun he=>?_,fun he=>?_⟩
  ·rw [if_pos he] at jH
   rw [← jH]; unfold comb; simp
  ·rw [if_neg (by omega),r7,← l5 hi] at jH
   obtain ⟨q3,q4⟩:=q2 he
   rw [wrp (by omega) (by omega)]
   exact ⟨⟨q4.symm,k+1,by simp,by omega,by rw [l5 hi]; exact q3,jH⟩,by dsimp only; omega⟩
 ·have:k=p.length:=by omega
  subst this
  unfold VC62_J1
  rw [← jH,List.drop_length,gN]
  unfold comb; simp
end Go.Proofs.YteahldlmkheleaaGreat
