/- Lemmas. -/
import Derived.Test.YteahldlmkheleaaGreatLV1
set_option linter.all false
namespace Go.Proofs.YteahldlmkheleaaGreat
open Go Go.Sv Go.Pu
def ji (ah:List aa) (k:Nat):List Int:=((ah.take k).map (·.Oper)).reverse
theorem prev_zero (p:List aa):ji p 0=[]:=by simp [ji]
theorem mJ {p:List aa} {k:Nat} (h:k < p.length):ji p (k+1)=(gi p (k:Int)).Oper :: ji p k:=by
 unfold ji
 rw [List.take_succ_eq_append_getElem h,List.map_append,List.reverse_append,bZ _ _ h]; rfl
theorem rb {p:List aa} {x:Int}:∀ {k:Nat},k≤p.length→(x∈ji p k↔∃ j:Nat,j < k∧(gi p (j:Int)).Oper=x)
 | 0,_=>by rw [prev_zero]; simp
 | k+1,h=>by
  rw [mJ (by omega),List.mem_cons,rb (by omega)]
  constructor
  ·rintro (h2 | ⟨j,hj,h2⟩)
   ·exact ⟨k,by omega,h2.symm⟩
   ·exact ⟨j,by omega,h2⟩
  ·rintro ⟨j,hj,h2⟩
   by_cases xJ:j=k
   ·subst xJ; exact Or.inl h2.symm
   ·exact Or.inr ⟨j,by omega,h2⟩
def comb (k:Nat) (r:Int × Int × Int):Int × Int × Int:=(r.1,r.2.1+k,r.2.2)
theorem uV {o:aj} {l:List ab} {p:List aa} {k:Nat} {prev:List Int} {s:Int} (h:k < p.length) :
  il o l prev s (p.drop k)=if (du o l prev s (gi p (k:Int))).2≠0 then (0,0,(du o l prev s (gi p (k:Int))).2) else comb 1 (il o l ((gi p (k:Int)).Oper :: prev) (du o l prev s (gi p (k:Int))).1 (p.drop (k+1))):=by
 rw [hX h,il]; rfl
theorem ta (a b:Nat) (r:Int × Int × Int):comb a (comb b r)=comb (a+b) r:=by
 unfold comb; simp; omega
theorem qv (o:aj) (l:List ab) (s:Int) (p:aa):(gB o l s p).2=gr o l s p∧((gB o l s p).2≠0→(gB o l s p).1=0):=by
 unfold gB
 split
 ·exact ⟨rfl,fun _=>rfl⟩
 ·rename_i h
  exact ⟨by dsimp only; omega,fun h2=>absurd rfl h2⟩
theorem v36 (o:aj) (l:List ab) (s:Int) (p:List aa):VC36 o l s p (fun r=>r=c6 o l s p):=by
 unfold VC36
 intro _ hl hp
 simp only [sm] at hl hp
 rintro _ rfl
 simp only [Bool.or_eq_true,decide_eq_true_eq,Bool.or_eq_false_iff,decide_eq_false_iff_not,bne_iff_ne,bne_eq_false_iff_eq]
 refine ⟨fun h=>?_,fun h=>⟨fun h2=>?_,fun h2=>?_⟩⟩
 ·have e:fF o s=2:=by unfold fF; rw [if_pos h]
  unfold c6; rw [e,if_pos (by decide)]
 ·have e:fF o s=30:=by unfold fF; rw [if_neg (by omega),if_pos h2]
  unfold c6; rw [e,if_pos (by decide)]
 ·have e:fF o s=0:=by unfold fF; rw [if_neg (by omega),if_neg (by omega)]
  have ef:c6 o l s p=il o l [] s p:=by unfold c6; rw [e,if_neg (by decide)]
  rw [ef]
  refine ⟨fun st i=>∃ k:Nat,i=k∧k≤p.length∧comb k (il o l (ji p k) st (p.drop k))=il o l [] s p,fun _ i=>(p.length - i).toNat,⟨0,rfl,by omega,by rw [prev_zero]; simp [comb]⟩,?_⟩
  rintro st _ ⟨k,rfl,hk,jE⟩
  refine ⟨fun hi=>⟨⟨by omega,hi⟩,?_⟩,fun hi=>?_⟩
  ·have hi:k < p.length:=by omega
   rw [uV hi] at jE
   have bad:∀ e:Int,(du o l (ji p k) st (gi p (k:Int))).2=e→e≠0→((0:Int),(k:Int),e)=il o l [] s p:=by
    rintro e rfl he
    rw [if_pos he] at jE
    rw [← jE]; unfold comb; simp
   refine ⟨fun h3=>bad 2 (by unfold du; rw [if_pos h3]) (by decide),fun h3=>?_⟩
   refine ⟨fun j=>∃ v:Nat,j=v∧v≤k∧∀ q:Nat,q < v→(gi p (q:Int)).Oper≠(gi p (k:Int)).Oper,fun j=>(k - j).toNat,⟨0,rfl,by omega,fun q hq=>by omega⟩,?_⟩
   rintro _ ⟨v,rfl,hv,Av⟩
   refine ⟨fun ik=>⟨⟨by omega,by omega⟩,fun he=>?_,fun he=>?_⟩,fun hge=>?_⟩
   ·rw [beq_iff_eq] at he
    refine bad 21 ?_ (by decide)
    unfold du
    rw [if_neg (by omega),if_pos ((rb hk).mpr ⟨v,by omega,he⟩)]
   ·rw [beq_eq_false_iff_ne] at he
    rw [wrp (by omega) (by omega)]
    refine ⟨⟨v+1,by simp,by omega,fun q hq=>?_⟩,by dsimp only; omega⟩
    by_cases h:q < v
    ·exact Av q h
    ·rw [show q=v by omega]; exact he
   ·have hv:v=k:=by omega
    subst hv
    have Er:(gi p (v:Int)).Oper∉ji p v:=by
     rw [rb hk]; rintro ⟨j,hj,h⟩; exact Av j hj h
    have yV:du o l (ji p v) st (gi p (v:Int))=gB o l st (gi p (v:Int)):=by
     unfold du; rw [if_neg (by omega),if_neg Er]
    rw [yV] at bad jE
    unfold VC36_J2
    refine ⟨⟨by omega,by omega⟩,?_⟩
    rintro _ rfl
    simp only [bne_iff_ne,bne_eq_false_iff_eq]
    refine ⟨fun he=>bad _ ?_ he,fun he=>⟨⟨by omega,by omega⟩,?_⟩⟩
    ·rw [(qv _ _ _ _).1]
     unfold gr
     rw [if_neg (fun h=>he h.1)]
    ·have j3:∀ b,(b=true↔((gi l (gi p (v:Int)).Oper).End≠-1∧(gi l (gi p (v:Int)).Oper).Result≠(gi p (v:Int)).Result))→VC36_J3 (fun r=>r=il o l [] s p) (fun st i=>∃ k:Nat,i=k∧k≤p.length∧comb k (il o l (ji p k) st (p.drop k))=il o l [] s p) (fun _ i=>(p.length - i).toNat) st v (dc o st (gi l (gi p (v:Int)).Oper).Kind (gi p (v:Int)).Result) b:=by
      intro b hb
      unfold VC36_J3
      refine ⟨fun h=>bad 40 ?_ (by decide),fun h=>?_⟩
      ·rw [(qv _ _ _ _).1]
       unfold gr
       rw [if_pos ⟨he,hb.mp h⟩]
      ·have hno:¬ ((gi l (gi p (v:Int)).Oper).End≠-1∧(gi l (gi p (v:Int)).Oper).Result≠(gi p (v:Int)).Result):=fun h2=>by rw [hb.mpr h2] at h; cases h
       have ht:gB o l st (gi p (v:Int))=((dc o st (gi l (gi p (v:Int)).Oper).Kind (gi p (v:Int)).Result).1,0):=by
        have P9:gr o l st (gi p (v:Int))=0:=by
         unfold gr
         rw [if_neg (fun h=>hno h.2)]; exact he
        unfold gB
        rw [if_neg (fun h=>h P9)]
       rw [ht] at jE
       rw [if_neg (by simp),ta,← mJ hi] at jE
       rw [wrp (by omega) (by omega)]
       exact ⟨⟨v+1,by simp,by omega,jE⟩,by dsimp only; omega⟩
     refine ⟨fun h4=>⟨⟨by omega,by omega⟩,j3 _ ?_⟩,fun h4=>j3 false ⟨(fun h=>by cases h),fun h=>absurd h4 h.1⟩⟩
     rw [bne_iff_ne]
     exact ⟨fun h=>⟨h4,h⟩,fun h=>h.2⟩
  ·have:k=p.length:=by omega
   subst this
   unfold VC36_J1
   rw [← jE,List.drop_length,il]
   unfold comb; simp
def Used (u:List (Int × Int)) (prev:List Int):Prop:=∀ x,(aF u x).getD 0=if x∈prev then 1 else 0
theorem Bu:Used [] []:=fun x=>by simp [aF]
theorem zN {u:List (Int × Int)} {prev:List Int} {x:Int} (h:Used u prev) (hx:x∉prev):Used (j6 u x) (x :: prev):=by
 intro y
 unfold j6
 have IL:=h x
 rw [if_neg hx] at IL
 rw [fm,IL]
 by_cases hy:y=x
 ·subst hy
  rw [if_pos rfl,if_pos (List.mem_cons_self ..)]
  show IntKind.i64.wrap (0+1)=1
  rw [wrp (by omega) (by omega)]; rfl
 ·rw [if_neg hy,h y]
  simp [hy]
theorem zU {o:aj} {l:List ab} {u:List (Int × Int)} {prev:List Int} {s:Int} {p:aa} (h:Used u prev) :
  ((dn p l u o s).1,(dn p l u o s).2.1)=du o l prev s p∧((dn p l u o s).2.1=0→Used (dn p l u o s).2.2.1 (p.Oper :: prev)∧(dn p l u o s).2.2.2=(dn p l u o s).1):=by
 have hu:=h p.Oper
 unfold dn du
 by_cases h1:p.Oper < 0∨p.Oper≥l.length
 ·rw [if_pos h1,if_pos h1]; exact ⟨rfl,fun h=>by cases h⟩
 ·rw [if_neg h1,if_neg h1]
  by_cases h2:p.Oper∈prev
  ·rw [if_pos h2] at hu
   rw [if_pos (by omega),if_pos h2]; exact ⟨rfl,fun h=>by cases h⟩
  ·rw [if_neg h2] at hu
   rw [if_neg (by omega),if_neg h2]
   by_cases h3:(gB o l s p).2≠0
   ·rw [if_pos h3]
    refine ⟨?_,fun h=>absurd h h3⟩
    have:(gB o l s p).1=0:=(qv _ _ _ _).2 h3
    rw [← this]
   ·rw [if_neg h3]
    refine ⟨?_,fun _=>⟨zN h h2,rfl⟩⟩
    have:(gB o l s p).2=0:=by omega
    rw [← this]
theorem v62 (o:aj) (l:List ab) (s:Int) (p:List aa) (h:yv o l s p):VC62 o l s p (fun r=>r=jq o l s p):=by
 unfold VC62 jq
 intro _ hl hp
 simp only [sm] at hl hp
 refine ⟨h,?_⟩
 rintro _ rfl
 simp only [bne_iff_ne,bne_eq_false_iff_eq]
 refine ⟨fun h=>by unfold c6; rw [if_pos h],fun e=>?_⟩
 have ef:c6 o l s p=il o l [] s p:=by unfold c6; rw [e,if_neg (by decide)]
 rw [ef]
 rintro _ rfl _ _
 unfold eD
 dsimp only
 simp only [decide_eq_true_eq,decide_eq_false_iff_not]
 refine ⟨fun st i u Lj=>st=Lj∧∃ k:Nat,i=k∧k≤p.length∧Used u (ji p k)∧comb k (il o l (ji p k) st (p.drop k))=il o l [] s p,fun _ i _ _=>(p.length - i).toNat,⟨rfl,0,rfl,by omega,by rw [prev_zero]; exact Bu,by rw [prev_zero]; simp [comb]⟩,?_⟩
 rintro st _ u _ ⟨rfl,k,rfl,hk,hu,jE⟩
 refine ⟨fun hi=>⟨⟨by omega,hi⟩,?_⟩,fun hi=>?_⟩
 ·have hi:k < p.length:=by omega
  rw [uV hi] at jE
  rintro _ rfl
  obtain ⟨q1,q2⟩:=zU (o:=o) (l:=l) (s:=st) (p:=gi p (k:Int)) hu
  rw [← q1] at jE
  dsimp only at jE
  refine ⟨fun he=>?_,fun he=>?_⟩
  ·rw [if_pos he] at jE
   rw [← jE]; unfold comb; simp
  ·rw [if_neg (by omega),ta,← mJ hi] at jE
   obtain ⟨q3,q4⟩:=q2 he
   rw [wrp (by omega) (by omega)]
   exact ⟨⟨q4.symm,k+1,by simp,by omega,by rw [mJ hi]; exact q3,jE⟩,by dsimp only; omega⟩
 ·have:k=p.length:=by omega
  subst this
  unfold VC62_J1
  rw [← jE,List.drop_length,il]
  unfold comb; simp
end Go.Proofs.YteahldlmkheleaaGreat
