/- Lemmas. -/
import Derived.Test.YteahldlmkheleaaGreatLV4
set_option linter.all false
namespace Go.Proofs.YteahldlmkheleaaGreat
open Go Go.Sv Go.Pu
theorem CK {a b:Int}:((a != 0) || (b != 0))=decide (a≠0∨b≠0):=by
 rw [Bool.eq_iff_iff]; simp
theorem v88 (o:aj) (l:List ab) (m:Int) (hp:yE o l m):VC88 o l m (fun r=>r=cD o l m):=by
 intro _ _
 refine ⟨hp,?_⟩
 rintro _ rfl
 rintro _ rfl
 unfold cD
 rw [CK]
 refine ⟨fun h=>?_,fun h=>?_⟩
 ·rw [if_pos (of_decide_eq_true h)]
 ·rw [if_neg (of_decide_eq_false h)]
  refine ⟨fun h2=>?_,fun h2=>?_⟩
  ·have h2:=of_decide_eq_true h2
   rw [if_pos (by omega)]
  ·have h2:=of_decide_eq_false h2
   rw [if_neg (by omega)]
theorem v114 (i:Int) (done:List Bool) (hp:vj i done):VC114 i done (fun r=>r=fh i done):=by
 intro _
 have hp:0≤i:=hp
 unfold fh isDone
 refine ⟨fun h=>?_,fun h=>?_⟩
 ·have h2:=of_decide_eq_true h
  refine ⟨⟨hp,by omega⟩,?_⟩
  rw [decide_eq_true h2]; rfl
 ·have h2:=of_decide_eq_false h
  rw [decide_eq_false h2]; rfl
def o7 (l:List ab) (done:List Bool) (i t:Nat):Bool:=!isDone done i && (List.range t).all fun k:Nat=>isDone done (k:Int) || !bl (gi l (k:Int)) (gi l (i:Int))
theorem vQ (l:List ab) (done:List Bool) (i t:Nat):o7 l done i (t+1)=(o7 l done i t && (isDone done (t:Int) || !bl (gi l (t:Int)) (gi l (i:Int)))):=by
 unfold o7
 rw [List.range_succ,List.all_append,Bool.and_assoc]
 simp
theorem vP (l:List ab) (done:List Bool) (t:Nat):jG l done (t+1)=jG l done t++(if l9 l done t=true then [(t:Int)] else []):=by
 unfold jG
 rw [List.range_succ,List.filter_append,List.map_append]
 congr 1
 by_cases h:l9 l done t=true
 ·simp [h]
 ·simp [h]
theorem o6 (l:List ab) (done:List Bool) (t:Nat):(jG l done t).length≤t:=by
 have:=List.length_filter_le (fun i:Nat=>l9 l done i) (List.range t)
 unfold jG; rw [List.length_map]; simpa using this
theorem v112 (l:List ab) (done:List Bool) (hp:yC l done):VC112 l done (fun r=>r=fc l done):=by
 intro _ _
 have hs:l.length≤1000000:=hp
 unfold VC112_J1
 refine ⟨fun out x=>0≤x∧x≤l.length∧out=jG l done x.toNat,fun _ x=>(l.length - x).toNat,⟨by omega,by omega,rfl⟩,?_⟩
 rintro out x ⟨x0,x1,ho⟩
 refine ⟨fun hx=>?_,fun hx=>?_⟩
 ·have hx:=of_decide_eq_true hx
  obtain ⟨i,rfl⟩:=Int.eq_ofNat_of_zero_le x0
  have ho:out=jG l done i:=ho
  have hle:=o6 l done i
  refine ⟨⟨x0,hx⟩,?_⟩
  refine ⟨by show (0:Int)≤(i:Int); omega,?_⟩
  rintro _ rfl
  have fin:∀ b:Bool,b=l9 l done i→VC112_J3 (fun out x=>0≤x∧x≤l.length∧out=jG l done x.toNat) (fun _ x=>(l.length - x).toNat) out (i:Int) out b:=by
   intro b hb
   have hn:jG l done (((i:Nat):Int)+1).toNat=out++(if b=true then [((i:Nat):Int)] else []):=by
    rw [show (((i:Nat):Int)+1).toNat=i+1 by omega,vP,← hb,ho]
   unfold VC112_J3 VC112_J2
   rw [wrp (n:=((i:Nat):Int)+1) (by omega) (by omega)]
   refine ⟨fun h=>⟨by rw [ho]; simp; omega,⟨by omega,by omega,?_⟩,by first | omega | (dsimp only; omega)⟩,fun h=>⟨⟨by omega,by omega,?_⟩,by first | omega | (dsimp only; omega)⟩⟩
   ·rw [hn,h]; rfl
   ·rw [hn,h]; simp
  refine ⟨fun o f k=>o=out∧0≤k∧k≤l.length∧f=o7 l done i k.toNat,fun _ _ k=>(l.length - k).toNat,⟨rfl,by omega,by omega,by simp [o7,fh]⟩,?_⟩
  rintro o f k ⟨rfl,k0,k1,hf⟩
  refine ⟨fun hk=>?_,fun hk=>?_⟩
  ·have hk:=of_decide_eq_true hk
   obtain ⟨t,rfl⟩:=Int.eq_ofNat_of_zero_le k0
   have hf:f=o7 l done i t:=hf
   have hs1:=vQ l done i t
   unfold VC112_J4
   rw [wrp (n:=((t:Nat):Int)+1) (by omega) (by omega)]
   have ht:(((t:Nat):Int)+1).toNat=t+1:=by omega
   refine ⟨⟨k0,hk⟩,fun h=>⟨by show (0:Int)≤(t:Int); omega,?_⟩,fun h=>⟨⟨rfl,by omega,by omega,?_⟩,by first | omega | (dsimp only; omega)⟩⟩
   ·rintro _ rfl
    unfold fh
    refine ⟨fun h2=>⟨⟨rfl,by omega,by omega,?_⟩,by first | omega | (dsimp only; omega)⟩,fun h2=>?_⟩
    ·rw [ht,hs1,← hf,h,h2]; rfl
    ·rintro _ rfl
     refine ⟨⟨rfl,by omega,by omega,?_⟩,by first | omega | (dsimp only; omega)⟩
     rw [ht,hs1,← hf,h,h2]; simp
   ·rw [ht,hs1,← hf,h]; rfl
  ·have hk:=of_decide_eq_false hk
   rw [show k.toNat=l.length by omega] at hf
   exact fin f hf
 ·have hx:=of_decide_eq_false hx
  rw [show x.toNat=l.length by omega] at ho
  exact ho
theorem ru {l:List ab} {done:List Bool} {i:Int} (h:i∈fc l done):0≤i∧i < l.length∧l9 l done i.toNat=true:=by
 unfold fc jG at h
 obtain ⟨k,hk,rfl⟩:=List.mem_map.1 h
 rw [List.mem_filter,List.mem_range] at hk
 exact ⟨by omega,by omega,hk.2⟩
theorem v104 (s:List aa) (hp:yD s):VC104 s (fun r=>r=b7 s):=by
 intro _ b hb
 have hs:s.length≤1000000:=hp
 unfold b7
 refine ⟨fun h=>(hb h).symm,fun _=>⟨by simp; omega,by simp⟩⟩
theorem lG {α:Type} [Inhabited α] {l:List α} {i:Int} (h0:0≤i) (h:i < l.length):l.take (i+1).toNat=l.take i.toNat++[gi l i]:=by
 obtain ⟨k,rfl⟩:=Int.eq_ofNat_of_zero_le h0
 rw [show ((k:Int)+1).toNat=k+1 by omega,show ((k:Int)).toNat=k by omega,List.take_succ]
 have hk:k < l.length:=by omega
 rw [List.getElem?_eq_getElem hk,bZ l k hk]; rfl
theorem dB {α:Type} [Inhabited α] {l:List α} {i:Int} (h0:0≤i) (h:i < l.length):gi l i∈l:=by
 rw [jU h0 h]; exact List.getElem_mem _
theorem v105 (o:aj) (l:List ab) (st:Int) (done:List Bool) (hp:yx o l st done):VC105 o l st done (fun r=>r=bM o l st done):=by
 intro _ _ _
 have hs:l.length≤1000000:=hp.2
 refine ⟨hp.1,?_⟩
 rintro _ rfl
 unfold bM
 refine ⟨fun h=>?_,fun h=>?_⟩
 ·rw [if_pos (bne_iff_ne.1 h)]
 have h:(bB o).2=0:=by rw [bne_eq_false_iff_eq] at h; exact h
 rw [if_neg (by simp [h])]
 unfold yO
 have hle:=o6 l done l.length
 have hm:∀ i∈fc l done,0≤i∧i < l.length:=fun i hi=>⟨(ru hi).1,(ru hi).2.1⟩
 have hle:(fc l done).length≤l.length:=hle
 refine ⟨hs,?_⟩
 rintro _ rfl
 intro _
 generalize fc l done=L at *
 unfold VC105_J1
 refine ⟨fun out x=>0≤x∧x≤L.length∧out=(L.take x.toNat).filterMap (jj o l st),fun _ x=>(L.length - x).toNat,⟨by omega,by omega,by simp⟩,?_⟩
 rintro out x ⟨x0,x1,ho⟩
 refine ⟨fun hx=>?_,fun hx=>?_⟩
 ·have hx:=of_decide_eq_true hx
  obtain ⟨i0,i1⟩:=hm _ (dB x0 hx)
  have hn:(L.take (x+1).toNat).filterMap (jj o l st)=out++(match jj o l st (gi L x) with | some p=>[p] | none=>[]):=by
   rw [lG x0 hx,List.filterMap_append,ho]
   congr 1
   cases hh:jj o l st (gi L x) <;> simp [hh]
  have DC:out.length≤L.length:=by
   rw [ho]; exact Nat.le_trans (List.length_filterMap_le _ _) (by rw [List.length_take]; omega)
  refine ⟨⟨x0,hx⟩,⟨i0,i1⟩,?_⟩
  rintro _ rfl
  have fin:∀ b:Bool,b=((cw o st (gi l (gi L x)).Kind).2.2 && ((gi l (gi L x)).End == -1 || (gi l (gi L x)).Result == (cw o st (gi l (gi L x)).Kind).2.1))→VC105_J3 L (fun out x=>0≤x∧x≤L.length∧out=(L.take x.toNat).filterMap (jj o l st)) (fun _ x=>(L.length - x).toNat) out x (cw o st (gi l (gi L x)).Kind) out b:=by
   intro b hb
   unfold VC105_J3 VC105_J2
   rw [wrp (n:=x+1) (by omega) (by omega)]
   have Qj:jj o l st (gi L x)=if b=true then some ⟨gi L x,(cw o st (gi l (gi L x)).Kind).2.1⟩ else none:=by unfold jj; rw [← hb]
   rw [Qj] at hn
   refine ⟨fun h=>⟨by simp; omega,⟨by omega,by omega,?_⟩,by first | omega | (dsimp only; omega)⟩,fun h=>⟨⟨by omega,by omega,?_⟩,by first | omega | (dsimp only; omega)⟩⟩
   ·rw [hn,h]; rfl
   ·rw [hn,h]; simp
  refine ⟨fun h=>⟨⟨i0,i1⟩,fun h2=>fin _ ?_,fun h2=>⟨⟨i0,i1⟩,fin _ ?_⟩⟩,fun h=>fin _ ?_⟩
  ·rw [h,h2]; rfl
  ·rw [h,h2]; simp
  ·rw [h]; rfl
 ·have hx:=of_decide_eq_false hx
  rw [show x.toNat=L.length by omega,List.take_length] at ho
  exact ho
theorem v100 (s:Sk) (hp:yk s):VC100 s (fun r=>r=dU s):=by
 intro _ hs _
 simp only [sm] at hs
 have hp:s.done.length=s.l.length:=hp
 unfold VC100_J1 dU kY
 have bad:∀ x:Nat,x < s.l.length→(((gi s.l (x:Int)).End != -1) && !gi s.done (x:Int))=true→false=(List.range s.l.length).all fun i:Nat=>!(((gi s.l (i:Int)).End != -1) && !gi s.done (i:Int)):=by
  intro x hx h
  rw [eq_comm,← Bool.not_eq_true,List.all_eq_true]
  intro Av
  have:=Av x (List.mem_range.2 hx)
  rw [h] at this; cases this
 refine ⟨fun x=>0≤x∧x≤s.l.length∧∀ j:Nat,(j:Int) < x→(!(((gi s.l (j:Int)).End != -1) && !gi s.done (j:Int)))=true,fun x=>(s.l.length - x).toNat,⟨by omega,by omega,fun j hj=>by omega⟩,?_⟩
 rintro x ⟨x0,x1,Ep⟩
 refine ⟨fun hx=>?_,fun hx=>?_⟩
 ·have hx:=of_decide_eq_true hx
  obtain ⟨i,rfl⟩:=Int.eq_ofNat_of_zero_le x0
  have fin:∀ b:Bool,b=(((gi s.l (i:Int)).End != -1) && !gi s.done (i:Int))→VC100_J2 (fun r=>r=(List.range s.l.length).all fun i:Nat=>!(((gi s.l (i:Int)).End != -1) && !gi s.done (i:Int))) (fun x=>0≤x∧x≤s.l.length∧∀ j:Nat,(j:Int) < x→(!(((gi s.l (j:Int)).End != -1) && !gi s.done (j:Int)))=true) (fun x=>(s.l.length - x).toNat) (i:Int) b:=by
   intro b hb
   unfold VC100_J2
   rw [wrp (n:=((i:Nat):Int)+1) (by omega) (by omega)]
   refine ⟨fun h=>bad i (by omega) (by rw [← hb]; exact h),fun h=>⟨⟨by omega,by omega,fun j hj=>?_⟩,by first | omega | (dsimp only; omega)⟩⟩
   by_cases HY:j=i
   ·subst HY; rw [← hb,h]; rfl
   ·exact Ep j (by omega)
  refine ⟨⟨x0,hx⟩,fun h=>⟨⟨x0,by omega⟩,fin _ (by rw [h]; rfl)⟩,fun h=>fin _ (by rw [h]; rfl)⟩
 ·have hx:=of_decide_eq_false hx
  show true=(List.range s.l.length).all _
  rw [eq_comm,List.all_eq_true]
  intro j hj
  exact Ep j (by have:=List.mem_range.1 hj; omega)
theorem v101 (st:Int) (s:Sk):VC101 st s (fun r=>r=dI st s):=by
 intro _ _ hs
 simp only [sm] at hs
 unfold VC101_J1 dI iV
 generalize hT:kg s.done 0 0=T
 refine ⟨fun x m z=>0≤x∧x≤s.done.length∧z=st∧kg (s.done.drop x.toNat) x m=T,fun x _ _=>(s.done.length - x).toNat,⟨by omega,by omega,rfl,by simpa using hT⟩,?_⟩
 rintro x m z ⟨x0,x1,rfl,ht⟩
 refine ⟨fun hx=>?_,fun hx=>?_⟩
 ·have hx:=of_decide_eq_true hx
  obtain ⟨i,rfl⟩:=Int.eq_ofNat_of_zero_le x0
  rw [show ((i:Nat):Int).toNat=i by omega,hX (l:=s.done) (i:=i) (by omega)] at ht
  have Lj:kg (gi s.done (i:Int) :: s.done.drop (i+1)) (i:Int) m=kg (s.done.drop (i+1)) ((i:Int)+1) (if gi s.done (i:Int) then orU m (EN (i:Int)) else m):=rfl
  rw [Lj] at ht
  unfold VC101_J2
  rw [wrp (n:=((i:Nat):Int)+1) (by omega) (by omega)]
  have Oq:(((i:Nat):Int)+1).toNat=i+1:=by omega
  refine ⟨⟨x0,hx⟩,fun h=>⟨x0,⟨by omega,by omega,rfl,?_⟩,by first | omega | (dsimp only; omega)⟩,fun h=>⟨⟨by omega,by omega,rfl,?_⟩,by first | omega | (dsimp only; omega)⟩⟩
  ·rw [h] at ht; rw [Oq]; exact ht
  ·rw [h] at ht; rw [Oq]; exact ht
 ·have hx:=of_decide_eq_false hx
  rw [List.drop_eq_nil_of_le (by omega)] at ht
  show (⟨m,_⟩:b8)=_
  rw [← ht]; rfl
end Go.Proofs.YteahldlmkheleaaGreat
