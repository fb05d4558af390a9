/- RA ways on,and the first of them; plain. -/
import Derived.Test.YteahldlmkheleaaGreatLV6
set_option linter.all false
namespace Go.Proofs.YteahldlmkheleaaGreat
open Go Go.Sv Go.Pu
def mo (o:ah) (l:List ab):Int→List Bool→List aa→Prop
 | _,done,[]=>kg l done=true
 | st,done,p :: ps=>p∈bG o l st done∧mo o l (eQ o l st p) (done.set p.Oper.toNat true) ps
theorem sP {o:ah} {l:List ab}:∀ (n:Nat) (st:Int) (done:List Bool) (ps:List aa),ps∈mg o l n st done↔ps.length < n∧mo o l st done ps
 | 0,st,done,ps=>by simp [mg]
 | n+1,st,done,[]=>by
  unfold mg mo
  rw [List.mem_append,List.mem_flatMap]
  constructor
  ·rintro (h | ⟨p,_,h⟩)
   ·split at h
    ·rename_i hw; exact ⟨by simp,hw⟩
    ·cases h
   ·obtain ⟨_,_,h⟩:=List.mem_map.1 h; cases h
  ·rintro ⟨_,hw⟩; left; rw [if_pos hw]; simp
 | n+1,st,done,p :: ps=>by
  unfold mg mo
  rw [List.mem_append,List.mem_flatMap]
  constructor
  ·rintro (h | ⟨q,hq,h⟩)
   ·split at h
    ·simp at h
    ·cases h
   ·obtain ⟨r,hr,h⟩:=List.mem_map.1 h
    obtain ⟨rfl,rfl⟩:=List.cons.inj h
    have:=(sP n _ _ _).1 hr
    exact ⟨by simp only [List.length_cons]; omega,hq,this.2⟩
  ·rintro ⟨hl,hp,hw⟩
   right
   exact ⟨p,hp,List.mem_map.2 ⟨ps,(sP n _ _ _).2 ⟨by simp only [List.length_cons] at hl; omega,hw⟩,rfl⟩⟩
theorem xv {o:ah} {l:List ab} {st:Int} {done:List Bool} {p:aa} (hd:done.length=l.length) (h:p∈bG o l st done):0≤p.Oper∧p.Oper < l.length∧gi done p.Oper=false∧cf (done.set p.Oper.toNat true)+1=cf done:=by
 obtain ⟨_,a,b,c,_⟩:=qg h
 have:=uG a (by omega) c
 exact ⟨a,b,this,Bx a (by omega) this⟩
theorem wM {o:ah} {l:List ab}:∀ (ps:List aa) (st:Int) (done:List Bool),done.length=l.length→mo o l st done ps→ps.length≤cf done
 | [],_,_,_,_=>by simp
 | p :: ps,st,done,hd,h=>by
  have ⟨_,_,_,hc⟩:=xv hd h.1
  have:=wM ps _ _ (by simpa using hd) h.2
  simp only [List.length_cons]; omega
theorem DA {o:ah} {l:List ab} {st:Int} {done:List Bool} (hd:done.length=l.length) {ps:List aa}:ps∈mg o l (cf done+1) st done↔mo o l st done ps:=by
 rw [sP]
 exact ⟨fun h=>h.2,fun h=>⟨by have:=wM ps st done hd h; omega,h⟩⟩
def vB:List Bool→Nat
 | []=>0
 | b :: r=>(if b then 1 else 0)+2 * vB r
theorem tG:∀ (a b:List Bool),a.length=b.length→vB a=vB b→a=b
 | [],[],_,_=>rfl
 | x :: a,y :: b,h,hv=>by
  unfold vB at hv
  have e:x=y:=by cases x <;> cases y <;> simp at hv ⊢ <;> omega
  subst e
  rw [tG a b (by simpa using h) (by omega)]
theorem Dx {i:Nat} (h:i < 32):Dy (i:Int)=((2 ^ i:Nat):Int):=by
 have h2:2 ^ i≤2 ^ 31:=Nat.pow_le_pow_right (by decide) (by omega)
 unfold Dy
 rw [show min (i:Int).toNat IntKind.u32.bits=i by show min _ 32=_; omega]
 have e:(1 * 2 ^ i:Int)=((2 ^ i:Nat):Int):=by push_cast; omega
 rw [e]
 generalize 2 ^ i=x at *
 have:x≤2147483648:=by simpa using h2
 simp [IntKind.wrap,IntKind.signed,IntKind.bits]; omega
theorem Ff {i m:Nat} (h:i < 32) (hm:m < 2 ^ i):orU (m:Int) ((2 ^ i:Nat):Int)=((m+2 ^ i:Nat):Int):=by
 have h2:2 ^ i≤2 ^ 31:=Nat.pow_le_pow_right (by decide) (by omega)
 have h3:m ||| 2 ^ i=m+2 ^ i:=by
  have:=Nat.two_pow_add_eq_or_of_lt hm 1
  rw [Nat.mul_one] at this
  rw [Nat.or_comm,← this,Nat.add_comm]
 unfold orU
 have e1:∀ x:Nat,x < 2 ^ 32→(BitVec.ofInt IntKind.u32.bits (x:Int)).toNat=x:=fun x hx=>by
  show (BitVec.ofInt 32 (x:Int)).toNat=x
  rw [BitVec.ofInt_natCast,BitVec.toNat_ofNat]
  exact Nat.mod_eq_of_lt hx
 rw [BitVec.toNat_or,e1 m (by omega),e1 _ (by omega),h3]
 generalize 2 ^ i=x at *
 have:x≤2147483648:=by simpa using h2
 simp [IntKind.wrap,IntKind.signed,IntKind.bits]; omega
theorem pn:∀ (d:List Bool) (i m:Nat),i+d.length≤32→m < 2 ^ i→jD d (i:Int) (m:Int)=((m+2 ^ i * vB d:Nat):Int)
 | [],i,m,_,_=>by simp [jD,vB]
 | b :: d,i,m,h,hm=>by
  simp only [List.length_cons] at h
  have hp:2 ^ (i+1)=2 ^ i * 2:=Nat.pow_succ ..
  unfold jD vB
  rw [show ((i:Int)+1)=((i+1:Nat):Int) by push_cast; rfl]
  cases b with
  | true =>
   rw [if_pos rfl,if_pos rfl,Dx (by omega),Ff (by omega) hm,pn d (i+1) (m+2 ^ i) (by omega) (by omega),hp,Nat.mul_add,Nat.mul_assoc]
   congr 1; omega
  | false =>
   rw [if_neg (by simp),if_neg (by simp),pn d (i+1) m (by omega) (by omega),hp,Nat.mul_add,Nat.mul_assoc]
   congr 1; omega
theorem A9 {a b:List Bool} {s t:Int} (hl:a.length=b.length) (h:a.length≤20) (he:iv a s=iv b t):a=b∧s=t:=by
 unfold iv at he
 injection he with h1 h2
 refine ⟨?_,h2⟩
 have e1:=pn a 0 0 (by omega) (by decide)
 have e2:=pn b 0 0 (by omega) (by decide)
 have h1:jD a ((0:Nat):Int) ((0:Nat):Int)=jD b ((0:Nat):Int) ((0:Nat):Int):=h1
 rw [e1,e2] at h1
 exact tG a b hl (by omega)
def iw (so:List aa):List (List aa)→List aa × Bool
 | []=>([],false)
 | x :: _=>(so++x,true)
def mM (o:ah) (l:List ab) (f:Fm):Prop:=∀ done st,done.length=l.length→(aC f (iv done st)).getD 0 > 0→mg o l (cf done+1) st done=[]
theorem Fb {o:ah} {l:List ab} {f:Fm} {done:List Bool} {st:Int} (hl:l.length≤20) (hd:done.length=l.length) (h:mM o l f) (ha:mg o l (cf done+1) st done=[]):mM o l (nE f (iv done st)):=by
 unfold nE
 split
 ·exact h
 ·intro EJ MP F2 hg
  rw [eV] at hg
  by_cases e:iv EJ MP=iv done st
  ·obtain ⟨rfl,rfl⟩:=A9 (by omega) (by omega) e
   exact ha
  ·rw [if_neg e] at hg
   exact h EJ MP F2 hg
theorem ur (so:List aa) (p:aa) (A B:List (List aa)):iw so (A.map (p :: ·)++B)=if (iw (so++[p]) A).2 then iw (so++[p]) A else iw so B:=by
 cases A with
 | nil=>simp [iw]
 | cons x A=>simp [iw]
theorem uM {o:ah} {l:List ab} (hl:l.length≤20):∀ (n:Nat) (st:Int) (so:List aa) (done:List Bool) (f:Fm),n=cf done+1→done.length=l.length→mM o l f →
  (fu o l n st so done f).1=iw so (mg o l n st done)∧mM o l (fu o l n st so done f).2
 | 0,_,_,_,_,h,_,_=>by omega
 | n+1,st,so,done,f,hn,hd,hf=>by
  have hT:∀ (L:List aa) (f:Fm),(∀ p∈L,p∈bG o l st done)→mM o l f →
    (ly (fun p f=>fu o l n (eQ o l st p) (so++[p]) (done.set p.Oper.toNat true) f) L f).1=iw so (L.flatMap fun p=>(mg o l n (eQ o l st p) (done.set p.Oper.toNat true)).map (p :: ·)) ∧
    mM o l (ly (fun p f=>fu o l n (eQ o l st p) (so++[p]) (done.set p.Oper.toNat true) f) L f).2:=by
   intro L
   induction L with
   | nil=>intro f _ hf; exact ⟨rfl,hf⟩
   | cons p L ih =>
    intro f hL hf
    have ⟨_,_,_,hc⟩:=xv hd (hL p (by simp))
    obtain ⟨e1,e2⟩:=uM hl n (eQ o l st p) (so++[p]) (done.set p.Oper.toNat true) f (by omega) (by simpa using hd) hf
    rw [List.flatMap_cons,ur,← e1]
    unfold ly
    by_cases h:(fu o l n (eQ o l st p) (so++[p]) (done.set p.Oper.toNat true) f).1.2=true
    ·rw [if_pos h,if_pos h]; exact ⟨rfl,e2⟩
    ·rw [if_neg h,if_neg h]
     exact ih _ (fun q hq=>hL q (by simp [hq])) e2
  obtain ⟨t1,t2⟩:=hT (bG o l st done) f (fun _ h=>h) hf
  have hA:mg o l (n+1) st done=(if kg l done then [[]] else [])++(bG o l st done).flatMap fun p=>(mg o l n (eQ o l st p) (done.set p.Oper.toNat true)).map (p :: ·):=rfl
  unfold fu
  by_cases hw:kg l done=true
  ·rw [if_pos hw,hA,if_pos hw]
   exact ⟨by simp [iw],hf⟩
  ·rw [if_neg hw]
   by_cases hm:(aC f (iv done st)).getD 0 > 0
   ·rw [if_pos hm]
    have:=hf done st hd hm
    rw [← hn] at this
    rw [this]
    exact ⟨rfl,hf⟩
   ·rw [if_neg hm]
    rw [if_neg hw,List.nil_append] at hA
    rw [hA]
    by_cases h2:(ly (fun p f=>fu o l n (eQ o l st p) (so++[p]) (done.set p.Oper.toNat true) f) (bG o l st done) f).1.2=true
    ·rw [if_pos h2]; exact ⟨t1,t2⟩
    ·rw [if_neg h2]
     have Dd:((bG o l st done).flatMap fun p=>(mg o l n (eQ o l st p) (done.set p.Oper.toNat true)).map (p :: ·))=[]:=by
      rw [t1] at h2
      revert h2
      cases ((bG o l st done).flatMap fun p=>(mg o l n (eQ o l st p) (done.set p.Oper.toNat true)).map (p :: ·)) with
      | nil=>intro _; rfl
      | cons x A=>intro h; simp [iw] at h
     refine ⟨by rw [Dd]; rfl,Fb hl hd t2 ?_⟩
     rw [← hn,hA,Dd]
theorem AP (o:ah) (l:List ab):mM o l []:=fun done st _ h=>by simp [aC] at h
end Go.Proofs.YteahldlmkheleaaGreat
