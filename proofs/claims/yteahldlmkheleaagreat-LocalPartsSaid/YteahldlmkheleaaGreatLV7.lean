/- Lemmas. -/
import Derived.Test.YteahldlmkheleaaGreatLV6
set_option linter.all false
namespace Go.Proofs.YteahldlmkheleaaGreat
open Go Go.Sv Go.Pu
def nc (o:aj) (l:List ab):Int→List Bool→List aa→Prop
 | _,done,[]=>kY l done=true
 | st,done,p :: ps=>p∈bM o l st done∧nc o l (fe o l st p) (done.set p.Oper.toNat true) ps
theorem tW {o:aj} {l:List ab}:∀ (n:Nat) (st:Int) (done:List Bool) (ps:List aa),ps∈m6 o l n st done↔ps.length < n∧nc o l st done ps
 | 0,st,done,ps=>by simp [m6]
 | n+1,st,done,[]=>by
  unfold m6 nc
  rw [List.mem_append,List.mem_flatMap]
  constructor
  ·rintro (h | ⟨p,_,h⟩)
   ·split at h
    ·rename_i hw; exact ⟨by simp,hw⟩
    ·cases h
   ·obtain ⟨_,_,h⟩:=List.mem_map.1 h; cases h
  ·rintro ⟨_,hw⟩; left; rw [if_pos hw]; simp
 | n+1,st,done,p :: ps=>by
  unfold m6 nc
  rw [List.mem_append,List.mem_flatMap]
  constructor
  ·rintro (h | ⟨q,hq,h⟩)
   ·split at h
    ·simp at h
    ·cases h
   ·obtain ⟨r,hr,h⟩:=List.mem_map.1 h
    obtain ⟨rfl,rfl⟩:=List.cons.inj h
    have:=(tW n _ _ _).1 hr
    exact ⟨by simp only [List.length_cons]; omega,hq,this.2⟩
  ·rintro ⟨hl,hp,hw⟩
   right
   exact ⟨p,hp,List.mem_map.2 ⟨ps,(tW n _ _ _).2 ⟨by simp only [List.length_cons] at hl; omega,hw⟩,rfl⟩⟩
theorem yN {o:aj} {l:List ab} {st:Int} {done:List Bool} {p:aa} (hd:done.length=l.length) (h:p∈bM o l st done):0≤p.Oper∧p.Oper < l.length∧gi done p.Oper=false∧cf (done.set p.Oper.toNat true)+1=cf done:=by
 obtain ⟨_,a,b,c,_⟩:=q9 h
 have:=vN a (by omega) c
 exact ⟨a,b,this,CM a (by omega) this⟩
theorem yb {o:aj} {l:List ab}:∀ (ps:List aa) (st:Int) (done:List Bool),done.length=l.length→nc o l st done ps→ps.length≤cf done
 | [],_,_,_,_=>by simp
 | p :: ps,st,done,hd,h=>by
  have ⟨_,_,_,hc⟩:=yN hd h.1
  have:=yb ps _ _ (by simpa using hd) h.2
  simp only [List.length_cons]; omega
theorem EP {o:aj} {l:List ab} {st:Int} {done:List Bool} (hd:done.length=l.length) {ps:List aa}:ps∈m6 o l (cf done+1) st done↔nc o l st done ps:=by
 rw [tW]
 exact ⟨fun h=>h.2,fun h=>⟨by have:=yb ps st done hd h; omega,h⟩⟩
def wU:List Bool→Nat
 | []=>0
 | b :: r=>(if b then 1 else 0)+2 * wU r
theorem uO:∀ (a b:List Bool),a.length=b.length→wU a=wU b→a=b
 | [],[],_,_=>rfl
 | x :: a,y :: b,h,hv=>by
  unfold wU at hv
  have e:x=y:=by cases x <;> cases y <;> simp at hv ⊢ <;> omega
  subst e
  rw [uO a b (by simpa using h) (by omega)]
theorem EM {i:Nat} (h:i < 32):EN (i:Int)=((2 ^ i:Nat):Int):=by
 have h2:2 ^ i≤2 ^ 31:=Nat.pow_le_pow_right (by decide) (by omega)
 unfold EN
 rw [show min (i:Int).toNat IntKind.u32.bits=i by show min _ 32=_; omega]
 have e:(1 * 2 ^ i:Int)=((2 ^ i:Nat):Int):=by push_cast; omega
 rw [e]
 generalize 2 ^ i=x at *
 have:x≤2147483648:=by simpa using h2
 simp [IntKind.wrap,IntKind.signed,IntKind.bits]; omega
theorem Gx {i m:Nat} (h:i < 32) (hm:m < 2 ^ i):orU (m:Int) ((2 ^ i:Nat):Int)=((m+2 ^ i:Nat):Int):=by
 have h2:2 ^ i≤2 ^ 31:=Nat.pow_le_pow_right (by decide) (by omega)
 have h3:m ||| 2 ^ i=m+2 ^ i:=by
  have:=Nat.two_pow_add_eq_or_of_lt hm 1
  rw [Nat.mul_one] at this
  rw [Nat.or_comm,← this,Nat.add_comm]
 unfold orU
 have e1:∀ x:Nat,x < 2 ^ 32→(BitVec.ofInt IntKind.u32.bits (x:Int)).toNat=x:=fun x hx=>by
  show (BitVec.ofInt 32 (x:Int)).toNat=x
  rw [BitVec.ofInt_natCast,BitVec.toNat_ofNat]
  exact Nat.mod_eq_of_lt hx
 rw [BitVec.toNat_or,e1 m (by omega),e1 _ (by omega),h3]
 generalize 2 ^ i=x at *
 have:x≤2147483648:=by simpa using h2
 simp [IntKind.wrap,IntKind.signed,IntKind.bits]; omega
theorem qe:∀ (d:List Bool) (i m:Nat),i+d.length≤32→m < 2 ^ i→kg d (i:Int) (m:Int)=((m+2 ^ i * wU d:Nat):Int)
 | [],i,m,_,_=>by simp [kg,wU]
 | b :: d,i,m,h,hm=>by
  simp only [List.length_cons] at h
  have hp:2 ^ (i+1)=2 ^ i * 2:=Nat.pow_succ ..
  unfold kg wU
  rw [show ((i:Int)+1)=((i+1:Nat):Int) by push_cast; rfl]
  cases b with
  | true =>
   rw [if_pos rfl,if_pos rfl,EM (by omega),Gx (by omega) hm,qe d (i+1) (m+2 ^ i) (by omega) (by omega),hp,Nat.mul_add,Nat.mul_assoc]
   congr 1; omega
  | false =>
   rw [if_neg (by simp),if_neg (by simp),qe d (i+1) m (by omega) (by omega),hp,Nat.mul_add,Nat.mul_assoc]
   congr 1; omega
theorem Co {a b:List Bool} {s t:Int} (hl:a.length=b.length) (h:a.length≤20) (he:iV a s=iV b t):a=b∧s=t:=by
 unfold iV at he
 injection he with h1 h2
 refine ⟨?_,h2⟩
 have e1:=qe a 0 0 (by omega) (by decide)
 have e2:=qe b 0 0 (by omega) (by decide)
 have h1:kg a ((0:Nat):Int) ((0:Nat):Int)=kg b ((0:Nat):Int) ((0:Nat):Int):=h1
 rw [e1,e2] at h1
 exact uO a b hl (by omega)
def iW (so:List aa):List (List aa)→List aa × Bool
 | []=>([],false)
 | x :: _=>(so++x,true)
def nH (o:aj) (l:List ab) (f:Fm):Prop:=∀ done st,done.length=l.length→(aF f (iV done st)).getD 0 > 0→m6 o l (cf done+1) st done=[]
theorem Gt {o:aj} {l:List ab} {f:Fm} {done:List Bool} {st:Int} (hl:l.length≤20) (hd:done.length=l.length) (h:nH o l f) (ha:m6 o l (cf done+1) st done=[]):nH o l (oA f (iV done st)):=by
 unfold oA
 split
 ·exact h
 ·intro F3 Oh Hk hg
  rw [fm] at hg
  by_cases e:iV F3 Oh=iV done st
  ·obtain ⟨rfl,rfl⟩:=Co (by omega) (by omega) e
   exact ha
  ·rw [if_neg e] at hg
   exact h F3 Oh Hk hg
theorem vx (so:List aa) (p:aa) (A B:List (List aa)):iW so (A.map (p :: ·)++B)=if (iW (so++[p]) A).2 then iW (so++[p]) A else iW so B:=by
 cases A with
 | nil=>simp [iW]
 | cons x A=>simp [iW]
theorem vT {o:aj} {l:List ab} (hl:l.length≤20):∀ (n:Nat) (st:Int) (so:List aa) (done:List Bool) (f:Fm),n=cf done+1→done.length=l.length→nH o l f →
  (fN o l n st so done f).1=iW so (m6 o l n st done)∧nH o l (fN o l n st so done f).2
 | 0,_,_,_,_,h,_,_=>by omega
 | n+1,st,so,done,f,hn,hd,hf=>by
  have hT:∀ (L:List aa) (f:Fm),(∀ p∈L,p∈bM o l st done)→nH o l f →
    (me (fun p f=>fN o l n (fe o l st p) (so++[p]) (done.set p.Oper.toNat true) f) L f).1=iW so (L.flatMap fun p=>(m6 o l n (fe o l st p) (done.set p.Oper.toNat true)).map (p :: ·)) ∧
    nH o l (me (fun p f=>fN o l n (fe o l st p) (so++[p]) (done.set p.Oper.toNat true) f) L f).2:=by
   intro L
   induction L with
   | nil=>intro f _ hf; exact ⟨rfl,hf⟩
   | cons p L ih =>
    intro f hL hf
    have ⟨_,_,_,hc⟩:=yN hd (hL p (by simp))
    obtain ⟨e1,e2⟩:=vT hl n (fe o l st p) (so++[p]) (done.set p.Oper.toNat true) f (by omega) (by simpa using hd) hf
    rw [List.flatMap_cons,vx,← e1]
    unfold me
    by_cases h:(fN o l n (fe o l st p) (so++[p]) (done.set p.Oper.toNat true) f).1.2=true
    ·rw [if_pos h,if_pos h]; exact ⟨rfl,e2⟩
    ·rw [if_neg h,if_neg h]
     exact ih _ (fun q hq=>hL q (by simp [hq])) e2
  obtain ⟨t1,t2⟩:=hT (bM o l st done) f (fun _ h=>h) hf
  have hA:m6 o l (n+1) st done=(if kY l done then [[]] else [])++(bM o l st done).flatMap fun p=>(m6 o l n (fe o l st p) (done.set p.Oper.toNat true)).map (p :: ·):=rfl
  unfold fN
  by_cases hw:kY l done=true
  ·rw [if_pos hw,hA,if_pos hw]
   exact ⟨by simp [iW],hf⟩
  ·rw [if_neg hw]
   by_cases hm:(aF f (iV done st)).getD 0 > 0
   ·rw [if_pos hm]
    have:=hf done st hd hm
    rw [← hn] at this
    rw [this]
    exact ⟨rfl,hf⟩
   ·rw [if_neg hm]
    rw [if_neg hw,List.nil_append] at hA
    rw [hA]
    by_cases h2:(me (fun p f=>fN o l n (fe o l st p) (so++[p]) (done.set p.Oper.toNat true) f) (bM o l st done) f).1.2=true
    ·rw [if_pos h2]; exact ⟨t1,t2⟩
    ·rw [if_neg h2]
     have Es:((bM o l st done).flatMap fun p=>(m6 o l n (fe o l st p) (done.set p.Oper.toNat true)).map (p :: ·))=[]:=by
      rw [t1] at h2
      revert h2
      cases ((bM o l st done).flatMap fun p=>(m6 o l n (fe o l st p) (done.set p.Oper.toNat true)).map (p :: ·)) with
      | nil=>intro _; rfl
      | cons x A=>intro h; simp [iW] at h
     refine ⟨by rw [Es]; rfl,Gt hl hd t2 ?_⟩
     rw [← hn,hA,Es]
theorem B4 (o:aj) (l:List ab):nH o l []:=fun done st _ h=>by simp [aF] at h
end Go.Proofs.YteahldlmkheleaaGreat
