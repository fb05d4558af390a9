/- All ways on, and the first of them; plain. -/
import Derived.Test.YteahldlmkheleaaGreatLV6
set_option linter.all false
namespace Go.Proofs.YteahldlmkheleaaGreat
open Go Go.Sv Go.Pu
def nk (o:ao) (l:List ab):Int→List Bool→List aa→Prop
 | _,done,[]=>kY l done=true
 | st,done,p :: ps=>p∈bL o l st done∧nk o l (fh o l st p) (done.set p.Oper.toNat true) ps
theorem ug {o:ao} {l:List ab}:∀ (n:Nat) (st:Int) (done:List Bool) (ps:List aa),ps∈na o l n st done↔ps.length < n∧nk o l st done ps
 | 0,st,done,ps=>by simp [na]
 | n+1,st,done,[]=>by
  unfold na nk
  rw [List.mem_append,List.mem_flatMap]
  constructor
  ·rintro (h | ⟨p,_,h⟩)
   ·split at h
    ·rename_i hw; exact ⟨by simp,hw⟩
    ·cases h
   ·obtain ⟨_,_,h⟩:=List.mem_map.1 h; cases h
  ·rintro ⟨_,hw⟩; left; rw [if_pos hw]; simp
 | n+1,st,done,p :: ps=>by
  unfold na nk
  rw [List.mem_append,List.mem_flatMap]
  constructor
  ·rintro (h | ⟨q,hq,h⟩)
   ·split at h
    ·simp at h
    ·cases h
   ·obtain ⟨r,hr,h⟩:=List.mem_map.1 h
    obtain ⟨rfl,rfl⟩:=List.cons.inj h
    have:=(ug n _ _ _).1 hr
    exact ⟨by simp only [List.length_cons]; omega,hq,this.2⟩
  ·rintro ⟨hl,hp,hw⟩
   right
   exact ⟨p,hp,List.mem_map.2 ⟨ps,(ug n _ _ _).2 ⟨by simp only [List.length_cons] at hl; omega,hw⟩,rfl⟩⟩
theorem zi {o:ao} {l:List ab} {st:Int} {done:List Bool} {p:aa} (hd:done.length=l.length) (h:p∈bL o l st done):0≤p.Oper∧p.Oper < l.length∧gi done p.Oper=false∧cf (done.set p.Oper.toNat true)+1=cf done:=by
 obtain ⟨_,a,b,c,_⟩:=q7 h
 have:=wa a (by omega) c
 exact ⟨a,b,this,CQ a (by omega) this⟩
theorem yy {o:ao} {l:List ab}:∀ (ps:List aa) (st:Int) (done:List Bool),done.length=l.length→nk o l st done ps→ps.length≤cf done
 | [],_,_,_,_=>by simp
 | p :: ps,st,done,hd,h=>by
  have ⟨_,_,_,hc⟩:=zi hd h.1
  have:=yy ps _ _ (by simpa using hd) h.2
  simp only [List.length_cons]; omega
theorem ED {o:ao} {l:List ab} {st:Int} {done:List Bool} (hd:done.length=l.length) {ps:List aa}:ps∈na o l (cf done+1) st done↔nk o l st done ps:=by
 rw [ug]
 exact ⟨fun h=>h.2,fun h=>⟨by have:=yy ps st done hd h; omega,h⟩⟩
def xj:List Bool→Nat
 | []=>0
 | b :: r=>(if b then 1 else 0)+2 * xj r
theorem u4:∀ (a b:List Bool),a.length=b.length→xj a=xj b→a=b
 | [],[],_,_=>rfl
 | x :: a,y :: b,h,hv=>by
  unfold xj at hv
  have e:x=y:=by cases x <;> cases y <;> simp at hv ⊢ <;> omega
  subst e
  rw [u4 a b (by simpa using h) (by omega)]
theorem EA {i:Nat} (h:i < 32):EB (i:Int)=((2 ^ i:Nat):Int):=by
 have h2:2 ^ i≤2 ^ 31:=Nat.pow_le_pow_right (by decide) (by omega)
 unfold EB
 rw [show min (i:Int).toNat IntKind.u32.bits=i by show min _ 32=_; omega]
 have e:(1 * 2 ^ i:Int)=((2 ^ i:Nat):Int):=by push_cast; omega
 rw [e]
 generalize 2 ^ i=x at *
 have:x≤2147483648:=by simpa using h2
 simp [IntKind.wrap,IntKind.signed,IntKind.bits]; omega
theorem Ge {i m:Nat} (h:i < 32) (hm:m < 2 ^ i):orU (m:Int) ((2 ^ i:Nat):Int)=((m+2 ^ i:Nat):Int):=by
 have h2:2 ^ i≤2 ^ 31:=Nat.pow_le_pow_right (by decide) (by omega)
 have h3:m ||| 2 ^ i=m+2 ^ i:=by
  have:=Nat.two_pow_add_eq_or_of_lt hm 1
  rw [Nat.mul_one] at this
  rw [Nat.or_comm,← this,Nat.add_comm]
 unfold orU
 have e1:∀ x:Nat,x < 2 ^ 32→(BitVec.ofInt IntKind.u32.bits (x:Int)).toNat=x:=fun x hx=>by
  show (BitVec.ofInt 32 (x:Int)).toNat=x
  rw [BitVec.ofInt_natCast,BitVec.toNat_ofNat]
  exact Nat.mod_eq_of_lt hx
 rw [BitVec.toNat_or,e1 m (by omega),e1 _ (by omega),h3]
 generalize 2 ^ i=x at *
 have:x≤2147483648:=by simpa using h2
 simp [IntKind.wrap,IntKind.signed,IntKind.bits]; omega
theorem qg:∀ (d:List Bool) (i m:Nat),i+d.length≤32→m < 2 ^ i→ke d (i:Int) (m:Int)=((m+2 ^ i * xj d:Nat):Int)
 | [],i,m,_,_=>by simp [ke,xj]
 | b :: d,i,m,h,hm=>by
  simp only [List.length_cons] at h
  have hp:2 ^ (i+1)=2 ^ i * 2:=Nat.pow_succ ..
  unfold ke xj
  rw [show ((i:Int)+1)=((i+1:Nat):Int) by push_cast; rfl]
  cases b with
  | true =>
   rw [if_pos rfl,if_pos rfl,EA (by omega),Ge (by omega) hm,qg d (i+1) (m+2 ^ i) (by omega) (by omega),hp,Nat.mul_add,Nat.mul_assoc]
   congr 1; omega
  | false =>
   rw [if_neg (by simp),if_neg (by simp),qg d (i+1) m (by omega) (by omega),hp,Nat.mul_add,Nat.mul_assoc]
   congr 1; omega
theorem Ct {a b:List Bool} {s t:Int} (hl:a.length=b.length) (h:a.length≤20) (he:iV a s=iV b t):a=b∧s=t:=by
 unfold iV at he
 injection he with h1 h2
 refine ⟨?_,h2⟩
 have e1:=qg a 0 0 (by omega) (by decide)
 have e2:=qg b 0 0 (by omega) (by decide)
 have h1:ke a ((0:Nat):Int) ((0:Nat):Int)=ke b ((0:Nat):Int) ((0:Nat):Int):=h1
 rw [e1,e2] at h1
 exact u4 a b hl (by omega)
def iW (so:List aa):List (List aa)→List aa × Bool
 | []=>([],false)
 | x :: _=>(so++x,true)
def nL (o:ao) (l:List ab) (f:Fm):Prop:=∀ done st,done.length=l.length→(aF f (iV done st)).getD 0 > 0→na o l (cf done+1) st done=[]
theorem Gb {o:ao} {l:List ab} {f:Fm} {done:List Bool} {st:Int} (hl:l.length≤20) (hd:done.length=l.length) (h:nL o l f) (ha:na o l (cf done+1) st done=[]):nL o l (oI f (iV done st)):=by
 unfold oI
 split
 ·exact h
 ·intro FP NG G1 hg
  rw [fc] at hg
  by_cases e:iV FP NG=iV done st
  ·obtain ⟨rfl,rfl⟩:=Ct (by omega) (by omega) e
   exact ha
  ·rw [if_neg e] at hg
   exact h FP NG G1 hg
theorem vK (so:List aa) (p:aa) (A B:List (List aa)):iW so (A.map (p :: ·)++B)=if (iW (so++[p]) A).2 then iW (so++[p]) A else iW so B:=by
 cases A with
 | nil=>simp [iW]
 | cons x A=>simp [iW]
theorem wi {o:ao} {l:List ab} (hl:l.length≤20):∀ (n:Nat) (st:Int) (so:List aa) (done:List Bool) (f:Fm),n=cf done+1→done.length=l.length→nL o l f →
  (fS o l n st so done f).1=iW so (na o l n st done)∧nL o l (fS o l n st so done f).2
 | 0,_,_,_,_,h,_,_=>by omega
 | n+1,st,so,done,f,hn,hd,hf=>by
  have hT:∀ (L:List aa) (f:Fm),(∀ p∈L,p∈bL o l st done)→nL o l f →
    (mc (fun p f=>fS o l n (fh o l st p) (so++[p]) (done.set p.Oper.toNat true) f) L f).1=iW so (L.flatMap fun p=>(na o l n (fh o l st p) (done.set p.Oper.toNat true)).map (p :: ·)) ∧
    nL o l (mc (fun p f=>fS o l n (fh o l st p) (so++[p]) (done.set p.Oper.toNat true) f) L f).2:=by
   intro L
   induction L with
   | nil=>intro f _ hf; exact ⟨rfl,hf⟩
   | cons p L ih =>
    intro f hL hf
    have ⟨_,_,_,hc⟩:=zi hd (hL p (by simp))
    obtain ⟨e1,e2⟩:=wi hl n (fh o l st p) (so++[p]) (done.set p.Oper.toNat true) f (by omega) (by simpa using hd) hf
    rw [List.flatMap_cons,vK,← e1]
    unfold mc
    by_cases h:(fS o l n (fh o l st p) (so++[p]) (done.set p.Oper.toNat true) f).1.2=true
    ·rw [if_pos h,if_pos h]; exact ⟨rfl,e2⟩
    ·rw [if_neg h,if_neg h]
     exact ih _ (fun q hq=>hL q (by simp [hq])) e2
  obtain ⟨t1,t2⟩:=hT (bL o l st done) f (fun _ h=>h) hf
  have hA:na o l (n+1) st done=(if kY l done then [[]] else [])++(bL o l st done).flatMap fun p=>(na o l n (fh o l st p) (done.set p.Oper.toNat true)).map (p :: ·):=rfl
  unfold fS
  by_cases hw:kY l done=true
  ·rw [if_pos hw,hA,if_pos hw]
   exact ⟨by simp [iW],hf⟩
  ·rw [if_neg hw]
   by_cases hm:(aF f (iV done st)).getD 0 > 0
   ·rw [if_pos hm]
    have:=hf done st hd hm
    rw [← hn] at this
    rw [this]
    exact ⟨rfl,hf⟩
   ·rw [if_neg hm]
    rw [if_neg hw,List.nil_append] at hA
    rw [hA]
    by_cases h2:(mc (fun p f=>fS o l n (fh o l st p) (so++[p]) (done.set p.Oper.toNat true) f) (bL o l st done) f).1.2=true
    ·rw [if_pos h2]; exact ⟨t1,t2⟩
    ·rw [if_neg h2]
     have Ei:((bL o l st done).flatMap fun p=>(na o l n (fh o l st p) (done.set p.Oper.toNat true)).map (p :: ·))=[]:=by
      rw [t1] at h2
      revert h2
      cases ((bL o l st done).flatMap fun p=>(na o l n (fh o l st p) (done.set p.Oper.toNat true)).map (p :: ·)) with
      | nil=>intro _; rfl
      | cons x A=>intro h; simp [iW] at h
     refine ⟨by rw [Ei]; rfl,Gb hl hd t2 ?_⟩
     rw [← hn,hA,Ei]
theorem B9 (o:ao) (l:List ab):nL o l []:=fun done st _ h=>by simp [aF] at h
end Go.Proofs.YteahldlmkheleaaGreat
