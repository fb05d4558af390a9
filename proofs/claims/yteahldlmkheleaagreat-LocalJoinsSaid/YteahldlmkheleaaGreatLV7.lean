/- Ra ways on,and the first of them; plain. -/
import Derived.Test.YteahldlmkheleaaGreatLV6
set_option linter.all false
namespace Go.Proofs.YteahldlmkheleaaGreat
open Go Go.Sv Go.Pu
def mx (o:al) (l:List ab):Int→List Bool→List aa→Prop
 | _,done,[]=>ki l done=true
 | st,done,p :: ps=>p∈bF o l st done∧mx o l (eT o l st p) (done.set p.Oper.toNat true) ps
theorem s5 {o:al} {l:List ab}:∀ (n:Nat) (st:Int) (done:List Bool) (ps:List aa),ps∈mn o l n st done↔ps.length < n∧mx o l st done ps
 | 0,st,done,ps=>by simp [mn]
 | n+1,st,done,[]=>by
  unfold mn mx
  rw [List.mem_append,List.mem_flatMap]
  constructor
  ·rintro (h | ⟨p,_,h⟩)
   ·split at h
    ·rename_i hw; exact ⟨by simp,hw⟩
    ·cases h
   ·obtain ⟨_,_,h⟩:=List.mem_map.1 h; cases h
  ·rintro ⟨_,hw⟩; left; rw [if_pos hw]; simp
 | n+1,st,done,p :: ps=>by
  unfold mn mx
  rw [List.mem_append,List.mem_flatMap]
  constructor
  ·rintro (h | ⟨q,hq,h⟩)
   ·split at h
    ·simp at h
    ·cases h
   ·obtain ⟨r,hr,h⟩:=List.mem_map.1 h
    obtain ⟨rfl,rfl⟩:=List.cons.inj h
    have:=(s5 n _ _ _).1 hr
    exact ⟨by simp only [List.length_cons]; omega,hq,this.2⟩
  ·rintro ⟨hl,hp,hw⟩
   right
   exact ⟨p,hp,List.mem_map.2 ⟨ps,(s5 n _ _ _).2 ⟨by simp only [List.length_cons] at hl; omega,hw⟩,rfl⟩⟩
theorem xO {o:al} {l:List ab} {st:Int} {done:List Bool} {p:aa} (hd:done.length=l.length) (h:p∈bF o l st done):0≤p.Oper∧p.Oper < l.length∧gi done p.Oper=false∧cf (done.set p.Oper.toNat true)+1=cf done:=by
 obtain ⟨_,a,b,c,_⟩:=qf h
 have:=uV a (by omega) c
 exact ⟨a,b,this,BC a (by omega) this⟩
theorem xa {o:al} {l:List ab}:∀ (ps:List aa) (st:Int) (done:List Bool),done.length=l.length→mx o l st done ps→ps.length≤cf done
 | [],_,_,_,_=>by simp
 | p :: ps,st,done,hd,h=>by
  have ⟨_,_,_,hc⟩:=xO hd h.1
  have:=xa ps _ _ (by simpa using hd) h.2
  simp only [List.length_cons]; omega
theorem Dn {o:al} {l:List ab} {st:Int} {done:List Bool} (hd:done.length=l.length) {ps:List aa}:ps∈mn o l (cf done+1) st done↔mx o l st done ps:=by
 rw [s5]
 exact ⟨fun h=>h.2,fun h=>⟨by have:=xa ps st done hd h; omega,h⟩⟩
def vT:List Bool→Nat
 | []=>0
 | b :: r=>(if b then 1 else 0)+2 * vT r
theorem tU:∀ (a b:List Bool),a.length=b.length→vT a=vT b→a=b
 | [],[],_,_=>rfl
 | x :: a,y :: b,h,hv=>by
  unfold vT at hv
  have e:x=y:=by cases x <;> cases y <;> simp at hv ⊢ <;> omega
  subst e
  rw [tU a b (by simpa using h) (by omega)]
theorem Dk {i:Nat} (h:i < 32):Dl (i:Int)=((2 ^ i:Nat):Int):=by
 have h2:2 ^ i≤2 ^ 31:=Nat.pow_le_pow_right (by decide) (by omega)
 unfold Dl
 rw [show min (i:Int).toNat IntKind.u32.bits=i by show min _ 32=_; omega]
 have e:(1 * 2 ^ i:Int)=((2 ^ i:Nat):Int):=by push_cast; omega
 rw [e]
 generalize 2 ^ i=x at *
 have:x≤2147483648:=by simpa using h2
 simp [IntKind.wrap,IntKind.signed,IntKind.bits]; omega
theorem EV {i m:Nat} (h:i < 32) (hm:m < 2 ^ i):orU (m:Int) ((2 ^ i:Nat):Int)=((m+2 ^ i:Nat):Int):=by
 have h2:2 ^ i≤2 ^ 31:=Nat.pow_le_pow_right (by decide) (by omega)
 have h3:m ||| 2 ^ i=m+2 ^ i:=by
  have:=Nat.two_pow_add_eq_or_of_lt hm 1
  rw [Nat.mul_one] at this
  rw [Nat.or_comm,← this,Nat.add_comm]
 unfold orU
 have e1:∀ x:Nat,x < 2 ^ 32→(BitVec.ofInt IntKind.u32.bits (x:Int)).toNat=x:=fun x hx=>by
  show (BitVec.ofInt 32 (x:Int)).toNat=x
  rw [BitVec.ofInt_natCast,BitVec.toNat_ofNat]
  exact Nat.mod_eq_of_lt hx
 rw [BitVec.toNat_or,e1 m (by omega),e1 _ (by omega),h3]
 generalize 2 ^ i=x at *
 have:x≤2147483648:=by simpa using h2
 simp [IntKind.wrap,IntKind.signed,IntKind.bits]; omega
theorem pt:∀ (d:List Bool) (i m:Nat),i+d.length≤32→m < 2 ^ i→jC d (i:Int) (m:Int)=((m+2 ^ i * vT d:Nat):Int)
 | [],i,m,_,_=>by simp [jC,vT]
 | b :: d,i,m,h,hm=>by
  simp only [List.length_cons] at h
  have hp:2 ^ (i+1)=2 ^ i * 2:=Nat.pow_succ ..
  unfold jC vT
  rw [show ((i:Int)+1)=((i+1:Nat):Int) by push_cast; rfl]
  cases b with
  | true =>
   rw [if_pos rfl,if_pos rfl,Dk (by omega),EV (by omega) hm,pt d (i+1) (m+2 ^ i) (by omega) (by omega),hp,Nat.mul_add,Nat.mul_assoc]
   congr 1; omega
  | false =>
   rw [if_neg (by simp),if_neg (by simp),pt d (i+1) m (by omega) (by omega),hp,Nat.mul_add,Nat.mul_assoc]
   congr 1; omega
theorem Be {a b:List Bool} {s t:Int} (hl:a.length=b.length) (h:a.length≤20) (he:iv a s=iv b t):a=b∧s=t:=by
 unfold iv at he
 injection he with h1 h2
 refine ⟨?_,h2⟩
 have e1:=pt a 0 0 (by omega) (by decide)
 have e2:=pt b 0 0 (by omega) (by decide)
 have h1:jC a ((0:Nat):Int) ((0:Nat):Int)=jC b ((0:Nat):Int) ((0:Nat):Int):=h1
 rw [e1,e2] at h1
 exact tU a b hl (by omega)
def iw (so:List aa):List (List aa)→List aa × Bool
 | []=>([],false)
 | x :: _=>(so++x,true)
def mS (o:al) (l:List ab) (f:Fm):Prop:=∀ done st,done.length=l.length→(aC f (iv done st)).getD 0 > 0→mn o l (cf done+1) st done=[]
theorem ET {o:al} {l:List ab} {f:Fm} {done:List Bool} {st:Int} (hl:l.length≤20) (hd:done.length=l.length) (h:mS o l f) (ha:mn o l (cf done+1) st done=[]):mS o l (nP f (iv done st)):=by
 unfold nP
 split
 ·exact h
 ·intro Ew Mf FJ hg
  rw [eO] at hg
  by_cases e:iv Ew Mf=iv done st
  ·obtain ⟨rfl,rfl⟩:=Be (by omega) (by omega) e
   exact ha
  ·rw [if_neg e] at hg
   exact h Ew Mf FJ hg
theorem uE (so:List aa) (p:aa) (A B:List (List aa)):iw so (A.map (p :: ·)++B)=if (iw (so++[p]) A).2 then iw (so++[p]) A else iw so B:=by
 cases A with
 | nil=>simp [iw]
 | cons x A=>simp [iw]
theorem u5 {o:al} {l:List ab} (hl:l.length≤20):∀ (n:Nat) (st:Int) (so:List aa) (done:List Bool) (f:Fm),n=cf done+1→done.length=l.length→mS o l f →
  (fA o l n st so done f).1=iw so (mn o l n st done)∧mS o l (fA o l n st so done f).2
 | 0,_,_,_,_,h,_,_=>by omega
 | n+1,st,so,done,f,hn,hd,hf=>by
  have hT:∀ (L:List aa) (f:Fm),(∀ p∈L,p∈bF o l st done)→mS o l f →
    (lx (fun p f=>fA o l n (eT o l st p) (so++[p]) (done.set p.Oper.toNat true) f) L f).1=iw so (L.flatMap fun p=>(mn o l n (eT o l st p) (done.set p.Oper.toNat true)).map (p :: ·)) ∧
    mS o l (lx (fun p f=>fA o l n (eT o l st p) (so++[p]) (done.set p.Oper.toNat true) f) L f).2:=by
   intro L
   induction L with
   | nil=>intro f _ hf; exact ⟨rfl,hf⟩
   | cons p L ih =>
    intro f hL hf
    have ⟨_,_,_,hc⟩:=xO hd (hL p (by simp))
    obtain ⟨e1,e2⟩:=u5 hl n (eT o l st p) (so++[p]) (done.set p.Oper.toNat true) f (by omega) (by simpa using hd) hf
    rw [List.flatMap_cons,uE,← e1]
    unfold lx
    by_cases h:(fA o l n (eT o l st p) (so++[p]) (done.set p.Oper.toNat true) f).1.2=true
    ·rw [if_pos h,if_pos h]; exact ⟨rfl,e2⟩
    ·rw [if_neg h,if_neg h]
     exact ih _ (fun q hq=>hL q (by simp [hq])) e2
  obtain ⟨t1,t2⟩:=hT (bF o l st done) f (fun _ h=>h) hf
  have hA:mn o l (n+1) st done=(if ki l done then [[]] else [])++(bF o l st done).flatMap fun p=>(mn o l n (eT o l st p) (done.set p.Oper.toNat true)).map (p :: ·):=rfl
  unfold fA
  by_cases hw:ki l done=true
  ·rw [if_pos hw,hA,if_pos hw]
   exact ⟨by simp [iw],hf⟩
  ·rw [if_neg hw]
   by_cases hm:(aC f (iv done st)).getD 0 > 0
   ·rw [if_pos hm]
    have:=hf done st hd hm
    rw [← hn] at this
    rw [this]
    exact ⟨rfl,hf⟩
   ·rw [if_neg hm]
    rw [if_neg hw,List.nil_append] at hA
    rw [hA]
    by_cases h2:(lx (fun p f=>fA o l n (eT o l st p) (so++[p]) (done.set p.Oper.toNat true) f) (bF o l st done) f).1.2=true
    ·rw [if_pos h2]; exact ⟨t1,t2⟩
    ·rw [if_neg h2]
     have C0:((bF o l st done).flatMap fun p=>(mn o l n (eT o l st p) (done.set p.Oper.toNat true)).map (p :: ·))=[]:=by
      rw [t1] at h2
      revert h2
      cases ((bF o l st done).flatMap fun p=>(mn o l n (eT o l st p) (done.set p.Oper.toNat true)).map (p :: ·)) with
      | nil=>intro _; rfl
      | cons x A=>intro h; simp [iw] at h
     refine ⟨by rw [C0]; rfl,ET hl hd t2 ?_⟩
     rw [← hn,hA,C0]
theorem AV (o:al) (l:List ab):mS o l []:=fun done st _ h=>by simp [aC] at h
end Go.Proofs.YteahldlmkheleaaGreat
