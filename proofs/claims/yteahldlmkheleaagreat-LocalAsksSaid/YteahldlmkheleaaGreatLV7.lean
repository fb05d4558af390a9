/- Lemmas. -/
import Derived.Test.YteahldlmkheleaaGreatLV6
set_option linter.all false
namespace Go.Proofs.YteahldlmkheleaaGreat
open Go Go.Sv Go.Pu
def mP (o:ae) (l:List ab):Int→List Bool→List aa→Prop
 | _,done,[]=>kQ l done=true
 | st,done,p :: ps=>p∈bK o l st done∧mP o l (e6 o l st p) (done.set p.Oper.toNat true) ps
theorem tF {o:ae} {l:List ab}:∀ (n:Nat) (st:Int) (done:List Bool) (ps:List aa),ps∈mK o l n st done↔ps.length < n∧mP o l st done ps
 | 0,st,done,ps=>by simp [mK]
 | n+1,st,done,[]=>by
  unfold mK mP
  rw [List.mem_append,List.mem_flatMap]
  constructor
  ·rintro (h | ⟨p,_,h⟩)
   ·split at h
    ·rename_i hw; exact ⟨by simp,hw⟩
    ·cases h
   ·obtain ⟨_,_,h⟩:=List.mem_map.1 h; cases h
  ·rintro ⟨_,hw⟩; left; rw [if_pos hw]; simp
 | n+1,st,done,p :: ps=>by
  unfold mK mP
  rw [List.mem_append,List.mem_flatMap]
  constructor
  ·rintro (h | ⟨q,hq,h⟩)
   ·split at h
    ·simp at h
    ·cases h
   ·obtain ⟨r,hr,h⟩:=List.mem_map.1 h
    obtain ⟨rfl,rfl⟩:=List.cons.inj h
    have:=(tF n _ _ _).1 hr
    exact ⟨by simp only [List.length_cons]; omega,hq,this.2⟩
  ·rintro ⟨hl,hp,hw⟩
   right
   exact ⟨p,hp,List.mem_map.2 ⟨ps,(tF n _ _ _).2 ⟨by simp only [List.length_cons] at hl; omega,hw⟩,rfl⟩⟩
theorem yu {o:ae} {l:List ab} {st:Int} {done:List Bool} {p:aa} (hd:done.length=l.length) (h:p∈bK o l st done):0≤p.Oper∧p.Oper < l.length∧gi done p.Oper=false∧cf (done.set p.Oper.toNat true)+1=cf done:=by
 obtain ⟨_,a,b,c,_⟩:=qH h
 have:=vt a (by omega) c
 exact ⟨a,b,this,CI a (by omega) this⟩
theorem xJ {o:ae} {l:List ab}:∀ (ps:List aa) (st:Int) (done:List Bool),done.length=l.length→mP o l st done ps→ps.length≤cf done
 | [],_,_,_,_=>by simp
 | p :: ps,st,done,hd,h=>by
  have ⟨_,_,_,hc⟩:=yu hd h.1
  have:=xJ ps _ _ (by simpa using hd) h.2
  simp only [List.length_cons]; omega
theorem EI {o:ae} {l:List ab} {st:Int} {done:List Bool} (hd:done.length=l.length) {ps:List aa}:ps∈mK o l (cf done+1) st done↔mP o l st done ps:=by
 rw [tF]
 exact ⟨fun h=>h.2,fun h=>⟨by have:=xJ ps st done hd h; omega,h⟩⟩
def wu:List Bool→Nat
 | []=>0
 | b :: r=>(if b then 1 else 0)+2 * wu r
theorem uu:∀ (a b:List Bool),a.length=b.length→wu a=wu b→a=b
 | [],[],_,_=>rfl
 | x :: a,y :: b,h,hv=>by
  unfold wu at hv
  have e:x=y:=by cases x <;> cases y <;> simp at hv ⊢ <;> omega
  subst e
  rw [uu a b (by simpa using h) (by omega)]
theorem EF {i:Nat} (h:i < 32):EG (i:Int)=((2 ^ i:Nat):Int):=by
 have h2:2 ^ i≤2 ^ 31:=Nat.pow_le_pow_right (by decide) (by omega)
 unfold EG
 rw [show min (i:Int).toNat IntKind.u32.bits=i by show min _ 32=_; omega]
 have e:(1 * 2 ^ i:Int)=((2 ^ i:Nat):Int):=by push_cast; omega
 rw [e]
 generalize 2 ^ i=x at *
 have:x≤2147483648:=by simpa using h2
 simp [IntKind.wrap,IntKind.signed,IntKind.bits]; omega
theorem Gm {i m:Nat} (h:i < 32) (hm:m < 2 ^ i):orU (m:Int) ((2 ^ i:Nat):Int)=((m+2 ^ i:Nat):Int):=by
 have h2:2 ^ i≤2 ^ 31:=Nat.pow_le_pow_right (by decide) (by omega)
 have h3:m ||| 2 ^ i=m+2 ^ i:=by
  have:=Nat.two_pow_add_eq_or_of_lt hm 1
  rw [Nat.mul_one] at this
  rw [Nat.or_comm,← this,Nat.add_comm]
 unfold orU
 have e1:∀ x:Nat,x < 2 ^ 32→(BitVec.ofInt IntKind.u32.bits (x:Int)).toNat=x:=fun x hx=>by
  show (BitVec.ofInt 32 (x:Int)).toNat=x
  rw [BitVec.ofInt_natCast,BitVec.toNat_ofNat]
  exact Nat.mod_eq_of_lt hx
 rw [BitVec.toNat_or,e1 m (by omega),e1 _ (by omega),h3]
 generalize 2 ^ i=x at *
 have:x≤2147483648:=by simpa using h2
 simp [IntKind.wrap,IntKind.signed,IntKind.bits]; omega
theorem pP:∀ (d:List Bool) (i m:Nat),i+d.length≤32→m < 2 ^ i→j7 d (i:Int) (m:Int)=((m+2 ^ i * wu d:Nat):Int)
 | [],i,m,_,_=>by simp [j7,wu]
 | b :: d,i,m,h,hm=>by
  simp only [List.length_cons] at h
  have hp:2 ^ (i+1)=2 ^ i * 2:=Nat.pow_succ ..
  unfold j7 wu
  rw [show ((i:Int)+1)=((i+1:Nat):Int) by push_cast; rfl]
  cases b with
  | true =>
   rw [if_pos rfl,if_pos rfl,EF (by omega),Gm (by omega) hm,pP d (i+1) (m+2 ^ i) (by omega) (by omega),hp,Nat.mul_add,Nat.mul_assoc]
   congr 1; omega
  | false =>
   rw [if_neg (by simp),if_neg (by simp),pP d (i+1) m (by omega) (by omega),hp,Nat.mul_add,Nat.mul_assoc]
   congr 1; omega
theorem Cj {a b:List Bool} {s t:Int} (hl:a.length=b.length) (h:a.length≤20) (he:iz a s=iz b t):a=b∧s=t:=by
 unfold iz at he
 injection he with h1 h2
 refine ⟨?_,h2⟩
 have e1:=pP a 0 0 (by omega) (by decide)
 have e2:=pP b 0 0 (by omega) (by decide)
 have h1:j7 a ((0:Nat):Int) ((0:Nat):Int)=j7 b ((0:Nat):Int) ((0:Nat):Int):=h1
 rw [e1,e2] at h1
 exact uu a b hl (by omega)
def iA (so:List aa):List (List aa)→List aa × Bool
 | []=>([],false)
 | x :: _=>(so++x,true)
def np (o:ae) (l:List ab) (f:Fm):Prop:=∀ done st,done.length=l.length→(aF f (iz done st)).getD 0 > 0→mK o l (cf done+1) st done=[]
theorem Gi {o:ae} {l:List ab} {f:Fm} {done:List Bool} {st:Int} (hl:l.length≤20) (hd:done.length=l.length) (h:np o l f) (ha:mK o l (cf done+1) st done=[]):np o l (ob f (iz done st)):=by
 unfold ob
 split
 ·exact h
 ·intro FW NR G7 hg
  rw [eX] at hg
  by_cases e:iz FW NR=iz done st
  ·obtain ⟨rfl,rfl⟩:=Cj (by omega) (by omega) e
   exact ha
  ·rw [if_neg e] at hg
   exact h FW NR G7 hg
theorem vb (so:List aa) (p:aa) (A B:List (List aa)):iA so (A.map (p :: ·)++B)=if (iA (so++[p]) A).2 then iA (so++[p]) A else iA so B:=by
 cases A with
 | nil=>simp [iA]
 | cons x A=>simp [iA]
theorem vz {o:ae} {l:List ab} (hl:l.length≤20):∀ (n:Nat) (st:Int) (so:List aa) (done:List Bool) (f:Fm),n=cf done+1→done.length=l.length→np o l f →
  (fL o l n st so done f).1=iA so (mK o l n st done)∧np o l (fL o l n st so done f).2
 | 0,_,_,_,_,h,_,_=>by omega
 | n+1,st,so,done,f,hn,hd,hf=>by
  have hT:∀ (L:List aa) (f:Fm),(∀ p∈L,p∈bK o l st done)→np o l f →
    (l8 (fun p f=>fL o l n (e6 o l st p) (so++[p]) (done.set p.Oper.toNat true) f) L f).1=iA so (L.flatMap fun p=>(mK o l n (e6 o l st p) (done.set p.Oper.toNat true)).map (p :: ·)) ∧
    np o l (l8 (fun p f=>fL o l n (e6 o l st p) (so++[p]) (done.set p.Oper.toNat true) f) L f).2:=by
   intro L
   induction L with
   | nil=>intro f _ hf; exact ⟨rfl,hf⟩
   | cons p L ih =>
    intro f hL hf
    have ⟨_,_,_,hc⟩:=yu hd (hL p (by simp))
    obtain ⟨e1,e2⟩:=vz hl n (e6 o l st p) (so++[p]) (done.set p.Oper.toNat true) f (by omega) (by simpa using hd) hf
    rw [List.flatMap_cons,vb,← e1]
    unfold l8
    by_cases h:(fL o l n (e6 o l st p) (so++[p]) (done.set p.Oper.toNat true) f).1.2=true
    ·rw [if_pos h,if_pos h]; exact ⟨rfl,e2⟩
    ·rw [if_neg h,if_neg h]
     exact ih _ (fun q hq=>hL q (by simp [hq])) e2
  obtain ⟨t1,t2⟩:=hT (bK o l st done) f (fun _ h=>h) hf
  have hA:mK o l (n+1) st done=(if kQ l done then [[]] else [])++(bK o l st done).flatMap fun p=>(mK o l n (e6 o l st p) (done.set p.Oper.toNat true)).map (p :: ·):=rfl
  unfold fL
  by_cases hw:kQ l done=true
  ·rw [if_pos hw,hA,if_pos hw]
   exact ⟨by simp [iA],hf⟩
  ·rw [if_neg hw]
   by_cases hm:(aF f (iz done st)).getD 0 > 0
   ·rw [if_pos hm]
    have:=hf done st hd hm
    rw [← hn] at this
    rw [this]
    exact ⟨rfl,hf⟩
   ·rw [if_neg hm]
    rw [if_neg hw,List.nil_append] at hA
    rw [hA]
    by_cases h2:(l8 (fun p f=>fL o l n (e6 o l st p) (so++[p]) (done.set p.Oper.toNat true) f) (bK o l st done) f).1.2=true
    ·rw [if_pos h2]; exact ⟨t1,t2⟩
    ·rw [if_neg h2]
     have Ej:((bK o l st done).flatMap fun p=>(mK o l n (e6 o l st p) (done.set p.Oper.toNat true)).map (p :: ·))=[]:=by
      rw [t1] at h2
      revert h2
      cases ((bK o l st done).flatMap fun p=>(mK o l n (e6 o l st p) (done.set p.Oper.toNat true)).map (p :: ·)) with
      | nil=>intro _; rfl
      | cons x A=>intro h; simp [iA] at h
     refine ⟨by rw [Ej]; rfl,Gi hl hd t2 ?_⟩
     rw [← hn,hA,Ej]
theorem BS (o:ae) (l:List ab):np o l []:=fun done st _ h=>by simp [aF] at h
end Go.Proofs.YteahldlmkheleaaGreat
