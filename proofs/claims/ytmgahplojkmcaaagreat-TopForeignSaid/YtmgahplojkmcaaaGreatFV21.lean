/- Lemmas. Conditions: their own. -/
import Derived.Test.YtmgahplojkmcaaaGreatFV6
set_option linter.all false
namespace Go.Proofs.Y
open Go Go.Sv Go.Pu
section
theorem eF{α:Type}[Inhabited α]{l:List α}{i:Int}(h0:0<=i)(h:i<l.length):l.drop i.toNat=gi l i::l.drop (i+1).toNat:=by
 grind[kR,List.drop_eq_getElem_cons]
theorem fV{α:Type}[Inhabited α]{l:List α}{i:Int}(h0:0<=i)(h:i<l.length):l.take (i+1).toNat=l.take i.toNat++[gi l i]:=by
 have h1:i.toNat<l.length:=by omega
 rw[kR h0 h,show(i+1).toNat=i.toNat+1 by omega,wD h1]
theorem ND{α:Type}[Inhabited α]{l:List α}{i e:Int}(h0:0<=i)(h:i<e)(h2:e<=l.length):gi (l.take e.toNat) i=gi l i:=by
 grind[kR,List.length_take]
theorem uO{s:Bs}{i e:Int}(h0:0<=i)(h1:i<e)(h2:e<=s.length):(s.take e.toNat).drop i.toNat=gi s i::(s.take e.toNat).drop (i+1).toNat:=by
 grind[eF,List.length_take,ND]
theorem uN{s:Bs}{i k:Int}(h0:0<=i)(h1:i<=k)(h2:k<s.length):(s.take (k+1).toNat).drop i.toNat=(s.take k.toNat).drop i.toNat++[gi s k]:=by
 grind[fV,List.length_take]
theorem lF{s:Bs}{i e:Int}(h:e<=i):(s.take e.toNat).drop i.toNat=[]:=by
 grind[List.drop_eq_nil_of_le,List.length_take]
theorem qF{s:Bs}{i e:Int}(h0:0<=i)(h1:i<=e)(h2:e<=s.length):((((s.take e.toNat).drop i.toNat).length:Nat):Int)=e-i:=by
 grind
theorem Ku(b:UInt8)(n:Nat)(hn:n<256):(b==UInt8.ofNat n)=((b.toNat:Int)==(n:Int)):=by
 rw[jQ,gJ,gJ];constructor
 .rintro rfl;simp[Nat.mod_eq_of_lt hn]
 .intro h;apply UInt8.toNat_inj.1;simp[Nat.mod_eq_of_lt hn];omega
theorem Lf(b:UInt8):UInt8.ofNat ((b.toNat:Int)).toNat=b:=by simp
theorem Ns(b:UInt8):decide (strings_IndexByte [32,9,13] (b.toNat:Int)≥0)=vv b:=by
 unfold strings_IndexByte vv kE;rw[Lf];have e1:((32:UInt8)==b)=((b.toNat:Int)==32):=by rw[BEq.comm];exact Ku b 32 (by decide)
 have e2:((9:UInt8)==b)=((b.toNat:Int)==9):=by rw[BEq.comm];exact Ku b 9 (by decide)
 have e3:((13:UInt8)==b)=((b.toNat:Int)==13):=by rw[BEq.comm];exact Ku b 13 (by decide)
 simp only[Lib.indexByte,e1,e2,e3];grind
theorem T8(b:UInt8):decide (strings_IndexByte [32,9,13] (b.toNat:Int)<0)=!vv b:=by
 rw[←Ns];grind
theorem v57(b:Int):VC57 b (λr=>r=kE b):=by
 unfold VC57 kE;grind
theorem GU(s p:Bs):Lib.hasPrefix s p=(decide (p.length<=s.length)&&(s.take p.length==p)):=by
 unfold Lib.hasPrefix;rw[jQ,List.isPrefixOf_iff_prefix,ak,aR,gJ];constructor
 .rintro⟨t,rfl⟩;simp
 grind
theorem v218(s p:Bs)(h:lQ s p):VC218 s p (λr=>r=cB s p):=by
 unfold VC218 cB iF lN dE;grind[GU]
theorem v135(s p:Bs)(h:lQ s p):VC135 s p (λr=>r=fX s p):=by
 refine⟨h,?_⟩;simp only[fK];rfl
theorem v368(s p:Bs)(h:lQ s p):VC368 s p (λr=>r=cC s p):=by
 unfold VC368 iF lN;refine⟨h,?_⟩;simp only[fK];unfold cC cB;refine⟨λh=>?_,λh=>?_⟩
 .have h2:Lib.hasPrefix s p=false:=by simpa using h
  rw[h2];rfl
 .have h2:Lib.hasPrefix s p=true:=by simpa using h
  rw[h2];rw[GU,ak,aR]at h2;exact⟨by omega,rfl⟩
theorem v281(s p:Bs)(h:lQ s p):VC281 s p (λr=>r=ir s p):=by
 refine⟨h,?_⟩;simp only[fK];rfl
theorem abP(l:Bs)(c:UInt8):Lib.indexByte l c<l.length:=by
 induction l with
 |nil=>simp[Lib.indexByte]
 |cons b l ih=>unfold Lib.indexByte;grind
theorem v134(s p:Bs)(h:uX s p):VC134 s p (λr=>r=dJ s p):=by
 unfold VC134 iF lN wI dE;refine⟨h,?_⟩;have eB:bG s p<s.length:=abP _ _;obtain⟨h1,h2⟩:=h;unfold dJ;grind[dj]
theorem v82(s p:Bs)(h:uX s p):VC82 s p (λr=>r=og s p):=by
 refine⟨h,?_⟩;simp only[fK];rfl
theorem U1:∀l:Bs,(og l [10]).1=l.takeWhile (λb=>b !=10):=by
 intro l;have key:∀l:Bs,(if 0<=Lib.indexByte l 10 then l.take (Lib.indexByte l 10).toNat else l)=l.takeWhile (λb=>b !=10):=by
  intro l
  induction l with
  |nil=>simp[Lib.indexByte]
  |cons b l ih =>
   by_cases hb:b=10
   .subst hb;simp[Lib.indexByte]
   .have e2:(b !=10)=true:=by simpa using hb
    have hx:Lib.indexByte (b::l) 10=if Lib.indexByte l 10=-1 then -1 else Lib.indexByte l 10+1:=by simp[Lib.indexByte,hb]
    have hge:=Lib.indexByte_ge l 10;rw[List.takeWhile_cons,if_pos e2,hx,←ih];by_cases h1:Lib.indexByte l 10=-1
    .rw[if_pos h1,h1];simp
    .have h2:0<=Lib.indexByte l 10:=by omega
     rw[if_neg h1,if_pos (by omega),if_pos h2,show(Lib.indexByte l 10+1).toNat=(Lib.indexByte l 10).toNat+1 by omega,List.take_succ_cons]
 have e:bG l [10]=Lib.indexByte l 10:=rfl;unfold og dJ;grind
def Kc(k:Int)(l:List (Int×Bs)):List ai:=l.map λp=>⟨k,p.1,p.2⟩
theorem yb(i:Int):wU [] i []=[]:=rfl
theorem FQ(i:Int){cur:Bs}(h:cur≠[]):wU [] i cur=[(i-cur.length,cur)]:=by
 cases cur with
 |nil=>exact absurd rfl h
 |cons b r=>rfl
theorem uD{b:UInt8}{r:Bs}{i:Int}(h:vv b=true):wU (b::r) i []=wU r (i+1) []:=by simp[wU,h]
theorem Bi{b:UInt8}{r cur:Bs}{i:Int}(h:vv b=true)(hc:cur≠[]):wU (b::r) i cur=(i-cur.length,cur)::wU r (i+1) []:=by
 cases cur with
 |nil=>exact absurd rfl hc
 |cons c q=>simp[wU,h]
theorem BF{b:UInt8}{r cur:Bs}{i:Int}(h:vv b=false):wU (b::r) i cur=wU r (i+1) (cur++[b]):=by simp[wU,h]
theorem v83(s:Bs)(k a:Int)(hp:KP s k a):VC83 s k a (λr=>r=jq s k a):=by
 obtain⟨hl,hk0,Ed,ha0,QS⟩:=hp;have hc:∀i:Int,0<=i->i<s.length->IntKind.i64.wrap (i+1)=i+1:=λi h0 h1=>dj (by omega) (by omega);have hpx:lQ s [99,32]:=⟨by decide,hl⟩
 by_cases hr:tm s=true
 .have hro:rowOf s k a=[]:=by simp[rowOf,hr]
  refine⟨λ_ _ _=>False,λ_ _ _=>0,λ_ _ _=>False,λ_ _ _=>0,?_,λ_ _ _ h=>h.elim,λ_ _ _ h=>h.elim⟩;simp only[fK];refine⟨λ_=>⟨λ_=>hro.symm,λh=>absurd h (by simp)⟩,λh1=>⟨hpx,λ_=>hro.symm,λh2=>?_⟩⟩;unfold tm at hr;rw[h1]at hr;have h2:Lib.hasPrefix s [99,32]=false:=h2;rw[h2]at hr;cases hr
 .have hr:tm s=false:=by simpa using hr
  have hro:jq s k a=Kc k (wU s a []):=by simp[jq,rowOf,hr,Kc]
  rw[hro];unfold VC83 VC83_J2 VC83_J1 iF bD lN wI dE
  refine⟨λout i _=>0<=i/\i<=s.length/\(out.length:Int)<=i/\out++Kc k (wU (s.drop i.toNat) (a+i) [])=Kc k (wU s a []),λ_ i _=>(s.length-i).toNat,
   λout i f=>0<=f/\f<=i/\i<s.length/\(out.length:Int)<=f/\out++Kc k (wU (s.drop (i+1).toNat) (a+i+1) ((s.take (i+1).toNat).drop f.toNat))=Kc k (wU s a []),λ_ i _=>(s.length-i).toNat,?_,?_,?_⟩
  .unfold tm at hr;rw[cO]at hr;simp only[fK];have e0:(0:Int)<=0/\(0:Int)<=s.length/\(([]:List ai).length:Int)<=0/\[]++Kc k (wU (s.drop (0:Int).toNat) (a+0) [])=Kc k (wU s a []):=⟨by omega,by omega,by simp,by simp⟩
   refine⟨λh=>absurd h (by rw[hr.1];simp),λ_=>⟨hpx,λh=>absurd h (by show ¬Lib.hasPrefix s [99,32]=true;rw[hr.2];simp),λ_=>e0⟩⟩
  .rintro out i f ⟨h0,h1,h2,h3⟩;refine⟨λhi=>?_,λhi=>?_⟩
   .have hi:i=s.length:=by simpa using hi
    subst hi;rw[show((s.length:Nat):Int).toNat=s.length by omega,List.drop_length,yb]at h3;simpa[Kc]using h3
   .have hi:i≠s.length:=by simpa using hi
    have hi:i<s.length:=by omega
    refine⟨⟨h0,hi⟩,?_⟩;simp only[fK,Ns,hc i h0 hi];rw[eF h0 hi]at h3;refine⟨λhg=>⟨⟨by omega,by omega,by omega,?_⟩,by omega⟩,λhg=>⟨⟨h0,by omega,hi,h2,?_⟩,by omega⟩⟩
    .rw[uD hg]at h3;rw[show a+(i+1)=a+i+1 by omega];exact h3
    .rw[BF hg]at h3;rw[uN h0 (eu _) hi,lF (eu _)];exact h3
  .rintro out i f ⟨h0,h1,h2,h3,h4⟩;simp only[fK,T8,hc i (by omega) h2];have hat:IntKind.i64.wrap (a+f)=a+f:=dj (by omega) (by omega);have hcl:=qF (s:=s) (i:=f) (e:=i+1) h0 (by omega) (by omega);have hne:(s.take (i+1).toNat).drop f.toNat≠[]:=by grind
   have uA:a+i+1-((((s.take (i+1).toNat).drop f.toNat).length:Nat):Int)=a+f:=by omega
   simp only[hat];refine⟨λhi=>?_,λhi=>?_⟩
   .have hi:=aF hi;rw[eF (by omega) hi]at h4;refine⟨⟨by omega,hi⟩,λhg=>⟨⟨h0,by omega,hi,h3,?_⟩,by omega⟩,λhg=>⟨by omega,?_,⟨by omega,by omega,?_,?_⟩,by omega⟩⟩
    .have hg:vv (gi s (i+1))=false:=by simpa using hg
     rw[BF hg]at h4;rw[uN h0 (by omega) hi,show a+(i+1)+1=a+i+1+1 by omega];exact h4
    .simp;omega
    .simp;omega
    .have hg:vv (gi s (i+1))=true:=by simpa using hg
     rw[Bi hg hne,uA]at h4;rw[eF (by omega) hi,uD hg,show a+(i+1)+1=a+i+1+1 by omega,bV];exact h4
   .have hi:=aL hi;refine⟨λh=>absurd h (by simp),λ_=>⟨by omega,?_,⟨by omega,by omega,?_,?_⟩,by omega⟩⟩
    .simp;omega
    .simp;omega
    .have hd:s.drop (i+1).toNat=[]:=dT (by omega);rw[hd,FQ _ hne,uA]at h4;rw[hd,yb,←h4];simp[Kc]
def tw(l:Bs):Bs:=l.takeWhile (λb=>b !=10)
theorem Y5(l:Bs):(tw l).length<=l.length:=List.takeWhile_prefix _ |>.length_le
theorem GK:∀(f:Nat)(l:Bs)(k a:Int),l.length<=f->eW f l k a=eW l.length l k a:=by
 have key:∀(n f g:Nat)(l:Bs)(k a:Int),l.length<=n->l.length<=f->l.length<=g->eW f l k a=eW g l k a:=by
  intro n
  induction n with
  |zero=>intro f g l k a h _ _;have:l=[]:=jJ.1 (by omega);subst this;cases f<;>cases g<;>simp[eW]
  |succ n ih =>
   intro f g l k a h hf hg;cases l with
   |nil=>cases f<;>cases g<;>simp[eW]
   |cons b r =>
    cases f with
    |zero=>simp at hf
    |succ f =>
     cases g with
     |zero=>simp at hg
     |succ g=>simp only[eW,List.isEmpty_cons];grind
 grind
def oL(l:Bs)(k a:Int):List (List ai):=eW l.length l k a
theorem CU(k a:Int):oL [] k a=[]:=rfl
theorem AL{l:Bs}(h:l≠[])(k a:Int):oL l k a=rowOf (tw l) k a::oL (l.drop ((tw l).length+1)) (k+1) (a+(tw l).length+1):=by
 unfold oL;cases l with
 |nil=>exact absurd rfl h
 |cons b r=>rw[←GK r.length ((b::r).drop ((tw (b::r)).length+1)) _ _ (by simp)];rfl
theorem v36(s:Bs)(hl:sq s):VC36 s (λr=>r=cK s):=by
 unfold sq at hl;unfold VC36 VC36_J1 iF lN wI dE fj eM;have h00:cK s=oL s 1 0:=rfl;refine⟨λout at_=>0<=at_/\at_<=s.length+1/\(out.length:Int)<=at_/\out++oL (s.drop at_.toNat) (out.length+1) at_=oL s 1 0,λ_ at_=>(s.length+1-at_).toNat,⟨by omega,by omega,by simp,by simp⟩,?_⟩;rintro out i ⟨h0,h1,h2,h3⟩;refine⟨λhi=>?_,λhi=>?_⟩
 .have hi:=aF hi;have hne:s.drop i.toNat≠[]:=by simp_all
  have hw:IntKind.i64.wrap (((out.length:Nat):Int)+1)=out.length+1:=dj (by omega) (by omega);have Ke:=Y5 (s.drop i.toNat);rw[dy]at Ke;have VY:IntKind.i64.wrap ((((tw (s.drop i.toNat)).length:Nat):Int)+1)=(tw (s.drop i.toNat)).length+1:=dj (by omega) (by omega);have hw3:IntKind.i64.wrap (i+((tw (s.drop i.toNat)).length+1))=i+(tw (s.drop i.toNat)).length+1:=by rw[dj (by omega) (by omega)];omega
  refine⟨⟨h0,by omega⟩,⟨rfl,by rw[dy];omega⟩,?_⟩;simp only[fK,U1];rw[show List.takeWhile (λb=>b !=10) (s.drop i.toNat)=tw (s.drop i.toNat)from rfl];simp only[hw,VY,hw3];refine⟨⟨by omega,by omega,by omega,by omega,by omega⟩,λ_=>⟨by simp;omega,⟨by omega,by omega,by simp;omega,?_⟩,by omega⟩⟩;rw[AL hne,kx]at h3;rw[bV,show(i+((tw (s.drop i.toNat)).length:Int)+1).toNat=i.toNat+((tw (s.drop i.toNat)).length+1) by omega];simpa[jq]using h3
 grind[List.drop_eq_nil_of_le,CU]
def vd(k:Int)(l:List (Int×Bs)):List ai:=l.map λp=>⟨k,p.1,p.2⟩
theorem Xk(k:Int)(l:List (Int×Bs)):(Kc k l).map oR=vd k l:=by simp[Kc,vd,oR]
def xq(l:Bs)(k a:Int):List ai:=if tm l then []else vd k (wU l a [])
theorem OO(l:Bs)(k a:Int):(rowOf l k a).map oR=xq l k a:=by
 unfold rowOf xq;split
 .rfl
 .exact Xk k _
theorem Rh{s:Bs}{i e:Int}(h0:0<=i)(h1:i<=e)(h2:e<=s.length)(hin:∀j:Int,i<=j->j<e->gi s j≠10)(Ly:e<s.length->gi s e=10):tw (s.drop i.toNat)=(s.take e.toNat).drop i.toNat:=by
 have key:∀(n:Nat)(i:Int),0<=i->i<=e->(e-i).toNat=n->(∀j:Int,i<=j->j<e->gi s j≠10)->tw (s.drop i.toNat)=(s.take e.toNat).drop i.toNat:=by
  intro n
  induction n with
  |zero =>
   intro i h0 h1 hn hin;have:i=e:=by omega
   subst this;rw[lF (eu _)];by_cases he:i<s.length
   .rw[eF h0 he];unfold tw;rw[List.takeWhile_cons,Ly he];rfl
   .rw[dT (by omega)];rfl
  |succ n ih=>intro i h0 h1 hn hin;rw[eF h0 (by omega),uO h0 (by omega) h2,←ih (i+1) (by omega) (by omega) (by omega) (λj j0 j1=>hin j (by omega) j1)];unfold tw;rw[List.takeWhile_cons,if_pos (by simpa using hin i (eu _) (by omega))]
 grind
theorem aaL{s:Bs}{i e:Int}(h0:0<=i)(h1:i<=e)(h2:e<=s.length):tm ((s.take e.toNat).drop i.toNat)=(((s.take e.toNat).drop i.toNat==[99])||(decide (e-i≥2)&&((s.take (i+2).toNat).drop i.toNat==[99,32]))):=by
 unfold tm;rw[GU];have hl:=qF h0 h1 h2;congr 1;by_cases h:e-i≥2
 .have e1:decide (([99,32]:Bs).length<=((s.take e.toNat).drop i.toNat).length)=true:=by simp only[aR,bc,cN];omega
  have e2:((s.take e.toNat).drop i.toNat).take ([99,32]:Bs).length=(s.take (i+2).toNat).drop i.toNat:=by grind[List.take_drop,only,List.length_cons,List.length_nil]
  rw[e1,e2,jP h]
 grind
theorem v24(s:Bs)(hl:sq s):VC24 s (λr=>r=iv s):=by
 unfold sq at hl;unfold VC24 VC24_J1 iF bD lN dE fj;have h00:iv s=(oL s 1 0).map λl=>l.map oR:=rfl;rw[h00];generalize hT:(oL s 1 0).map (λl=>l.map oR)=T;refine⟨λout at_=>0<=at_/\at_<=s.length+1/\(out.length:Int)<=at_/\out++(oL (s.drop at_.toNat) (out.length+1) at_).map (λl=>l.map oR)=T,λ_ at_=>(s.length+1-at_).toNat,⟨by omega,by omega,by simp,by simpa using hT⟩,?_⟩;rintro out i ⟨h0,h1,h2,h3⟩;refine⟨λhi=>?_,λhi=>?_⟩
 rotate_left
 .have hi:=aL hi;have hd:s.drop i.toNat=[]:=dT (by omega);rw[hd,CU]at h3;simpa using h3
 have hi:=aF hi;have hne:s.drop i.toNat≠[]:=by simp_all
 have fin:∀e:Int,i<=e->e<=s.length->(∀j:Int,i<=j->j<e->gi s j≠10)->(e<s.length->gi s e=10) ->
  VC24_J2 s (λout at_=>0<=at_/\at_<=s.length+1/\(out.length:Int)<=at_/\out++(oL (s.drop at_.toNat) (out.length+1) at_).map (λl=>l.map oR)=T) (λ_ at_=>(s.length+1-at_).toNat) out i out e:=by
  intro e he0 V4 hin Ly;have QM:=Rh h0 he0 V4 hin Ly;have hlen:=qF h0 he0 V4;have ab2:=aaL h0 he0 V4;have hw:∀j:Int,0<=j->j<=s.length->IntKind.i64.wrap (j+1)=j+1:=λj _ _=>dj (by omega) (by omega);rw[AL hne,QM,ba,OO,kx,hlen,show i+(e-i)+1=e+1 by omega]at h3;have row:∀rm:Bool,rm=tm ((s.take e.toNat).drop i.toNat)->VC24_J3 s (λout at_=>0<=at_/\at_<=s.length+1/\(out.length:Int)<=at_/\out++(oL (s.drop at_.toNat) (out.length+1) at_).map (λl=>l.map oR)=T) (λ_ at_=>(s.length+1-at_).toNat) out i e out rm:=by
   intro rm hrm;unfold VC24_J3 VC24_J4 iF bD dE IH wI eM;have hwo:IntKind.i64.wrap (((out.length:Nat):Int)+1)=out.length+1:=dj (by omega) (by omega)
   refine⟨λo row j=>o=out/\i<=j/\j<=e+1/\(row.length:Int)<=j/\(rm=true->row=[])/\(rm=false->row++vd (out.length+1) (wU ((s.take e.toNat).drop j.toNat) j [])=xq ((s.take e.toNat).drop i.toNat) (out.length+1) i),
    λ_ _ j=>(e+1-j).toNat,⟨rfl,by omega,by omega,by simpa using h0,λ_=>rfl,λh=>?_⟩,?_⟩
   .rw[h]at hrm;unfold xq;rw[←hrm];simp
   rintro o rw_ j ⟨rfl,j0,j1,j2,j3,j4⟩;refine⟨λhj=>?_,λhj=>?_⟩
   .rw[ak,aR]at hj;have Lt:rm=false:=by simpa using hj.2
    replace j4:=j4 Lt;have hj:=hj.1;refine⟨⟨by omega,by omega⟩,?_⟩;rintro _ rfl;have hgj:kE ((gi s j).toNat:Int)=vv (gi s j):=rfl;rw[hgj];rw[uO (by omega) hj V4]at j4;unfold VC24_J5 wI GD;refine⟨λhg=>?_,λhg=>?_⟩
    .rw[hw j (by omega) (by omega)];rw[uD hg]at j4;exact⟨⟨rfl,by omega,by omega,by omega,λh=>(by rw[Lt]at h;cases h),λ_=>j4⟩,by first|omega|(dsimp only;omega)⟩
    .rw[←uO (by omega) hj V4]at j4;unfold VC24_J7 VC24_J6 VC24_J5 iF wI GD lN;refine⟨λo' aeF k=>o'=o/\aeF=rw_/\j<=k/\k<=e/\rw_++vd (o.length+1) (wU ((s.take e.toNat).drop k.toNat) k ((s.take k.toNat).drop j.toNat))=xq ((s.take e.toNat).drop i.toNat) (o.length+1) i,λ_ _ k=>(e-k).toNat,⟨rfl,rfl,by omega,by omega,?_⟩,?_⟩
     .rw[lF (eu _)];exact j4
     rintro o' aeF k ⟨rfl,rfl,k0,k1,k4⟩;have hkl:=qF (s:=s) (i:=j) (e:=k) (by omega) k0 (by omega);have hkp:k-((((s.take k.toNat).drop j.toNat).length:Nat):Int)=j:=by omega
     refine⟨λhk=>?_,λhk=>?_⟩
     .have hk:=aF hk;refine⟨⟨by omega,by omega⟩,?_⟩;rintro _ rfl;have hgk:kE ((gi s k).toNat:Int)=vv (gi s k):=rfl;rw[hgk,hw k (by omega) (by omega)];rw[uO (by omega) hk V4]at k4;refine⟨λLx=>⟨⟨rfl,rfl,by omega,by omega,?_⟩,by first|omega|(dsimp only;omega)⟩,λLx=>?_⟩
      .have Lx:vv (gi s k)=false:=by simpa using Lx
       rw[BF Lx]at k4;rw[uN (by omega) k0 (by omega)];exact k4
      .have Lx:vv (gi s k)=true:=by simpa using Lx
       have PM:j≠k:=by intro e;subst e;rw[hg]at Lx;cases Lx
       have ab7:(s.take k.toNat).drop j.toNat≠[]:=by intro e;rw[e]at hkl;simp at hkl;omega
       rw[Bi Lx ab7,hkp]at k4;refine⟨⟨by omega,k0,by omega⟩,by simp;omega,⟨rfl,by omega,by omega,by simp;omega,λh=>(by rw[Lt]at h;cases h),λ_=>?_⟩,by first|omega|(dsimp only;omega)⟩;rw[hwo,bV];exact k4
     .have hk:=aL hk;have hke:k=e:=by omega
      subst hke;have ab7:(s.take k.toNat).drop j.toNat≠[]:=by intro e;rw[e]at hkl;simp at hkl;omega
      refine⟨λh=>absurd h (by simp),λ_=>?_⟩;rw[lF (eu _),FQ _ ab7,hkp]at k4;rw[hw k (by omega) (by omega)];refine⟨⟨by omega,k0,by omega⟩,by simp;omega,⟨rfl,by omega,by omega,by simp;omega,λh=>(by rw[Lt]at h;cases h),λ_=>?_⟩,by first|omega|(dsimp only;omega)⟩;rw[hwo,lF (i:=k+1) (e:=k) (by omega),yb];simpa[vd]using k4
   .have gk:rw_=xq ((s.take e.toNat).drop i.toNat) (o.length+1) i:=by
     cases Lt:rm with
     |true=>unfold xq;grind
     |false =>
      have j4:=j4 Lt;have QQ:e<=j:=by simpa[Lt]using hj
      rw[lF QQ,yb]at j4;simpa[vd]using j4
    rw[hw e (by omega) (by omega)];refine⟨by simp;omega,⟨by omega,by omega,by simp;omega,?_⟩,by first|omega|(dsimp only;omega)⟩;rw[gk,bV,aS,sQ,←h3];have agJ:(((o.length+1:Nat):Int)+1)=(o.length:Int)+1+1:=by omega
    rw[agJ,show(e+1).toNat=i.toNat+(((s.take e.toNat).drop i.toNat).length+1) by omega];rfl
  unfold VC24_J2 iF lN wI dE;have hwe:IntKind.i64.wrap (e-i)=e-i:=dj (by omega) (by omega);rw[hwe,dj (n:=i+2) (by omega) (by omega)];refine⟨⟨h0,he0,V4⟩,λhx=>row true (by rw[ab2,hx];rfl),λhx=>⟨λhy=>⟨?_,row _ (by rw[ab2,hx,hy];rfl)⟩,λhy=>row false (by rw[ab2,hx,hy];rfl)⟩⟩;have hy:=aF hy;omega
 refine⟨λo e=>o=out/\i<=e/\e<=s.length/\∀j:Int,i<=j->j<e->gi s j≠10,λ_ e=>(s.length-e).toNat,⟨rfl,by omega,by omega,λj a b=>by omega⟩,?_⟩;rintro o e ⟨rfl,he0,V4,hin⟩;refine⟨λhe=>?_,λhe=>?_⟩
 .have he:=aF he;refine⟨⟨by omega,he⟩,?_⟩;unfold VC24_J8 iF wI eM;rw[dj (n:=e+1) (by omega) (by omega)];have h10:(((gi s e).toNat:Int)!=10)=!(gi s e==10):=by have:=Ku (gi s e) 10 (by decide);grind
  rw[h10];refine⟨λhx=>⟨⟨rfl,by omega,by omega,λj a b=>?_⟩,by first|omega|(dsimp only;omega)⟩,λhx=>fin e he0 V4 hin (λ_=>by simpa using hx)⟩;by_cases QQ:j=e
  .subst QQ;simpa using hx
  .exact hin j a (by omega)
 .have he:=aL he;exact⟨λh=>absurd h (by simp),λ_=>fin e he0 V4 hin (λh=>absurd h he)⟩
theorem Aa{α β:Type}[Inhabited α][Inhabited β](f:α->β){l:List α}{i:Int}(h0:0<=i)(h:i<l.length):gi (l.map f) i=f (gi l i):=by
 grind[kR]
theorem IP(a b:List (List Bs)):lL (a++b)=lL a++lL b:=by simp[lL]
theorem IM(r:List Bs):lL [r]=tH r++[10]:=by simp[lL]
theorem mI(b:UInt8):vB b=true↔48<=b.toNat/\b.toNat<=57:=by
 unfold vB;rw[ak,aR,aR]
theorem q8(l:Bs)(b:UInt8):fh (l++[b])=10*fh l+(b.toNat-48):=by simp[fh]
theorem Jo:∀(l:Bs)(n:Nat),n<=l.foldl (λn b=>10*n+(b.toNat-48)) n
 |[],n=>aK _
 |b::r,n=>by have:=Jo r (10*n+(b.toNat-48));grind
theorem JE{l:Bs}{i:Int}(h0:0<=i)(h:i<l.length):10*fh (l.take i.toNat)+((gi l i).toNat-48)<=fh l:=by
 conv=>rhs;rw[←lC (i+1).toNat l,fV h0 h]
 have:=Jo (l.drop (i+1).toNat) (fh (l.take i.toNat++[gi l i]));unfold fh at *; grind
theorem Dl:∀(l:Bs)(n:Nat),n*10^l.length<=l.foldl (λn b=>10*n+(b.toNat-48)) n
 |[],n=>by simp
 |b::r,n=>by have h1:=Dl r (10*n+(b.toNat-48));grind[List.length_cons,Nat.pow_succ,Nat.le_trans,Nat.add_mul,Nat.mul_comm,Nat.mul_assoc]
theorem xL{l:Bs}{b:UInt8}{r:Bs}(h:l=b::r)(hb:49<=b.toNat)(n:Nat)(hl:n<=r.length):10^n<=fh l:=by
 subst h;unfold fh;rw[List.foldl_cons];have h1:=Dl r (10*0+(b.toNat-48));have h2:10^n<=10^r.length:=Nat.pow_le_pow_right (by decide) hl;have h3:1*10^r.length<=(10*0+(b.toNat-48))*10^r.length:=cP _ (by omega);omega
theorem Ef:∀(n:Nat)(l:Bs),l.length=n->l≠[]->l.all vB=true->(l.length=1∨∀b,l.head?=some b->49<=b.toNat)->Lib.decDigits (fh l)=l:=by
 intro n
 induction n with
 |zero=>intro l hl hne;exact absurd (jJ.1 hl) hne
 |succ n ih =>
  intro l hl hne hd hh;obtain⟨q,b,rfl⟩:∃q b,l=q++[b]:=⟨l.dropLast,l.getLast hne,(List.dropLast_concat_getLast hne).symm⟩
  rw[jR,ak]at hd;have hb:=(mI b).1 (by simpa using hd.2);rw[q8,Lib.decDigits];have ZL:UInt8.ofNat (48+(b.toNat-48))=b:=by rw[show 48+(b.toNat-48)=b.toNat by omega];simp
  cases q with
  |nil=>rw[dif_pos (by simp[fh];omega)];simp only[fh,List.foldl_nil,Nat.mul_zero,bh,gU,ZL]
  |cons c q =>
   have hc:49<=c.toNat:=by grind
   have hv:=xL (l:=c::q) rfl hc 0 (mb _);rw[dif_neg (by omega),show(10*fh (c::q)+(b.toNat-48))/10=fh (c::q) by omega,show(10*fh (c::q)+(b.toNat-48))%10=b.toNat-48 by omega,ZL];grind
theorem JF(u:Nat):fh (Lib.decDigits u)=u/\Lib.decDigits u≠[]/\(Lib.decDigits u).all vB=true/\(u=0->Lib.decDigits u=[48])/\(1<=u->∃b r,Lib.decDigits u=b::r/\49<=b.toNat):=by
 induction u using Nat.strongRecOn with
 |_ u ih =>
  have ZL:∀d:Nat,d<10->(UInt8.ofNat (48+d)).toNat=48+d:=λd hd=>by simp;omega
  by_cases h:u<10
  .rw[Lib.decDigits,dif_pos h];refine⟨?_,by simp,?_,λh0=>by subst h0;rfl,λh1=>⟨_,_,rfl,by rw[ZL u h];omega⟩⟩
   .unfold fh;simp only[List.foldl_cons,List.foldl_nil];rw[ZL u h];omega
   .simp only[cd,List.all_nil,Bool.and_true];rw[mI,ZL u h];omega
  .obtain⟨a1,a2,a3,a4,a5⟩:=ih (u/10) (by omega);rw[Lib.decDigits,dif_neg h];refine⟨?_,by simp,?_,λh0=>by omega,λh1=>?_⟩
   .rw[q8,a1,ZL _ (by omega)];omega
   .rw[jR,a3];simp only[cd,List.all_nil,Bool.and_true,jg];rw[mI,ZL _ (by omega)];omega
   .obtain⟨b,r,e,hb⟩:=a5 (by omega);exact⟨b,r++[UInt8.ofNat (48+u%10)],by rw[e];rfl,hb⟩
theorem PG(s:Bs):(eE s=true->s=45::aX s)/\(eE s=false->aX s=s):=by
 unfold eE aX Lib.trimPrefix Lib.hasPrefix;cases s with
 |nil=>simp
 |cons b r=>grind
theorem xA(b:UInt8)(r:Bs):eE (b::r)=(b==45):=by
 show(((45:UInt8)==b)&&true)=(b==45)
 grind
theorem r9(s:Bs):lr s=true↔aX s≠[]/\((aX s).head?=some 48->(aX s).length<=1/\eE s=false)/\(aX s).all vB=true:=by
 unfold lr;grind
theorem C8{l:Bs}(hd:l.all vB=true){b:UInt8}{r:Bs}(h:l=b::r)(h48:l.head?≠some 48):49<=b.toNat:=by
 subst h;rw[cd,ak]at hd;have h1:=(mI b).1 hd.1;have h2:b.toNat≠48:=by intro e;apply h48;have:b=48:=UInt8.toNat_inj.1 e;grind
 omega
theorem PA(s:Bs)(h:lr s=true):Lib.itoa (oI s)=s:=by
 obtain⟨h1,h2,h3⟩:=(r9 s).1 h;have z6:Lib.decDigits (fh (aX s))=aX s:=by
  apply Ef _ _ rfl h1 h3;by_cases e:(aX s).head?=some 48
  .left;have:=(h2 e).1;have:(aX s).length≠0:=λe=>h1 (jJ.1 e);omega
  .right;intro b hb;cases hd:aX s with
   |nil=>exact absurd hd h1
   |cons c r=>grind[C8]
 unfold oI;cases hm:eE s with
 |true =>
  have hs:=(PG s).1 hm;have h48:(aX s).head?≠some 48:=λe=>by rw[(h2 e).2]at hm;cases hm
  have hv:1<=fh (aX s):=by
   cases hd:aX s with
   |nil=>exact absurd hd h1
   |cons c r=>have:=xL hd (C8 h3 hd h48) 0 (mb _);grind
  rw[if_pos rfl,Lib.itoa_neg _ hv,z6];grind
 |false=>rw[if_neg (by simp),Lib.itoa_nonneg,z6];grind[PG]
theorem TU(n:Int):lr (Lib.itoa n)=true/\oI (Lib.itoa n)=n:=by
 by_cases hn:n<0
 .obtain⟨u,rfl⟩:∃u:Nat,n=-(u:Int):=⟨n.natAbs,by first|omega|(dsimp only;omega)⟩
  obtain⟨a1,a2,a3,a4,a5⟩:=JF u;obtain⟨b,r,e,hb⟩:=a5 (by omega);rw[Lib.itoa_neg u (by omega)];have hm:eE (45::Lib.decDigits u)=true:=by rw[xA];rfl
  have hd:aX (45::Lib.decDigits u)=Lib.decDigits u:=by grind[PG,List.cons.inj]
  refine⟨(r9 _).2 ?_,?_⟩
  .rw[hd,e];refine⟨by simp,λh=>?_,by rw[←e];exact a3⟩;simp at h;subst h;simp at hb
  .unfold oI;rw[hm,hd,a1];rfl
 .obtain⟨u,rfl⟩:∃u:Nat,n=(u:Int):=⟨n.toNat,by first|omega|(dsimp only;omega)⟩
  obtain⟨a1,a2,a3,a4,a5⟩:=JF u;rw[Lib.itoa_nonneg];obtain⟨b,r,e⟩:∃b r,Lib.decDigits u=b::r:=by
   cases hd:Lib.decDigits u with
   |nil=>exact absurd hd a2
   |cons b r=>exact⟨b,r,rfl⟩
  have hb:=a3;rw[e,cd,ak]at hb;have hb:=(mI b).1 hb.1;have hm:eE (Lib.decDigits u)=false:=by
   rw[e,xA];have:b≠45:=by rintro rfl;simp at hb
   grind
  have hd:=(PG _).2 hm;refine⟨(r9 _).2 ?_,?_⟩
  .rw[hd];refine⟨a2,λh=>?_,a3⟩;rw[hm];by_cases hu:1<=u
   .obtain⟨b',r',e',rr⟩:=a5 hu;rw[e']at h;simp at h;subst h;simp at rr
   .rw[a4 (by omega)];simp
  .unfold oI;rw[hm,hd,a1];rfl
theorem Wd{s:Bs}(h:lr s=true)(hl:19<(aX s).length):10000000000000000000<=fh (aX s):=by
 obtain⟨h1,h2,h3⟩:=(r9 s).1 h;cases hd:aX s with
 |nil=>exact absurd hd h1
 |cons c r =>
  have h48:(aX s).head?≠some 48:=λe=>by have:=(h2 e).1;omega
  have:=xL hd (C8 h3 hd h48) 19 (by rw[hd]at hl;simp at hl;omega);grind
theorem zM{s:Bs}{lo hi:Int}(h:lr s=true)(uC:zl .i64 lo)(xX:zl .i64 hi)(hb:9223372036854775808<fh (aX s)∨(eE s=false/\9223372036854775808<=fh (aX s))):(0,7)=numOf s lo hi:=by
 have a1:-9223372036854775808<=lo:=uC.1;have a2:hi<=9223372036854775807:=xX.2;unfold numOf;rw[if_pos h,if_neg];rintro⟨b1,b2⟩;unfold oI at b1 b2;cases hm:eE s with
 |true=>rw[hm]at b1 b2 hb;simp at b1 b2 hb;omega
 |false=>grind
theorem v215(s:Bs)(hl:sq s):VC215 s (λr=>r=gG s):=by
 unfold VC215 iF bD lN dE;unfold sq at hl;have hc:ir s [45]=(aX s,eE s):=by unfold ir cC aX eE Lib.trimPrefix;grind
 have Ux:(aX s).length<=s.length:=by unfold aX Lib.trimPrefix;grind
 refine⟨⟨by decide,hl⟩,?_⟩;simp only[fK,hc];unfold VC215_J1 VC215_J2 VC215_J3 iF bD lN dE oM wI oK;dsimp only;have no:lr s=false->(([]:Bs),false,false)=gG s:=λh=>by simp[gG,h]
 have I9:∀(h:0<(aX s).length),(aX s).head?=some (gi (aX s) 0):=λh=>by
  cases hd:aX s with
  |nil=>rw[hd]at h;cases h
  |cons c r=>rfl
 refine⟨λh=>⟨λ_=>no ?_,λh=>absurd h (by simp)⟩,λh=>?_⟩
 .have:aX s=[]:=by simpa using h
  unfold lr;rw[this];rfl
 .have hne:aX s≠[]:=by simpa using h
  have uA:0<(aX s).length:=by
   cases hd:aX s with
   |nil=>exact absurd hd hne
   |cons c r=>simp
  refine⟨by omega,?_⟩;have h48:(((gi (aX s) 0).toNat:Int)==48)=((aX s).head? == some 48):=by have:=Ku (gi (aX s) 0) 48 (by decide);grind
  rw[h48];have hx:decide (((aX s).length:Int)>1)=decide (1<(aX s).length):=by grind
  rw[hx];refine⟨λhb=>no ?_,λhb=>?_⟩
  .unfold lr;rw[hb];simp
  .refine⟨λi=>0<=i/\i<=(aX s).length/\((aX s).take i.toNat).all vB=true,λi=>((aX s).length-i).toNat,⟨by omega,by omega,by simp⟩,?_⟩;rintro i ⟨h0,h1,h2⟩;refine⟨λhi=>?_,λhi=>?_⟩
   .have hi:=aF hi;have bad:vB (gi (aX s) i)=false->(([]:Bs),false,false)=gG s:=λX2=>no (by
     have:(aX s).all vB=false:=by rw[List.all_eq_false];exact⟨_,dq h0 hi,by simp[X2]⟩
     unfold lr;rw[this,px])
    refine⟨⟨h0,hi⟩,λeB=>⟨λ_=>bad ?_,λh=>absurd h (by simp)⟩,λhge=>⟨⟨h0,hi⟩,λhgt=>bad ?_,λhle=>?_⟩⟩
    .have eB:=aF eB;unfold vB;have:¬48<=(gi (aX s) i).toNat:=by omega
     simp[this]
    .have hgt:=aF hgt;unfold vB;have:¬(gi (aX s) i).toNat<=57:=by omega
     simp[this]
    .have hge:=aL hge;have hle:=aL hle;rw[dj (n:=i+1) (by omega) (by omega)];refine⟨⟨by omega,by omega,?_⟩,by first|omega|(dsimp only;omega)⟩;rw[fV h0 hi,jR,h2];simp only[cd,List.all_nil,Bool.and_true,jg];rw[mI];omega
   .have hi:=aL hi;rw[show i.toNat=(aX s).length by omega,gT]at h2;have he:(aX s).isEmpty=false:=by
     cases hd:aX s with
     |nil=>exact absurd hd hne
     |cons _ _=>rfl
    have QP:lr s=true:=by unfold lr;rw[hb,h2,he];rfl
    unfold gG;rw[if_pos QP]
theorem aak{n:Int}(h0:0<=n)(h1:n<=18446744073709551615):IntKind.u64.wrap n=n:=by
 simp[IntKind.wrap,IntKind.signed,IntKind.bits];omega
theorem wu8{n:Int}(h0:0<=n)(h1:n<=255):IntKind.u8.wrap n=n:=by
 simp[IntKind.wrap,IntKind.signed,IntKind.bits];omega
theorem v131(s:Bs)(lo hi:Int)(hp:zE s lo hi):VC131 s lo hi (λr=>r=mg s lo hi):=by
 unfold VC131 iF bD lN wI dE fj eM;obtain⟨hl,uC,xX⟩:=hp;refine⟨hl,?_⟩;unfold mg;simp only[fK];unfold gG;cases QP:lr s with
 |false=>rw[if_neg (by simp)];refine⟨λ_=>by simp[numOf,QP],λh=>absurd h (by simp)⟩
 |true =>
  rw[if_pos rfl];obtain⟨d1,d2,d3⟩:=(r9 s).1 QP;have Ux:(aX s).length<=s.length:=by
   unfold aX Lib.trimPrefix;split
   .simp
   .exact aK _
  have hl:s.length<=1000000:=hl;refine⟨λh=>absurd h (by simp),λ_=>?_⟩;refine⟨λn i=>0<=i/\i<=(aX s).length/\n=fh ((aX s).take i.toNat)/\n<=18446744073709551615,λ_ i=>((aX s).length-i).toNat,⟨by omega,by omega,by simp[fh],by omega⟩,?_⟩;rintro n i ⟨h0,h1,h2,h3⟩;refine⟨λlg=>?_,λlg=>?_⟩
  .have lg:i<(aX s).length:=aF lg;have I5:=JE h0 lg;refine⟨λX1=>?_,λA7=>?_⟩
   .have X1:=aF X1;exact zM QP uC xX (.inl (by omega))
   .have A7:=aL A7;have hdg:=(mI _).1 (aO.1 d3 _ (dq h0 lg));show((0:Int)<=i/\i<(aX s).length)/\(_/\_)
    rw[wu8 (n:=((gi (aX s) i).toNat:Int)-48) (by omega) (by omega),aak (n:=((gi (aX s) i).toNat:Int)-48) (by omega) (by omega),aak (n:=10*n) (by omega) (by omega),aak (by omega) (by omega),dj (n:=i+1) (by omega) (by omega)];refine⟨⟨h0,lg⟩,⟨by omega,by omega,?_,by omega⟩,by first|omega|(dsimp only;omega)⟩;rw[fV h0 lg,q8];omega
  .have lg:¬i<(aX s).length:=aL lg;rw[show i.toNat=(aX s).length by omega,gT]at h2;unfold VC131_J1 VC131_J2 iF wI dE;have Fe:oI s=if eE s then -n else n:=by unfold oI;rw[h2]
   have hno:numOf s lo hi=if lo<=oI s/\oI s<=hi then(oI s,0)else(0,7):=by unfold numOf;rw[if_pos QP]
   have last:∀x:Int,x=oI s->((decide (x<lo)||decide (x>hi))=true->((0:Int),(7:Int))=numOf s lo hi)/\((decide (x<lo)||decide (x>hi))=false->(x,(0:Int))=numOf s lo hi):=by
    rintro x rfl;rw[hno];refine⟨λh=>?_,λh=>?_⟩
    .rw[if_neg];simp at h;omega
    .rw[if_pos];simp at h;omega
   refine⟨λh=>?_,λh=>?_⟩
   .rw[ak,aR]at h;obtain⟨g1,g2⟩:=h;refine zM QP uC xX ?_;cases hm:eE s with
    |true =>
     left;rw[hm]at g2;have:¬n=9223372036854775808:=by simpa using g2
     omega
    |false=>right;exact⟨rfl,by first|omega|(dsimp only;omega)⟩
   .refine⟨λhm=>last _ ?_,λhm=>last _ ?_⟩
    .have hm:eE s=true:=hm;rw[Fe,hm];have hn2:n<=9223372036854775808:=by rw[hm]at h;simp at h;omega
     rw[if_pos rfl];rw[Ko,Ko];omega
    .have hm:eE s=false:=hm;rw[Fe,hm];have hn2:n<=9223372036854775807:=by rw[hm]at h;simp at h;omega
     rw[if_neg (by simp)];exact dj (by omega) (by omega)
def KU(u:Nat):Bs:=if u=0 then []else Lib.decDigits u
theorem Ys(u:Nat)(h:0<u):Lib.decDigits u=KU (u/10)++[UInt8.ofNat (48+u%10)]:=by
 rw[Lib.decDigits];unfold KU;grind
theorem tq(x:Int):(x.tdiv 10).natAbs=x.natAbs/10/\(x.tmod 10).natAbs=x.natAbs%10/\(0<=x->0<=x.tdiv 10/\0<=x.tmod 10)/\(x<=0->x.tdiv 10<=0/\x.tmod 10<=0):=by
 grind
theorem v185(n:Int)(hp:aba n):VC185 n (λr=>r=kF n):=by
 have a1:-9223372036854775808<=n:=hp.1;have a2:n<=9223372036854775807:=hp.2;have hlen:=Lib.itoa_length_le n a1 a2;unfold VC185 VC185_J1 VC185_J2 kF iF wI dE fj eM;refine⟨λh=>?_,λh=>?_⟩
 .have:n=0:=by simpa using h
  subst this;rw[show(0:Int)=((0:Nat):Int)from rfl,Lib.itoa_nonneg,Lib.decDigits];rfl
 .have hn:n≠0:=by simpa using h
  have Ux:(Lib.decDigits n.natAbs).length<=21:=by unfold Lib.itoa at hlen;grind
  refine⟨λout x=>KU x.natAbs++out=Lib.decDigits n.natAbs/\x.natAbs<=n.natAbs/\(n<0->x<=0)/\(0<n->0<=x),λ_ x=>x.natAbs,⟨?_,by omega,λh=>by omega,λh=>by omega⟩,?_⟩
  .unfold KU;rw[if_neg (by omega),fT]
  rintro out x ⟨h1,h2,h3,h4⟩;have XN:out.length<=21:=by grind
  refine⟨λhx=>?_,λhx=>?_⟩
  .have hx0:x≠0:=by simpa using hx
   obtain⟨t1,t2,t3,t4⟩:=tq x;have hpx:KU x.natAbs=Lib.decDigits x.natAbs:=by unfold KU;rw[if_neg (by omega)]
   rw[hpx,Ys _ (by omega),bV]at h1;have hwq:IntKind.i64.wrap (x.tdiv 10)=x.tdiv 10:=dj (by omega) (by omega);have key:∀d:Int,d=(x.natAbs%10:Nat)->((ofBytes [IntKind.u8.wrap (IntKind.i64.wrap (48+d))]).length+out.length<=4611686018427387904) /\
    (KU (IntKind.i64.wrap (x.tdiv 10)).natAbs++(ofBytes [IntKind.u8.wrap (IntKind.i64.wrap (48+d))]++out)=Lib.decDigits n.natAbs/\(IntKind.i64.wrap (x.tdiv 10)).natAbs<=n.natAbs/\(n<0->IntKind.i64.wrap (x.tdiv 10)<=0)/\(0<n->0<=IntKind.i64.wrap (x.tdiv 10)))/\(IntKind.i64.wrap (x.tdiv 10)).natAbs<x.natAbs:=by
    intro d hd;have hw:IntKind.u8.wrap (IntKind.i64.wrap (48+d))=48+d:=by rw[dj (by omega) (by omega),wu8 (by omega) (by omega)]
    have hb:ofBytes [IntKind.u8.wrap (IntKind.i64.wrap (48+d))]=[UInt8.ofNat (48+x.natAbs%10)]:=by unfold ofBytes;grind
    rw[hwq,hb,t1];refine⟨by simp;omega,⟨h1,by omega,λh=>(t4 (h3 h)).1,λh=>(t3 (h4 h)).1⟩,by omega⟩
   refine⟨λhd=>?_,λhd=>?_⟩
   .have hd:=aF hd;exact key _ (by rw[dj (by omega) (by omega)];omega)
   .have hd:=aL hd;exact key _ (by omega)
  .have hx0:x=0:=by simpa using hx
   subst hx0;subst h1;unfold Lib.itoa;refine⟨λhn=>⟨by simp;omega,?_⟩,λhn=>?_⟩
   .have hn:=aF hn;rw[if_pos hn];rfl
   .have hn:=aL hn;rw[if_neg hn,show n.natAbs=n.toNat by omega]
theorem Me(S d:Int):IntKind.i64.wrap (IntKind.i64.wrap (10*IntKind.i64.wrap S)+d)=IntKind.i64.wrap (10*S+d):=by
 grind[only,Ko]
theorem QY(S:Int):-9223372036854775808<=IntKind.i64.wrap S/\IntKind.i64.wrap S<=9223372036854775807:=by rw[Ko];omega
theorem X7{s:Bs}{f i:Int}(h0:0<=f)(h1:f<=i)(h2:i<s.length):gi (s.drop f.toNat) (i-f)=gi s i:=by
 grind[kR,List.length_drop]
theorem v120(s:Bs)(lo hi:Int)(hp:zE s lo hi):VC120 s lo hi (λr=>r=mq s lo hi):=by
 unfold VC120 iF bD lN dE;obtain⟨hl,uC,xX⟩:=hp;have hl:s.length<=1000000:=hl;unfold mq;have main:∀m:Bool,m=eE s->VC120_J7 s lo hi (λr=>r=numOf s lo hi) m:=by
  intro m hm;have no:lr s=false->((0:Int),(5:Int))=numOf s lo hi:=λh=>by simp[numOf,h]
  have tail:∀f:Int,0<=f->f<=s.length->aX s=s.drop f.toNat->(f==1)=eE s->(eE s=true->f=1)->(eE s=false->f=0)->VC120_J1 s lo hi (λr=>r=numOf s lo hi) f:=by
   intro f f0 f1 hd hf1 hfm Uu;have ZV:((aX s).length:Int)=s.length-f:=by rw[hd,dy];omega
   have hgd:∀i:Int,f<=i->i<s.length->gi (aX s) (i-f)=gi s i:=λi a b=>by rw[hd];exact X7 f0 a b
   unfold VC120_J1 iF bD lN dE;refine⟨λh=>?_,λh=>?_⟩
   .unfold VC120_J2 iF bD lN dE oM;refine⟨λ_=>no ?_,λh=>absurd h (by simp)⟩;have Ki:f=s.length:=by simpa using h
    have:aX s=[]:=jJ.1 (by omega);unfold lr;rw[this];rfl
   .have Ki:f≠s.length:=by simpa using h
    have hf2:f<s.length:=by omega
    have hne:aX s≠[]:=by intro e;rw[e]at ZV;simp at ZV;omega
    have amg:(aX s).isEmpty=false:=by
     cases z6:aX s with
     |nil=>exact absurd z6 hne
     |cons _ _=>rfl
    have I9:(aX s).head?=some (gi s f):=by
     rw[←hgd f (eu _) hf2,show f-f=0 by omega];cases z6:aX s with
     |nil=>exact absurd z6 hne
     |cons c r=>rfl
    have h48:(((gi s f).toNat:Int)==48)=((aX s).head? == some 48):=by rw[I9];have:=Ku (gi s f) 48 (by decide);rw[show(((gi s f).toNat:Int)==48)=(((gi s f).toNat:Int)==((48:Nat):Int))from rfl,←this];rfl
    have agr:decide (((s.length:Nat):Int)>1)=(decide (1<(aX s).length)||eE s):=by
     cases hm2:eE s with
     |true=>have:=hfm hm2;simp;omega
     |false=>have:=Uu hm2;simp;omega
    refine⟨⟨f0,hf2⟩,?_⟩;rw[h48,agr];unfold VC120_J2 iF bD lN dE oM;refine⟨λhb=>no ?_,λhb=>?_⟩
    .unfold lr;rw[hb];simp
    .refine⟨λi=>f<=i/\i<=s.length/\((aX s).take (i-f).toNat).all vB=true,λi=>(s.length-i).toNat,⟨by omega,by omega,by rw[show f-f=0 by omega];simp⟩,?_⟩;rintro i ⟨h0,h1,h2⟩;refine⟨λlg=>?_,λlg=>?_⟩
     .have lg:i<s.length:=aF lg;have eB:i-f<(aX s).length:=by omega
      have bad:vB (gi s i)=false->((0:Int),(5:Int))=numOf s lo hi:=λX2=>no (by
       have:(aX s).all vB=false:=by rw[List.all_eq_false];exact⟨_,dq (by omega) eB,by rw[hgd i h0 lg];simp[X2]⟩
       unfold lr;rw[this,px])
      unfold VC120_J6 iF wI oK;refine⟨⟨by omega,lg⟩,λeB=>⟨λ_=>bad ?_,λh=>absurd h (by simp)⟩,λhge=>⟨⟨by omega,lg⟩,λhgt=>bad ?_,λhle=>?_⟩⟩
      .have eB:=aF eB;unfold vB;have:¬48<=(gi s i).toNat:=by omega
       simp[this]
      .have hgt:=aF hgt;unfold vB;have:¬(gi s i).toNat<=57:=by omega
       simp[this]
      .have hge:=aL hge;have hle:=aL hle;rw[dj (n:=i+1) (by omega) (by omega)];refine⟨⟨by omega,by omega,?_⟩,by first|omega|(dsimp only;omega)⟩;rw[show i+1-f=i-f+1 by omega,fV (by omega) eB,jR,h2,hgd i h0 lg];simp only[cd,List.all_nil,Bool.and_true,jg];rw[mI];omega
     .have lg:¬i<s.length:=aL lg;rw[show(i-f).toNat=(aX s).length by omega,gT]at h2;have QP:lr s=true:=by unfold lr;rw[hb,h2,amg];rfl
      have hno:numOf s lo hi=if lo<=oI s/\oI s<=hi then(oI s,0)else(0,7):=by unfold numOf;rw[if_pos QP]
      unfold VC120_J3 iF bD lN wI dE fj;rw[dj (n:=((s.length:Nat):Int)-f) (by omega) (by omega)];refine⟨λZP=>?_,λalI=>?_⟩
      .have ZP:=aF ZP;exact zM QP uC xX (.inl (by have:=Wd QP (by omega);omega))
      .refine⟨λn i=>f<=i/\i<=s.length/\n=IntKind.i64.wrap (if eE s then -(fh ((aX s).take (i-f).toNat):Int)else fh ((aX s).take (i-f).toNat)),λ_ i=>(s.length-i).toNat,⟨by omega,by omega,?_⟩,?_⟩
       .rw[show f-f=0 by omega];cases eE s<;>rfl
       rintro n j ⟨j0,j1,j2⟩;refine⟨λhj=>?_,λhj=>?_⟩
       .have hj:j<s.length:=aF hj;have eB:j-f<(aX s).length:=by omega
        have hdg:=(mI _).1 (aO.1 h2 _ (dq (by omega) eB));rw[hgd j j0 hj]at hdg;have hsn:fh ((aX s).take (j+1-f).toNat)=10*fh ((aX s).take (j-f).toNat)+((gi s j).toNat-48):=by rw[show j+1-f=j-f+1 by omega,fV (by omega) eB,q8,hgd j j0 hj]
        have Kd:IntKind.i64.wrap ((gi s j).toNat:Int)=(gi s j).toNat:=dj (by omega) (by omega);have VY:IntKind.i64.wrap (((gi s j).toNat:Int)-48)=(gi s j).toNat-48:=dj (by omega) (by omega);unfold VC120_J5 wI eM;rw[hf1,Kd,VY,dj (n:=j+1) (by omega) (by omega)];refine⟨⟨by omega,hj⟩,λhm2=>⟨⟨by omega,by omega,?_⟩,by first|omega|(dsimp only;omega)⟩,λhm2=>⟨⟨by omega,by omega,?_⟩,by first|omega|(dsimp only;omega)⟩⟩
        .rw[hm2,if_pos rfl]at j2 ⊢; rw[j2,Me,dj (n:=0-(((gi s j).toNat:Int)-48)) (by omega) (by omega),hsn];congr 1;omega
        .rw[hm2,if_neg (by simp)]at j2 ⊢; rw[j2,Me,hsn];congr 1;omega
       .have hj:¬j<s.length:=aL hj;rw[show(j-f).toNat=(aX s).length by omega,gT]at j2;have j2:n=IntKind.i64.wrap (oI s):=j2;have hr:=QY (oI s);rw[←j2]at hr;unfold VC120_J4 iF dE;refine⟨⟨hr.1,hr.2⟩,?_⟩;simp only[fK];have b1:-9223372036854775808<=lo:=uC.1;have b2:hi<=9223372036854775807:=xX.2;have agb:=PA s QP;have alK:Lib.itoa n=s->oI s=n:=λe=>by have:=(TU n).2;rw[e]at this;exact this
        have hin:(-9223372036854775808<=oI s/\oI s<=9223372036854775807)->n=oI s:=λh=>by rw[j2];exact dj h.1 h.2
        rw[hno];refine⟨λhx=>?_,λhx=>?_⟩
        .rw[if_neg];rintro⟨c1,c2⟩;have e:=hin ⟨by omega,by omega⟩;rw[dS,dS]at hx;rcases hx with(hx|hx)|hx
         .rw[e]at hx;have:kF (oI s)=s:=agb;rw[this]at hx;simp at hx
         .have:=aF hx;omega
         .have:=aF hx;omega
        .rw[cO,cO]at hx;obtain⟨⟨x1,x2⟩,x3⟩:=hx;have x2:=aL x2;have x3:=aL x3;have x1:kF n=s:=by simpa using x1
         have e:=alK x1;rw[if_pos ⟨by omega,by omega⟩,e]
  unfold VC120_J7 iF;refine⟨λh=>?_,λh=>?_⟩
  .rw[h]at hm;have hs:=(PG s).1 hm.symm;have Uf:0<s.length:=by rw[hs];simp
   exact tail 1 (by omega) (by omega) (by(conv=>rhs;rw[hs]);rfl) (by rw[←hm];rfl) (λ_=>rfl) (λh2=>by rw[h2]at hm;cases hm)
  .rw[h]at hm;exact tail 0 (by omega) (by omega) (by simpa using(PG s).2 hm.symm) (by rw[←hm];rfl) (λh2=>by rw[h2]at hm;cases hm) (λ_=>rfl)
 refine⟨λh=>?_,λh=>?_⟩
 .have h:=aF h;refine⟨⟨by omega,by omega⟩,main _ ?_⟩;cases s with
  |nil=>simp at h
  |cons b r=>rw[xA];exact(Ku b 45 (by decide)).symm
 .have h:=aL h;have:s=[]:=jJ.1 (by omega);subst this;exact main false rfl
theorem FP:∀(l:Bs)(i:Int)(cur:Bs),((wU l i cur).map (λp=>p.2.length+1)).sum<=2*(l.length+cur.length)
 |[],i,cur=>by
  cases cur with
  |nil=>simp[wU]
  |cons c q=>simp[wU];omega
 |b::r,i,cur=>by
  by_cases hg:vv b=true
  .have ih:=FP r (i+1) [];cases cur with
   |nil=>rw[uD hg];simp only[bc,cN]at ih ⊢; omega
   |cons c q=>rw[Bi hg (by simp),ba,List.sum_cons];simp only[bc,cN]at ih ⊢; omega
  .have ih:=FP r (i+1) (cur++[b]);rw[BF (by simpa using hg)];simp only[bc,aS,cN]at ih ⊢; omega
theorem Nk{α:Type}(f:α->Nat):∀l:List α,l.length<=(l.map (λx=>f x+1)).sum
 |[]=>by simp
 |x::r=>by have:=Nk f r;simp only[ba,List.sum_cons,bc];omega
theorem IL:∀l:List Bs,(tH l).length<=(l.map (λt=>t.length+1)).sum
 |[]=>by simp[tH]
 |t::r=>by
  have:(r.flatMap λt=>(32:UInt8)::t).length=(r.map (λt=>t.length+1)).sum:=by rw[List.length_flatMap];simp
  unfold tH;grind
theorem OL(l:Bs)(k a:Int):(rowOf l k a).length<=2*l.length/\(tH ((rowOf l k a).map ai.Text)).length<=2*l.length:=by
 have h:=FP l a [];have h2:=Nk (λp:Int×Bs=>p.2.length) (wU l a []);have h3:=IL ((rowOf l k a).map ai.Text);unfold rowOf at *; split
 .simp[tH]
 .rename_i hr;rw[if_neg hr]at h3;rw[kV,kV]at h3;rw[da];simp only[cN,c9]at h;refine⟨by omega,bP ?_ h⟩;rw[kV];exact h3
theorem E5:∀(f:Nat)(l:Bs)(k a:Int),(eW f l k a).length<=l.length/\(∀r∈eW f l k a,r.length<=2*l.length)/\(lL ((eW f l k a).map (λr=>r.map ai.Text))).length<=2*l.length+1/\(l=[]->eW f l k a=[])
 |0,l,k,a=>by simp[eW,lL]
 |f+1,[],k,a=>by simp[eW,lL]
 |f+1,b::r,k,a=>by
  have e:eW (f+1) (b::r) k a=rowOf (tw (b::r)) k a::eW f ((b::r).drop ((tw (b::r)).length+1)) (k+1) (a+(tw (b::r)).length+1):=rfl;rw[e];obtain⟨h1,h2,h3,h4⟩:=E5 f ((b::r).drop ((tw (b::r)).length+1)) (k+1) (a+(tw (b::r)).length+1);have ht:=Y5 (b::r);obtain⟨g1,g2⟩:=OL (tw (b::r)) k a;rw[dy]at h1 h2 h3;simp only[bc]at *; refine⟨by omega,λq hq=>?_,?_,λh=>by cases h⟩
  .rcases aE.1 hq with rfl|hq
   .omega
   .have:=h2 q hq;omega
  .rw[ba,←List.singleton_append,IP,IM];simp only[aS,sQ];by_cases hd:(tw (b::r)).length+1<=r.length+1
   .omega
   .have hz:(b::r).drop ((tw (b::r)).length+1)=[]:=dT (by simp;omega);rw[h4 hz]at h3 ⊢; simp only[lL,iC,List.flatMap_nil,cN];omega
theorem Pj(s:Bs)(hl:sq s):aeW (cK s)/\aeX (cK s)/\Zl (iv s)/\tu (iv s)=pL (cK s):=by
 unfold sq at hl;obtain⟨h1,h2,h3,_⟩:=E5 s.length s 1 0;have e:tu (iv s)=pL (cK s):=by unfold tu pL iv;rw[kV];congr 1;apply List.map_congr_left;intro r _;simp[oR]
 have h3:(pL (cK s)).length<=2*s.length+1:=h3;refine⟨⟨by have:(cK s).length<=s.length:=h1;omega,λr hr=>by have:=h2 r hr;omega⟩,by unfold aeX;omega,by unfold Zl;rw[e];omega,e⟩
def xg(t:ai):Int:=t.At+t.Text.length
def NY(s:Bs)(i:Int):Nat:=(s.take i.toNat).count 10
theorem JJ{s:Bs}{i:Int}(h0:0<=i)(h:i<s.length):NY s (i+1)=NY s i+if gi s i=10 then 1 else 0:=by
 unfold NY;grind[fV,List.count_eq_zero_of_not_mem]
theorem U7{s:Bs}{i e:Int}(h0:0<=i)(h1:i<=e)(h2:e<=s.length)(h:∀j:Int,i<=j->j<e->gi s j≠10):NY s e=NY s i:=by
 have key:∀(n:Nat)(e:Int),(e-i).toNat=n->i<=e->e<=s.length->(∀j:Int,i<=j->j<e->gi s j≠10)->NY s e=NY s i:=by
  intro n
  induction n with
  |zero=>intro e he h1 h2 h;rw[show e=i by omega]
  |succ n ih=>intro e he h1 h2 h;have:=ih (e-1) (by omega) (by omega) (by omega) (λj a b=>h j a (by omega));rw[show e=e-1+1 by omega,JJ (by omega) (by omega),this,if_neg (h (e-1) (by omega) (by omega))];rfl
 grind
structure Good (s:Bs) (k:Int) (t:ai):Prop where
 lo:0<=t.At
 hi:xg t<=s.length
 txt:(s.take (xg t).toNat).drop t.At.toNat=t.Text
 ne:t.Text≠[]
 all:t.Text.all inB=true
 line:t.QA=k
 vG:(NY s t.At:Int)+1=k
 nxt:xg t<s.length->inB (gi s (xg t))=false
theorem Q7{s:Bs}{e k:Int}(he:e<=s.length)(Ly:e<s.length->gi s e=10):∀(n:Nat)(p q:Int),(e-p).toNat=n->0<=q->q<=p->p<=e ->
  (∀j:Int,p<=j->j<e->gi s j≠10)->((s.take p.toNat).drop q.toNat).all inB=true->(∀j:Int,q<=j->j<e->(NY s j:Int)+1=k) ->
  (∀t∈Kc k (wU ((s.take e.toNat).drop p.toNat) p ((s.take p.toNat).drop q.toNat)),Good s k t/\q<=t.At/\xg t<=e) /\
  (Kc k (wU ((s.take e.toNat).drop p.toNat) p ((s.take p.toNat).drop q.toNat))).Pairwise (λt u=>xg t<=u.At):=by
 intro n;have one:∀(p q:Int),0<=q->q<p->p<=e->((s.take p.toNat).drop q.toNat).all inB=true->(∀j:Int,q<=j->j<e->(NY s j:Int)+1=k)->(p<s.length->inB (gi s p)=false) ->
  Good s k ⟨k,p-((s.take p.toNat).drop q.toNat).length,(s.take p.toNat).drop q.toNat⟩/\q<=p-((s.take p.toNat).drop q.toNat).length/\xg ⟨k,p-((s.take p.toNat).drop q.toNat).length,(s.take p.toNat).drop q.toNat⟩<=e:=by
  intro p q h0 h1 h2 h3 h4 h5;have hl:=qF (s:=s) h0 (Int.le_of_lt h1) (by omega);have ep:p-((s.take p.toNat).drop q.toNat).length=q:=by omega
  have et:xg ⟨k,q,(s.take p.toNat).drop q.toNat⟩=p:=by unfold xg;simp only;omega
  rw[ep];exact⟨⟨h0,by rw[et];omega,by rw[et],λe=>by have e':(s.take p.toNat).drop q.toNat=[]:=e;rw[e']at hl;simp at hl;omega,h3,rfl,h4 q (eu _) (by omega),λh=>by rw[et]at h ⊢; exact h5 h⟩,eu _,by rw[et];exact h2⟩
 induction n with
 |zero =>
  intro p q hn h0 h1 h2 h3 h4 h5;have:p=e:=by omega
  subst this;rw[lF (eu _)];by_cases hq:q=p
  .subst hq;simp[wU,Kc]
  .have hl:=qF (s:=s) h0 h1 he;have hne:(s.take p.toNat).drop q.toNat≠[]:=λe=>by rw[e]at hl;simp at hl;omega
   rw[FQ _ hne];simp only[Kc,ba,iC,aY,forall_eq,List.pairwise_singleton,and_true];exact one p q h0 (by omega) h2 h4 h5 (λh=>by rw[Ly h];decide)
 |succ n ih =>
  intro p q hn h0 h1 h2 h3 h4 h5;have hpe:p<e:=by omega
  rw[uO (by omega) hpe he];by_cases hg:vv (gi s p)=true
  .obtain⟨i1,i2⟩:=ih (p+1) (p+1) (by omega) (by omega) (eu _) (by omega) (λj a b=>h3 j (by omega) b) (by rw[lF (eu _)];rfl) (λj a b=>h5 j (by omega) b);rw[lF (i:=p+1) (e:=p+1) (eu _)]at i1 i2;by_cases hq:q=p
   .subst hq;rw[lF (i:=q) (e:=q) (eu _),uD hg];exact⟨λt ht=>⟨(i1 t ht).1,by have:=(i1 t ht).2.1;omega,(i1 t ht).2.2⟩,i2⟩
   .have hl:=qF (s:=s) h0 h1 (by omega);have hne:(s.take p.toNat).drop q.toNat≠[]:=λe=>by rw[e]at hl;simp at hl;omega
    rw[Bi hg hne];have ho:=one p q h0 (by omega) h2 h4 h5 (λ_=>by unfold inB;rw[hg];rfl);have PE:xg ⟨k,p-((s.take p.toNat).drop q.toNat).length,(s.take p.toNat).drop q.toNat⟩=p:=by unfold xg;simp only;omega
    refine⟨λt ht=>?_,List.pairwise_cons.2 ⟨λu hu=>?_,i2⟩⟩
    .rcases aE.1 ht with rfl|ht
     .exact ho
     .exact⟨(i1 t ht).1,by have:=(i1 t ht).2.1;omega,(i1 t ht).2.2⟩
    .rw[PE];have:=(i1 u hu).2.1;omega
  .have hg:vv (gi s p)=false:=by simpa using hg
   rw[BF hg,←uN h0 h1 (by omega)];refine ih (p+1) q (by omega) h0 (by omega) (by omega) (λj a b=>h3 j (by omega) b) ?_ h5;rw[uN h0 h1 (by omega),jR,h4];have hn10:=h3 p (eu _) hpe;have:(gi s p).toNat≠10:=λe=>hn10 (UInt8.toNat_inj.1 e);simp[inB,hg,this]
theorem CT{s:Bs}:∀(f:Nat)(a k:Int),0<=a->a<=s.length+1->(a<=s.length->(NY s a:Int)+1=k) ->
  (∀i:Nat,∀r,(eW f (s.drop a.toNat) k a)[i]?=some r->∀t∈r,Good s (k+i) t) /\
  (∀t∈(eW f (s.drop a.toNat) k a).flatten,a<=t.At) /\
  ((eW f (s.drop a.toNat) k a).flatten).Pairwise (λt u=>xg t<=u.At)
 |0,a,k,_,_,_=>by simp[eW]
 |f+1,a,k,h0,h1,h2=>by
  by_cases hd:s.drop a.toNat=[]
  .rw[hd];simp[eW]
  .have ha:a<s.length:=by simp_all
   obtain⟨e,e0,e1,e2,e3⟩:∃e:Int,a<=e/\e<=s.length/\(∀j:Int,a<=j->j<e->gi s j≠10)/\(e<s.length->gi s e=10):=by
    have key:∀(n:Nat)(b:Int),(s.length-b).toNat=n->a<=b->b<=s.length->(∀j:Int,a<=j->j<b->gi s j≠10)->∃e:Int,a<=e/\e<=s.length/\(∀j:Int,a<=j->j<e->gi s j≠10)/\(e<s.length->gi s e=10):=by
     intro n
     induction n with
     |zero=>intro b hb b0 b1 b2;exact⟨b,b0,b1,b2,λh=>by omega⟩
     |succ n ih =>
      intro b hb b0 b1 b2;by_cases h10:gi s b=10
      .exact⟨b,b0,b1,b2,λ_=>h10⟩
      .refine ih (b+1) (by omega) (by omega) (by omega) (λj j0 j1=>?_);by_cases hj:j=b
       .subst hj;exact h10
       .exact b2 j j0 (by omega)
    grind
   have QM:=Rh h0 e0 e1 e2 e3;have hlen:=qF (s:=s) h0 e0 e1;have hex:eW (f+1) (s.drop a.toNat) k a=rowOf (tw (s.drop a.toNat)) k a::eW f ((s.drop a.toNat).drop ((tw (s.drop a.toNat)).length+1)) (k+1) (a+(tw (s.drop a.toNat)).length+1):=by
    cases hc:s.drop a.toNat with
    |nil=>exact absurd hc hd
    |cons b r=>rfl
   rw[hex,QM,kx,hlen,show a+(e-a)+1=e+1 by omega,show a.toNat+(((s.take e.toNat).drop a.toNat).length+1)=(e+1).toNat by omega];have agF:∀j:Int,a<=j->j<=e->NY s j=NY s a:=λj j0 j1=>U7 (s:=s) h0 j0 (by omega) (λx x0 x1=>e2 x x0 (by omega));have hk:=h2 (by omega);obtain⟨r1,r2,r3⟩:=CT (s:=s) f (e+1) (k+1) (by omega) (by omega) (λh=>by
    rw[JJ (by omega) (by omega),if_pos (e3 (by omega)),agF e e0 (eu _)];omega)
   have gk:(∀t∈rowOf ((s.take e.toNat).drop a.toNat) k a,Good s k t/\a<=t.At/\xg t<=e)/\(rowOf ((s.take e.toNat).drop a.toNat) k a).Pairwise (λt u=>xg t<=u.At):=by
    unfold rowOf;split
    .simp
    .have:=Q7 (s:=s) (e:=e) (k:=k) e1 e3 _ a a rfl h0 (eu _) e0 e2 (by rw[lF (eu _)];rfl) (λj j0 j1=>by rw[agF j j0 (by omega)];exact hk);rw[lF (i:=a) (e:=a) (eu _)]at this;exact this
   refine⟨λi r hr t ht=>?_,λt ht=>?_,?_⟩
   .cases i with
    |zero=>grind
    |succ i=>grind
   .rw[List.flatten_cons]at ht;rcases aV.1 ht with ht|ht
    .exact(gk.1 t ht).2.1
    .have:=r2 t ht;omega
   .rw[List.flatten_cons,List.pairwise_append];refine⟨gk.2,r3,λt ht u hu=>?_⟩;have h1:=(gk.1 t ht).2.2;have h2:=r2 u hu;omega
theorem v129(x n:Int)(hp:H7 x n):VC129 x n (λr=>r=kL x n):=by
 unfold H7 at hp;refine⟨⟨rfl,by omega,by omega⟩,?_⟩;simp only[fK];intro _;rfl
theorem v78(n:Int)(hp:SJ n):VC78 n (λr=>r=mz n):=by
 refine⟨hp,?_⟩;simp only[fK];refine λ_=>⟨hp,?_⟩
 intro _;rfl
theorem UH{a b:List Int}{x:Int}(h0:0<=x)(h1:x<a.length)(h2:x<b.length):gi (a.zip b) x=(gi a x,gi b x):=by
 grind[kR,List.length_zip]
theorem Cr(l:List ai):(dK l).length=l.length:=by simp[dK]
theorem K3(l:List ai):(eL l).length=l.length:=by simp[eL]
theorem rW{l:List ai}{x:Int}(h0:0<=x)(h1:x<l.length):gi (dK l) x=((gi l x).At,(gi l x).Text):=Aa _ h0 h1
theorem zH{l:List ai}{x:Int}(h0:0<=x)(h1:x<l.length):gi (eL l) x=((gi l x).At,(gi l x).Text):=Aa _ h0 h1
theorem oz(p:Int×Bs)(r:PL)(w:Bs)(lo hi:List Int)(e:Int):gE (p::r) w lo hi e=if p.2≠w then([],p.1,8)else ib e r (lo.zip hi) (p.1+p.2.length) []:=rfl
theorem v80(l:List ai)(w:Bs)(lo hi:List Int)(e:Int)(hp:H3 l w lo hi e):VC80 l w lo hi e (λr=>r=eU l w lo hi e):=by
 unfold VC80 iF bD lN wI dE fj eM;intro hs1 hs2 hs3;obtain⟨⟨g1,g2⟩,n1,n2,n3,n4⟩:=hp;unfold eU;have hP:=Cr l;have Ut:∀x:Int,0<=x->x<l.length->gi (dK l) x=((gi l x).At,(gi l x).Text):=λx=>rW;generalize dK l=P at *; refine⟨λh=>?_,λh=>?_⟩
 .have h:l.length=0:=by simpa using h
  have:P=[]:=jJ.1 (by omega);subst this;rfl
 .have hl:l.length≠0:=by simpa using h
  have e0:P=gi P 0::P.drop 1:=by have:=eF (l:=P) (i:=0) (by omega) (by omega);grind
  have hm:(if((hi.length:Nat):Int)<((lo.length:Nat):Int)then((hi.length:Nat):Int)else((lo.length:Nat):Int))=(lo.zip hi).length:=by grind
  rw[hm];rw[e0,oz,Ut 0 (by omega) (by omega)];refine⟨⟨by omega,by omega⟩,λh=>⟨⟨by omega,by omega⟩,?_⟩,λh=>?_⟩
  .rw[if_pos (by simpa using h)]
  .rw[if_neg (by simpa using h)];generalize hT:ib e (P.drop 1) (lo.zip hi) ((gi l 0).At+((gi l 0).Text.length:Nat)) []=T;rw[dj (n:=((l.length:Nat):Int)-1) (by omega) (by omega)];refine⟨⟨by omega,by omega⟩,λout x=>0<=x/\x<=(lo.zip hi).length/\x<l.length/\(out.length:Int)=x/\ib e (P.drop (x+1).toNat) ((lo.zip hi).drop x.toNat) ((gi l x).At+((gi l x).Text.length:Nat)) out=T,λ_ x=>((lo.zip hi).length-x).toNat,⟨by omega,by omega,by omega,rfl,by simpa using hT⟩,?_⟩;rintro out x ⟨h0,h1,h2,h3,h4⟩;have hw:IntKind.i64.wrap (x+1)=x+1:=dj (by omega) (by omega);refine⟨λhx=>?_,λhx=>?_⟩
   .have hx:x<(lo.zip hi).length:=aF hx;rw[eF h0 hx,UH h0 (by omega) (by omega)]at h4;rw[hw];refine⟨λhy=>?_,λhy=>?_⟩
    .have hy:=aF hy;rw[dT (by omega)]at h4;have hG:=g2 _ (dq (l:=P) h0 (by omega));rw[Ut x h0 h2]at hG;simp only at hG;rw[show((l.length:Nat):Int)-1=x by omega,dj (n:=(gi l x).At+((gi l x).Text.length:Nat)) (by omega) (by omega)];exact h4
    .have hy:¬x+1≥l.length:=aL hy;have hG:=g2 _ (dq (l:=P) (i:=x+1) (by omega) (by omega));rw[eF (l:=P) (i:=x+1) (by omega) (by omega),Ut (x+1) (by omega) (by omega)]at h4;rw[Ut (x+1) (by omega) (by omega)]at hG;simp only at hG;refine⟨⟨by omega,by omega⟩,⟨h0,by omega⟩,⟨h0,by omega⟩,⟨by show _<=1000000;omega,n3 _ (dq h0 (by omega)),n4 _ (dq h0 (by omega))⟩,?_⟩;rintro _ rfl;unfold mg;simp only[ib]at h4;refine⟨λhe=>?_,λhe=>?_⟩
     .rw[if_pos (by simpa using he)]at h4;exact h4
     .rw[if_neg (by simpa using he)]at h4;exact⟨by simp;omega,⟨by omega,by omega,by omega,by simp;omega,h4⟩,by first|omega|(dsimp only;omega)⟩
   .have hx:¬x<(lo.zip hi).length:=aL hx;rw[show(lo.zip hi).drop x.toNat=[]from dT (by omega)]at h4;unfold VC80_J1 iF bD lN wI dE;rw[h3,hw];refine⟨λhy=>?_,λhy=>?_⟩
    .have hy:((l.length:Nat):Int)>x+1:=aF hy;rw[eF (l:=P) (i:=x+1) (by omega) (by omega),Ut (x+1) (by omega) (by omega)]at h4;exact⟨⟨by omega,by omega⟩,h4⟩
    .have hy:¬((l.length:Nat):Int)>x+1:=aL hy;rw[dT (by omega)]at h4;exact h4
theorem v60(l:List ai)(w:Bs)(lo hi:List Int)(e:Int)(hp:MM l w lo hi e):VC60 l w lo hi e (λr=>r=jM l w lo hi e):=by
 unfold VC60 iF bD lN wI dE fj eM;intro hs1 hs2 hs3;obtain⟨⟨g1,g2⟩,n1,n2,n3,n4⟩:=hp;unfold jM;have hP:=K3 l;have Ut:∀x:Int,0<=x->x<l.length->gi (eL l) x=((gi l x).At,(gi l x).Text):=λx=>zH;generalize eL l=P at *; refine⟨λh=>?_,λh=>?_⟩
 .have h:l.length=0:=by simpa using h
  have:P=[]:=jJ.1 (by omega);subst this;rfl
 .have hl:l.length≠0:=by simpa using h
  have e0:P=gi P 0::P.drop 1:=by have:=eF (l:=P) (i:=0) (by omega) (by omega);grind
  rw[e0,oz,Ut 0 (by omega) (by omega)];refine⟨⟨by omega,by omega⟩,λh=>⟨⟨by omega,by omega⟩,?_⟩,λh=>?_⟩
  .rw[if_pos (by simpa using h)]
  .rw[if_neg (by simpa using h)];generalize hT:ib e (P.drop 1) (lo.zip hi) ((gi l 0).At+((gi l 0).Text.length:Nat)) []=T;have IW:(lo.zip hi).length=min lo.length hi.length:=List.length_zip;refine⟨λout x=>0<=x/\x<=(lo.zip hi).length/\x<l.length/\(out.length:Int)=x/\ib e (P.drop (x+1).toNat) ((lo.zip hi).drop x.toNat) ((gi l x).At+((gi l x).Text.length:Nat)) out=T,λ_ x=>((lo.zip hi).length-x).toNat,⟨by omega,by omega,by omega,rfl,by simpa using hT⟩,?_⟩;rintro out x ⟨h0,h1,h2,h3,h4⟩;have hw:IntKind.i64.wrap (x+1)=x+1:=dj (by omega) (by omega);refine⟨λhx=>?_,λhx=>?_⟩
   .rw[ak,aR,aR]at hx;have hx:x<(lo.zip hi).length:=by omega
    rw[eF h0 hx,UH h0 (by omega) (by omega)]at h4;rw[hw];refine⟨λhy=>?_,λhy=>?_⟩
    .have hy:x+1=l.length:=by simpa using hy
     rw[dT (by omega)]at h4;have hG:=g2 _ (dq (l:=P) h0 (by omega));rw[Ut x h0 h2]at hG;simp only at hG;rw[dj (n:=(gi l x).At+((gi l x).Text.length:Nat)) (by omega) (by omega)];exact⟨⟨h0,h2⟩,⟨h0,h2⟩,h4⟩
    .have hy:x+1≠l.length:=by simpa using hy
     have hG:=g2 _ (dq (l:=P) (i:=x+1) (by omega) (by omega));rw[eF (l:=P) (i:=x+1) (by omega) (by omega),Ut (x+1) (by omega) (by omega)]at h4;rw[Ut (x+1) (by omega) (by omega)]at hG;simp only at hG;refine⟨⟨by omega,by omega⟩,⟨h0,by omega⟩,⟨h0,by omega⟩,⟨by show _<=1000000;omega,n3 _ (dq h0 (by omega)),n4 _ (dq h0 (by omega))⟩,?_⟩;rintro _ rfl;unfold mq;simp only[ib]at h4;refine⟨λhe=>⟨⟨by omega,by omega⟩,?_⟩,λhe=>?_⟩
     .rw[if_pos (by simpa using he)]at h4;exact h4
     .rw[if_neg (by simpa using he)]at h4;exact⟨by simp;omega,⟨by omega,by omega,by omega,by simp;omega,h4⟩,by first|omega|(dsimp only;omega)⟩
   .rw[mN,bp,bp]at hx;rw[show(lo.zip hi).drop x.toNat=[]from dT (by omega)]at h4;unfold VC60_J1 iF bD lN wI;rw[h3,hw];refine⟨λhy=>?_,λhy=>?_⟩
    .have hy:((l.length:Nat):Int)≠x+1:=by simpa using hy
     rw[eF (l:=P) (i:=x+1) (by omega) (by omega),Ut (x+1) (by omega) (by omega)]at h4;exact⟨⟨by omega,by omega⟩,h4⟩
    .have hy:((l.length:Nat):Int)=x+1:=by simpa using hy
     rw[dT (by omega)]at h4;exact h4
theorem CI(r:List ai)(l:List (List ai)):fb (r::l)=if r.isEmpty then fb l else(r,l):=rfl
theorem v79(l:List (List ai)):VC79 l (λr=>r=jw l):=by
 unfold VC79 iF bD lN wI dE oM oK;intro hs;simp only[sm]at hs;unfold VC79_J1 jw;refine⟨λi=>0<=i/\i<=l.length/\fb l=fb (l.drop i.toNat),λi=>(l.length-i).toNat,⟨by omega,by omega,by simp⟩,?_⟩;rintro i ⟨h0,h1,h2⟩;refine⟨λhi=>?_,λhi=>?_⟩
 .have hi:=aF hi;rw[eF h0 hi]at h2;rw[dj (n:=i+1) (by omega) (by omega)];rw[CI]at h2;refine⟨⟨h0,hi⟩,λ_=>⟨λhr=>⟨⟨by omega,by omega⟩,?_⟩,λhr=>?_⟩⟩
  .have hr:=aF hr;have:(gi l i).isEmpty=false:=by
    cases hg:gi l i with
    |nil=>rw[hg]at hr;simp at hr
    |cons _ _=>rfl
   rw[this,if_neg (by simp)]at h2;exact h2.symm
  .have hr:=aL hr;have:gi l i=[]:=jJ.1 (by omega);rw[this]at h2;exact⟨⟨by omega,by omega,h2⟩,by first|omega|(dsimp only;omega)⟩
 .have hi:=aL hi;rw[dT (by omega)]at h2;exact h2.symm
theorem v23(l:List (List ai))(hp:WS l):VC23 l (λr=>r=ju l):=by
 unfold VC23 iF bD lN dE fj;intro hs;unfold WS at hp;unfold VC23_J1 VC23_J2 ju wI eM;refine⟨λout i=>0<=i/\i<=l.length/\out=(l.take i.toNat).filter (λr=>!r.isEmpty),λ_ i=>(l.length-i).toNat,⟨by omega,by omega,by simp⟩,?_⟩;rintro out i ⟨h0,h1,h2⟩;have XN:out.length<=l.length:=by rw[h2];exact bP (List.length_filter_le _ _) (by rw[bH];omega)
 refine⟨λhi=>?_,λhi=>?_⟩
 .have hi:=aF hi;rw[dj (n:=i+1) (by omega) (by omega)];have im:(l.take (i+1).toNat).filter (λr=>!r.isEmpty)=out++[gi l i].filter (λr=>!r.isEmpty):=by rw[fV h0 hi,List.filter_append,h2]
  refine⟨⟨h0,hi⟩,λ_=>⟨λhr=>⟨⟨h0,hi⟩,λ_=>⟨by simp;omega,⟨by omega,by omega,?_⟩,by first|omega|(dsimp only;omega)⟩⟩,λhr=>⟨⟨by omega,by omega,?_⟩,by first|omega|(dsimp only;omega)⟩⟩⟩
  .have hr:=aF hr;have:(gi l i).isEmpty=false:=by
    cases hg:gi l i with
    |nil=>rw[hg]at hr;simp at hr
    |cons _ _=>rfl
   rw[im];simp[this]
  .have hr:=aL hr;have:gi l i=[]:=jJ.1 (by omega);rw[im,this];simp
 grind
theorem in4:(∀x∈VP,zl .i64 x)/\(∀x∈V3,zl .i64 x):=by
 constructor
 .intro x hx;simp[VP]at hx;subst hx;exact⟨by decide,by decide⟩
 .intro x hx;simp[V3]at hx;subst hx;exact⟨by decide,by decide⟩
theorem v58(l:List (List ai))(i:Int)(w:Bs)(e:Int)(hp:WT l i w e):VC58 l i w e (λr=>r=ki l i w e):=by
 unfold VC58 iF bD lN dE;intro hs;obtain⟨h0,hg⟩:=hp;unfold ki db;rw[da];refine⟨λh=>by rw[if_pos (aF h)],λh=>?_⟩;have h:=aL h;rw[if_neg h];refine⟨⟨h0,by omega⟩,λ_=>⟨⟨hg _ (dq h0 (by omega)),by decide,by decide,in4.1,in4.2⟩,?_⟩⟩;simp only[fK];intro _;rw[Aa _ h0 (by omega)];rfl
theorem vh(r:List ai)(l:List (List ai)):bF (r::l)=if r.isEmpty then bF l else dK r::bF l:=by
 cases r with
 |nil=>rfl
 |cons t q=>rfl
theorem lT:∀l:List (List ai),(bF l=[]/\fb l=([],[]))∨(bF l=dK (fb l).1::bF (fb l).2/\(fb l).1≠[]/\(fb l).1∈l/\(∀r∈(fb l).2,r∈l)/\(fb l).2.length<l.length)
 |[]=>.inl ⟨rfl,rfl⟩
 |r::l=>by
  rw[vh,CI];by_cases h:r.isEmpty=true
  .rw[if_pos h,if_pos h];rcases lT l with h1|⟨h1,h2,h3,h4,h5⟩
   .exact .inl h1
   .exact .inr ⟨h1,h2,by simp[h3],λq hq=>by simp[h4 q hq],by simp;omega⟩
  grind
theorem Lh(l:List (List ai)):(∀r∈(fb l).2,r∈l)/\(fb l).2.length<=l.length:=by
 rcases lT l with⟨_,h⟩|⟨_,_,_,h,h2⟩
 .rw[h];simp
 grind
theorem Ah:∀(n:Nat)(l:List (List ai)),bF (jG n l)=(bF l).drop n
 |0,l=>rfl
 |n+1,l=>by show bF (jG n (fb l).2)=_;rw[Ah n];grind[lT]
theorem Fo:∀(n:Nat)(l:List (List ai)),jG (n+1) l=(fb (jG n l)).2
 |0,l=>rfl
 |n+1,l=>by exact Fo n _
theorem Dh:∀(n:Nat)(l:List (List ai)),(∀r∈jG n l,r∈l)/\(jG n l).length<=l.length
 |0,l=>⟨λ_ h=>h,aK _⟩
 |n+1,l=>by obtain⟨h1,h2⟩:=Dh n (fb l).2;obtain⟨h3,h4⟩:=Lh l;exact⟨λr hr=>h3 r (h1 r hr),bP h2 h4⟩
theorem AH{l:List (List ai)}{L:List PL}{i:Int}(h0:0<=i)(h:bF l=L.drop i.toNat)(w:Bs)(e:Int):gE (dK (fb l).1) w VP V3 e=db L i w e:=by
 unfold db;rcases lT l with⟨h1,h2⟩|⟨h1,h2,_⟩
 .have:L.length<=i.toNat:=by have:=b8 List.length (h1.symm.trans h);simp at this;omega
  rw[h2,if_pos (by omega)];rfl
 .have hi:i<L.length:=by have:=b8 List.length (h1.symm.trans h);grind
  rw[if_neg (by omega)];rw[eF h0 hi]at h;rw[h1]at h;rw[(List.cons.inj h).1]
theorem Fi{l:List (List ai)}(hg:∀r∈l,w9 (dK r)):w9 (dK (fb l).1):=by
 rcases lT l with⟨_,h2⟩|⟨_,_,h3,_⟩
 .rw[h2];exact⟨by simp[dK],by simp[dK]⟩
 grind
theorem CD{t:Bs}{lo hi:Int}(h:(numOf t lo hi).2=0):lo<=(numOf t lo hi).1/\(numOf t lo hi).1<=hi:=by
 unfold numOf at *; grind
theorem ES(e:Int):∀(bs:List (Int×Int)) (l:PL) (q:Int) (acc:List Int),(ib e l bs q acc).2.2=0->(ib e l bs q acc).2.1=e/\∃r,(ib e l bs q acc).1=acc++r/\r.length=bs.length/\∀v∈r,∃b∈bs,b.1<=v/\v<=b.2
 |[],[],q,acc,h=>⟨rfl,[],by simp[ib],rfl,by simp⟩
 |[],p::l,q,acc,h=>by simp[ib]at h
 |b::bs,[],q,acc,h=>by simp[ib]at h
 |b::bs,p::l,q,acc,h=>by
  simp only[ib]at h ⊢; by_cases he:(numOf p.2 b.1 b.2).2≠0
  .rw[if_pos he]at h;exact absurd h he
  .rw[if_neg he]at h ⊢; obtain⟨h1,r,h2,h3,h4⟩:=ES e bs l _ _ h;refine⟨h1,(numOf p.2 b.1 b.2).1::r,by rw[h2];simp,by simp[h3],λv hv=>?_⟩;rcases aE.1 hv with rfl|hv
   .exact⟨b,by simp,CD (by simpa using he)⟩
   .obtain⟨c,hc,hcb⟩:=h4 v hv;exact⟨c,by simp[hc],hcb⟩
theorem pv{L:List PL}{i:Int}{w:Bs}{e:Int}(h:(db L i w e).2.2=0):(db L i w e).2.1=e/\(db L i w e).1.length=4/\(∀v∈(db L i w e).1,0<=v/\v<=1000000)/\i<L.length:=by
 unfold db at *; by_cases hi:i≥L.length
 .rw[if_pos hi]at h;simp at h
 .rw[if_neg hi]at h ⊢; have eB:i<L.length:=by omega
  cases hg:gi L i with
  |nil=>rw[hg]at h;simp[gE]at h
  |cons p r =>
   rw[hg,oz]at h;rw[oz];by_cases hp:p.2≠w
   .rw[if_pos hp]at h;simp at h
   .rw[if_neg hp]at h ⊢; obtain⟨h1,r',h2,h3,h4⟩:=ES e _ _ _ _ h;refine⟨h1,by rw[h2];exact h3.trans (by decide),λv hv=>?_,eB⟩;rw[h2]at hv;obtain⟨b,hb,hbb⟩:=h4 v (by simpa using hv);have:b=(0,1000000):=by simp[VP,V3]at hb;omega
    subst this;exact hbb
theorem Tf{n:List Int}(h:n.length=4)(hv:∀v∈n,0<=v/\v<=1000000):∀k:Int,0<=k->k<4->0<=gi n k/\gi n k<=1000000:=λk h0 h1=>hv _ (dq h0 (by omega))
theorem uQ(L:List PL)(e:Int)(n:Nat)(i:Int)(acc:List cJ):gg L e (n+1) i acc=if(db L i uu e).2.2≠0 then([],(db L i uu e).2.1,(db L i uu e).2.2)else gg L e n (i+1) (acc++[R8 (db L i uu e).1]):=rfl
theorem EA(L:List PL)(e:Int):∀(n:Nat)(i:Int)(acc:List cJ),i<=L.length->(gg L e n i acc).2.2=0->(gg L e n i acc).2.1=e/\(gg L e n i acc).1.length=acc.length+n/\i+n<=L.length
 |0,i,acc,hi,h=>⟨rfl,rfl,by omega⟩
 |n+1,i,acc,hi,h=>by
  rw[uQ]at h ⊢; by_cases he:(db L i uu e).2.2≠0
  .rw[if_pos he]at h;exact absurd h he
  .rw[if_neg he]at h ⊢; have he:(db L i uu e).2.2=0:=by simpa using he
   have hi2:=(pv he).2.2.2;obtain⟨h1,h2,h3⟩:=EA L e n (i+1) _ (by omega) h;exact⟨h1,by rw[h2];simp;omega,by omega⟩
def fS(L:List PL)(e:Int):List Int×Int×Int:=db L 0 gX e
def gL(L:List PL)(e:Int):List cJ×Int×Int:=gg L e (gi (fS L e).1 3).toNat 1 []
theorem tf(L:List PL)(e:Int):bA L e =
  if(fS L e).2.2≠0 then(uZ,0,(fS L e).2.1,(fS L e).2.2)
  else if(gL L e).2.2≠0 then(uZ,0,(gL L e).2.1,(gL L e).2.2)
  else if(aJ (wK (fS L e).1 (gL L e).1)).2≠0 then
   (uZ,0,(gi (gi L ((aJ (wK (fS L e).1 (gL L e).1)).1+1)) 0).1,(aJ (wK (fS L e).1 (gL L e).1)).2)
  else(wK (fS L e).1 (gL L e).1,gi (fS L e).1 3+1,e,0):=rfl
theorem taA{L:List PL}{e:Int}(h:(fS L e).2.2≠0):bA L e=(uZ,0,(fS L e).2.1,(fS L e).2.2):=by
 grind[tf]
theorem taB{L:List PL}{e:Int}(h:(fS L e).2.2=0)(h2:(gL L e).2.2≠0):bA L e=(uZ,0,(gL L e).2.1,(gL L e).2.2):=by
 grind[tf]
theorem taC{L:List PL}{e:Int}(h:(fS L e).2.2=0)(h2:(gL L e).2.2=0)(h3:(aJ (wK (fS L e).1 (gL L e).1)).2≠0):
  bA L e=(uZ,0,(gi (gi L ((aJ (wK (fS L e).1 (gL L e).1)).1+1)) 0).1,(aJ (wK (fS L e).1 (gL L e).1)).2):=by
 rw[tf,if_neg (by simpa using h),if_neg (by simpa using h2),if_pos h3]
theorem taD{L:List PL}{e:Int}(h:(fS L e).2.2=0)(h2:(gL L e).2.2=0)(h3:(aJ (wK (fS L e).1 (gL L e).1)).2=0):
  bA L e=(wK (fS L e).1 (gL L e).1,gi (fS L e).1 3+1,e,0):=by
 rw[tf,if_neg (by simpa using h),if_neg (by simpa using h2),if_neg (by simpa using h3)]
theorem GQ{x:Int}(h0:0<=x)(h1:x<=1000000):zl .i64 x:=⟨by show(-9223372036854775808:Int)<=x;omega,by show x<=(9223372036854775807:Int);omega⟩
theorem v35(l:List (List ai))(e:Int)(hp:HY l e):VC35 l e (λr=>r=fM l e):=by
 unfold VC35 iF bD wI dE l7P n7P;intro hs;obtain⟨hl,hg⟩:=hp;refine⟨rfl,?_⟩;rintro _ rfl;intro _ _;rintro _ rfl;intro _ _;have hB:mz 4=(VP,V3):=rfl;rw[hB];have hh:eU (jw l).1 ([111,98,106,101,99,116]:Bs) (VP,V3).1 (VP,V3).2 e=fS (bF l) e:=AH (i:=0) (eu _) (by simp) gX e;refine⟨⟨Fi hg,by decide,by decide,in4.1,in4.2⟩,?_⟩;rintro _ rfl;intro _;rw[hh];have tk:∀(er:Int)(at_ c:Int),bA (bF l) e=(uZ,c,at_,er)->er≠0->((⟨0,0,0,[]⟩:ae),([]:List (List ai)),at_,er)=fM l e:=by intro er at_ c h1 h2;unfold fM;rw[h1,if_pos h2];rfl
 refine⟨λh=>tk _ _ _ (taA (by simpa using h)) (by simpa using h),λh=>?_⟩;have hN:(fS (bF l) e).2.2=0:=by simpa using h
 obtain⟨n1,n2,n3,n4⟩:=pv hN;have n1:(fS (bF l) e).2.1=e:=n1;have n2:(fS (bF l) e).1.length=4:=n2;have nb:=Tf n2 n3;have nb3:=nb 3 (by omega) (by omega);refine⟨by rw[n2];omega,by rw[n2];omega,by rw[n2];omega,by rw[n2];omega,?_⟩;have I9:bF l=dK (fb l).1::bF (fb l).2/\(fb l).1≠[]:=by
  rcases lT l with⟨h1,_⟩|⟨h1,h2,_⟩
  .rw[h1]at n4;simp at n4
  .exact⟨h1,h2⟩
 have hnl:0<(fb l).1.length:=by
  cases hx:(fb l).1 with
  |nil=>exact absurd hx I9.2
  |cons _ _=>simp
 have acr:(gi (fb l).1 0).At=(gi (gi (bF l) 0) 0).1:=by rw[I9.1];show _=(gi (dK (fb l).1) 0).1;rw[rW (by omega) (by omega)]
 generalize Jf:fS (bF l) e=N at *
 refine⟨λrest Cm x a b c rows=>0<=x/\x<=gi N.1 3/\rest=jG (x+1).toNat l/\[(gi (fb l).1 0).At]++Cm=((bF l).take (x+1).toNat).map (λr=>(gi r 0).1)/\(Cm.length:Int)=x/\x+1<=(bF l).length/\(rows.length:Int)=x/\a=gi N.1 0/\b=gi N.1 1/\c=gi N.1 2/\gg (bF l) e (gi N.1 3-x).toNat (x+1) rows=gL (bF l) e,
  λ_ _ x _ _ _ _=>(gi N.1 3-x).toNat,⟨by omega,nb3.1,rfl,?_,rfl,by omega,rfl,rfl,rfl,rfl,?_⟩,?_⟩
 .rw[acr,show((0:Int)+1).toNat=1 from rfl];have:=fV (l:=bF l) (i:=0) (by omega) n4;rw[show((0:Int)+1).toNat=1 from rfl]at this;rw[this];simp
 .unfold gL;rw[Jf];simp
 rintro rest Cm x a b c rows ⟨h0,h1,h2,h3,h4,h5,h6,rfl,rfl,rfl,h7⟩;have IZ:bF rest=(bF l).drop (x+1).toNat:=by rw[h2,Ah]
 have XL:∀r∈rest,w9 (dK r):=λr hr=>hg r ((Dh _ l).1 r (by rw[←h2];exact hr));refine⟨λhx=>?_,λhx=>?_⟩
 .have hx:=aF hx;rintro _ rfl;intro _ _;have hr:eU (jw rest).1 ([114,111,119]:Bs) (VP,V3).1 (VP,V3).2 e=db (bF l) (x+1) uu e:=AH (by omega) IZ uu e;refine⟨⟨Fi XL,by decide,by decide,in4.1,in4.2⟩,?_⟩;rintro _ rfl;intro _;rw[hr];rw[show(gi N.1 3-x).toNat=(gi N.1 3-(x+1)).toNat+1 by omega,uQ]at h7;refine⟨λhe=>?_,λhe=>?_⟩
  .have he:(db (bF l) (x+1) uu e).2.2≠0:=by simpa using he
   rw[if_pos he]at h7;refine tk _ _ _ (?_:bA (bF l) e=(uZ,0,_,_)) he;rw[taB (by rw[Jf];exact hN) (by rw[←h7];exact he),←h7]
  .have he:(db (bF l) (x+1) uu e).2.2=0:=by simpa using he
   rw[if_neg (by simpa using he)]at h7;obtain⟨m1,m2,m3,m4⟩:=pv he;have gk:bF rest=dK (fb rest).1::bF (fb rest).2/\(fb rest).1≠[]:=by
    rcases lT rest with⟨h1,_⟩|⟨h1,h2,_⟩
    .rw[h1]at IZ;have:=b8 List.length IZ;simp at this;omega
    .exact⟨h1,h2⟩
   have arA:0<(fb rest).1.length:=by
    cases hx:(fb rest).1 with
    |nil=>exact absurd hx gk.2
    |cons _ _=>simp
   rw[m2,dj (n:=x+1) (by omega) (by omega)];refine⟨⟨by omega,by show(0:Int)<(fb rest).1.length;omega⟩,by simp;omega,by omega,by omega,by omega,by omega,by simp;omega,⟨by omega,by omega,?_,?_,by simp;omega,by omega,by simp;omega,rfl,rfl,rfl,h7⟩,by first|omega|(dsimp only;omega)⟩
   .show(fb rest).2=_;rw[show(x+1+1).toNat=(x+1).toNat+1 by omega,Fo,←h2]
   .rw[←bV,h3,fV (i:=x+1) (by omega) m4,gp];congr 1;rw[gk.1,eF (i:=x+1) (by omega) m4]at IZ;rw[←(List.cons.inj IZ).1];show [(gi (fb rest).1 0).At]=[(gi (dK (fb rest).1) 0).1]
    rw[rW (by omega) (by omega)]
 .have hx:=aL hx;have Ub:x=gi N.1 3:=by omega
  rw[show(gi N.1 3-x).toNat=0 by omega]at h7;have h7:(rows,e,0)=gL (bF l) e:=h7;have GX:wK N.1 (gL (bF l) e).1=⟨gi N.1 0,gi N.1 1,gi N.1 2,rows⟩:=by rw[←h7];rfl
  have hR:(gL (bF l) e).2.2=0:=by rw[←h7]
  unfold VC35_J1 iF bD lN wI;have nb0:=nb 0 (by omega) (by omega);have nb1:=nb 1 (by omega) (by omega);refine⟨⟨GQ nb0.1 nb0.2,GQ nb1.1 nb1.2⟩,?_⟩;rintro _ rfl;refine⟨λhc=>?_,λhc=>?_⟩
  .have hc:(aJ ⟨gi N.1 0,gi N.1 1,gi N.1 2,rows⟩).2≠0:=by simpa using hc
   have hcr:=AS _ hc;have amj:(aJ ⟨gi N.1 0,gi N.1 1,gi N.1 2,rows⟩).1<rows.length:=hcr.2;rw[dj (n:=(aJ ⟨gi N.1 0,gi N.1 1,gi N.1 2,rows⟩).1+1) (by omega) (by omega)];refine⟨⟨by omega,by show(0:Int)<(fb l).1.length;omega⟩,by simp;omega,a5 ⟨by omega,by simp;omega⟩ ?_⟩;have hgl:gi ([(gi (fb l).1 0).At]++Cm) ((aJ ⟨gi N.1 0,gi N.1 1,gi N.1 2,rows⟩).1+1)=(gi (gi (bF l) ((aJ ⟨gi N.1 0,gi N.1 1,gi N.1 2,rows⟩).1+1)) 0).1:=by rw[h3,Aa _ (by omega) (by rw[bH];omega),ND (by omega) (by omega) (by omega)]
   show(_,_,gi ([(gi (fb l).1 0).At]++Cm) _,_)=_;rw[hgl];refine tk _ _ _ (?_:bA (bF l) e=(uZ,0,_,_)) hc;rw[taC (by rw[Jf];exact hN) hR (by rw[Jf,GX];exact hc),Jf,GX]
  .have hc:(aJ ⟨gi N.1 0,gi N.1 1,gi N.1 2,rows⟩).2=0:=by simpa using hc
   unfold fM;rw[taD (by rw[Jf];exact hN) hR (by rw[Jf,GX];exact hc),Jf,GX,if_neg (by simp)];rw[h2,Ub]
theorem v25(l:List (List ai))(e:Int)(hp:MK l e):VC25 l e (λr=>r=pU l e):=by
 unfold VC25 iF bD wI dE l5P n5P;intro hs;obtain⟨hl,hg⟩:=hp;unfold pU;have hLl:(l.map eL).length=l.length:=by simp
 have hlg:∀i:Int,0<=i->i<l.length->0<(gi l i).length/\(gi (gi l i) 0).At=(gi (gi (l.map eL) i) 0).1:=by
  intro i i0 i1;have hne:=(hg _ (dq i0 i1)).2;have uA:0<(gi l i).length:=by
   cases hx:gi l i with
   |nil=>exact absurd hx hne
   |cons _ _=>simp
  refine⟨uA,?_⟩;rw[Aa _ i0 i1,zH (by omega) (by omega)]
 have ZR:∀i w,ki l i w e=db (l.map eL) i w e:=λ_ _=>rfl;generalize l.map eL=L at *; refine⟨⟨eu _,λr hr=>(hg r hr).1⟩,?_⟩;rintro _ rfl;intro _;have hh:ki l 0 ([111,98,106,101,99,116]:Bs) e=fS L e:=ZR 0 gX;rw[hh];refine⟨λh=>by rw[taA (by simpa using h)];rfl,λh=>?_⟩;have hN:(fS L e).2.2=0:=by simpa using h
 obtain⟨n1,n2,n3,n4⟩:=pv hN;have n2:(fS L e).1.length=4:=n2;have nb:=Tf n2 n3;have nb3:=nb 3 (by omega) (by omega);refine⟨by rw[n2];omega,by rw[n2];omega,by rw[n2];omega,?_⟩;generalize Jf:fS L e=N at *
 refine⟨λx a b c rows=>1<=x/\x<=gi N.1 3+1/\x<=L.length/\(rows.length:Int)+1=x/\a=gi N.1 0/\b=gi N.1 1/\c=gi N.1 2/\gg L e (gi N.1 3+1-x).toNat x rows=gL L e,
  λx _ _ _ _=>(gi N.1 3+1-x).toNat,⟨by omega,by omega,by omega,rfl,rfl,rfl,rfl,?_⟩,?_⟩
 .unfold gL;rw[Jf,show gi N.1 3+1-1=gi N.1 3 by omega]
 rintro x a b c rows ⟨h0,h1,h2,h3,rfl,rfl,rfl,h7⟩;refine⟨by rw[n2];omega,λhx=>?_,λhx=>?_⟩
 .have hx:=aF hx;refine⟨⟨by omega,λr hr=>(hg r hr).1⟩,?_⟩;rintro _ rfl;intro _;have hr:ki l x ([114,111,119]:Bs) e=db L x uu e:=ZR x uu;rw[hr];rw[show(gi N.1 3+1-x).toNat=(gi N.1 3+1-(x+1)).toNat+1 by omega,uQ]at h7;refine⟨λhe=>?_,λhe=>?_⟩
  .have he:(db L x uu e).2.2≠0:=by simpa using he
   rw[if_pos he]at h7;rw[taB (by rw[Jf];exact hN) (by rw[←h7];exact he),←h7];rfl
  .have he:(db L x uu e).2.2=0:=by simpa using he
   rw[if_neg (by simpa using he)]at h7;obtain⟨m1,m2,m3,m4⟩:=pv he;rw[m2,dj (n:=x+1) (by omega) (by omega)];exact⟨by omega,by omega,by omega,by omega,by simp;omega,⟨by omega,by omega,by omega,by simp;omega,rfl,rfl,rfl,h7⟩,by first|omega|(dsimp only;omega)⟩
 .have hx:=aL hx;rw[show(gi N.1 3+1-x).toNat=0 by omega]at h7;have h7:(rows,e,0)=gL L e:=h7;have GX:wK N.1 (gL L e).1=⟨gi N.1 0,gi N.1 1,gi N.1 2,rows⟩:=by rw[←h7];rfl
  have hR:(gL L e).2.2=0:=by rw[←h7]
  unfold VC25_J1 iF bD wI;rintro _ rfl;rw[show ∀o,cr o=aJ o from λ_=>rfl];refine⟨λhc=>?_,λhc=>?_⟩
  .have hc:(aJ ⟨gi N.1 0,gi N.1 1,gi N.1 2,rows⟩).2≠0:=by simpa using hc
   have hcr:=AS _ hc;have amj:(aJ ⟨gi N.1 0,gi N.1 1,gi N.1 2,rows⟩).1<rows.length:=hcr.2;rw[dj (n:=(aJ ⟨gi N.1 0,gi N.1 1,gi N.1 2,rows⟩).1+1) (by omega) (by omega)];obtain⟨g1,g2⟩:=hlg ((aJ ⟨gi N.1 0,gi N.1 1,gi N.1 2,rows⟩).1+1) (by omega) (by omega);refine⟨⟨by omega,by omega⟩,λ_=>⟨⟨by omega,by omega⟩,?_⟩⟩;rw[g2,taC (by rw[Jf];exact hN) hR (by rw[Jf,GX];exact hc),Jf,GX];rfl
  .have hc:(aJ ⟨gi N.1 0,gi N.1 1,gi N.1 2,rows⟩).2=0:=by simpa using hc
   rw[taD (by rw[Jf];exact hN) hR (by rw[Jf,GX];exact hc),Jf,GX,dj (n:=gi N.1 3+1) (by omega) (by omega)];exact⟨by rw[n2];omega,rfl⟩
theorem AK(s:Bs)(hl:sq s)(e:Int):HY (cK s) e:=by
 obtain⟨⟨p1,p2⟩,_⟩:=Pj s hl;unfold sq at hl;obtain⟨g1,_,_⟩:=CT (s:=s) s.length 0 1 (eu _) (by omega) (λ_=>by simp[NY]);refine⟨p1,λr hr=>⟨by rw[Cr];exact p2 r hr,λp hp=>?_⟩⟩;obtain⟨i,hi,rfl⟩:=nO hr;simp only[dK,aq]at hp;obtain⟨t,ht,rfl⟩:=hp;have G:=g1 i _ (fD hi) t ht;have h1:=G.lo;have h2:=G.hi;unfold xg at h2;grind
theorem te{L:List PL}{e:Int}(h:(bA L e).2.2.2=0):(bA L e).2.2.1=e/\0<=(bA L e).2.1/\(bA L e).2.1<=L.length/\(aJ (bA L e).1).2=0/\((bA L e).1.Rows.length:Int)+1=(bA L e).2.1/\(0<=(bA L e).1.az/\(bA L e).1.az<=1000000)/\(0<=(bA L e).1.cV/\(bA L e).1.cV<=1000000):=by
 by_cases hN:(fS L e).2.2=0
 .by_cases hR:(gL L e).2.2=0
  .by_cases hC:(aJ (wK (fS L e).1 (gL L e).1)).2=0
   .rw[taD hN hR hC];obtain⟨n1,n2,n3,n4⟩:=pv hN;have n2:(fS L e).1.length=4:=n2;have nb:=Tf n2 n3;have nb3:=nb 3 (by omega) (by omega);have hr:=EA L e (gi (fS L e).1 3).toNat 1 [] (by omega) hR;obtain⟨r1,r2,r3⟩:=hr;have r2:(gL L e).1.length=(gi (fS L e).1 3).toNat:=r2.trans (by simp);refine⟨rfl,by simp only;omega,by simp only;omega,hC,?_,nb 0 (by omega) (by omega),nb 1 (by omega) (by omega)⟩;show(((gL L e).1.length:Nat):Int)+1=_;simp only;omega
   .rw[taC hN hR hC]at h;exact absurd h hC
  .rw[taB hN hR]at h;exact absurd h hR
 grind[taA]
theorem EH(l:List ai):eL (l.map oR)=dK l:=by simp[eL,dK,oR]
theorem Ey:∀l:List (List ai),(ju (l.map λr=>r.map oR)).map eL=bF l
 |[]=>rfl
 |r::l=>by
  have ih:=Ey l;rw[vh,←ih];unfold ju;cases r with
  |nil=>rfl
  |cons t q=>grind[List.map,EH]
theorem RO{l:List (List ai)}{e:Int}(hp:HY l e):MK (ju (l.map λr=>r.map oR)) e:=by
 obtain⟨h1,h2⟩:=hp;refine⟨bP (List.length_filter_le _ _) (by simpa using h1),λr hr=>?_⟩;unfold ju at hr;grind[EH]
theorem v140(x:ao):VC140 x (λr=>r=l8 x):=by
 unfold VC140 l8 Hb iF dE;grind
theorem kq(l:List ao)(x:ao)(p:Int):iR (l++[x]) p=if x.cE=p then x.cD else iR l p:=by simp[iR]
theorem jd(m:List (Int×Int))(k q v:Int):bB (iU m k v) q=if k=q then some v else bB m q:=by
 induction m with
 |nil=>simp only[iU,bB]
 |cons e m ih =>
  obtain⟨j,x⟩:=e;simp only[iU];by_cases h:j=k
  .subst h;rw[if_pos rfl];simp only[bB];by_cases h2:j=q
   .rw[if_pos h2,if_pos h2]
   .rw[if_neg h2,if_neg h2,if_neg h2]
  .rw[if_neg h];simp only[bB];by_cases h2:j=q
   .rw[if_pos h2,if_pos h2,if_neg (by omega)]
   .rw[if_neg h2,if_neg h2,ih]
def Iv(m:List (Int×Int))(l:List ao):Prop:=∀q,(bB m q).getD 0=iR l q
theorem E3{m:List (Int×Int)}{l:List ao}(h:Iv m l)(x:ao):Iv (iU m x.cE x.cD) (l++[x]):=by
 intro q;rw[jd,kq];by_cases hq:x.cE=q
 .rw[if_pos hq,if_pos hq];rfl
 .rw[if_neg hq,if_neg hq];exact h q
theorem Ac(l:List ao)(f:Nat)(i:Int):Ad l (f+1) i=if Hb (gi l i)≠0 then(i,Hb (gi l i))else if(iR (l.take i.toNat) (gi l i).cE==1)==((gi l i).cD==1)then(i,33)else Ad l f (i+1):=rfl
theorem v88(l:List ao):VC88 l (λr=>r=eO l):=by
 unfold VC88 iF bD lN wI dE fj eM;intro _;unfold VC88_J1 eO lN;refine⟨λh=>by have h:=aF h;rw[if_pos (by omega)],λh=>?_⟩;have h:=aL h;rw[if_neg (by omega)];refine⟨λm i=>0<=i/\i<=l.length/\Iv m (l.take i.toNat)/\Ad l (l.length-i.toNat) i=Ad l l.length 0,λ_ i=>(l.length-i).toNat,⟨by omega,by omega,λq=>by simp[bB,iR],rfl⟩,?_⟩;rintro m i ⟨h0,h1,h2,h3⟩;refine⟨λhi=>?_,λhi=>?_⟩
 .have hi:=aF hi;rw[show l.length-i.toNat=(l.length-(i+1).toNat)+1 by omega,Ac,←h2]at h3;refine⟨⟨h0,hi⟩,?_⟩;rintro _ rfl;refine⟨λhe=>?_,λhe=>?_⟩
  .have he:Hb (gi l i)≠0:=by simpa[l8]using he
   rw[if_pos he]at h3;exact h3
  .have he:Hb (gi l i)=0:=by simpa[l8]using he
   rw[if_neg (by simpa using he)]at h3;refine⟨λho=>?_,λho=>?_⟩
   .rw[if_pos ho]at h3;exact h3
   .rw[if_neg (by rw[ho];simp)]at h3;rw[dj (n:=i+1) (by omega) (by omega)];refine⟨⟨by omega,by omega,?_,h3⟩,by first|omega|(dsimp only;omega)⟩;rw[fV h0 hi];exact E3 h2 _
 .have hi:=aL hi;rw[show l.length-i.toNat=0 by omega]at h3;rw[←h3,show i=l.length by omega];rfl
theorem v121(l:List ao)(p:Int):VC121 l p (λr=>r=fG l p):=by
 unfold VC121 iF bD lN dE fj;intro A7;simp only[sm]at A7;unfold VC121_J1 VC121_J2 fG wI eM;refine⟨λa i=>0<=i/\i<=l.length/\a=jy l p i.toNat,λ_ i=>(l.length-i).toNat,⟨by omega,by omega,rfl⟩,?_⟩;rintro a i ⟨h0,h1,h2⟩;refine⟨λhi=>?_,λhi=>?_⟩
 .have hi:=aF hi;have hs:jy l p (i+1).toNat=if(gi l i).cE=p then i else jy l p i.toNat:=by rw[show(i+1).toNat=i.toNat+1 by omega];show(if(gi l ((i.toNat:Nat):Int)).cE=p then((i.toNat:Nat):Int)else _)=_;grind
  rw[dj (n:=i+1) (by omega) (by omega)];refine⟨⟨h0,hi⟩,λhw=>⟨⟨by omega,by omega,?_⟩,by first|omega|(dsimp only;omega)⟩,λhw=>⟨⟨by omega,by omega,?_⟩,by first|omega|(dsimp only;omega)⟩⟩
  .have hw:(gi l i).cE=p:=by simpa using hw
   rw[hs,if_pos hw]
  .have hw:(gi l i).cE≠p:=by simpa using hw
   rw[hs,if_neg hw,h2]
 grind
theorem vi(l:List ao)(p:Int):∀n:Nat,n<=l.length->(jy l p n=-1/\iR (l.take n) p=0)∨(0<=jy l p n/\jy l p n<n/\(gi l (jy l p n)).cE=p/\iR (l.take n) p=(gi l (jy l p n)).cD)
 |0,_=>.inl ⟨rfl,rfl⟩
 |n+1,h=>by
  have ht:l.take (n+1)=l.take n++[gi l (n:Int)]:=by have:=fV (l:=l) (i:=(n:Int)) (by omega) (by omega);grind
  rw[ht,kq];show((if(gi l (n:Int)).cE=p then(n:Int)else jy l p n)=-1/\_)∨(0<=(if(gi l (n:Int)).cE=p then(n:Int)else jy l p n)/\(if(gi l (n:Int)).cE=p then(n:Int)else jy l p n)<_/\(gi l (if(gi l (n:Int)).cE=p then(n:Int)else jy l p n)).cE=p/\_=(gi l (if(gi l (n:Int)).cE=p then(n:Int)else jy l p n)).cD);by_cases hp:(gi l (n:Int)).cE=p
  .rw[if_pos hp,if_pos hp];exact .inr ⟨by omega,by omega,hp,rfl⟩
  .rw[if_neg hp,if_neg hp];rcases vi l p n (by omega)with⟨h1,h2⟩|⟨h1,h2,h3,h4⟩
   .exact .inl ⟨h1,h2⟩
   .exact .inr ⟨h1,by omega,h3,h4⟩
theorem v63(l:List ao)(p:Int):VC63 l p (λr=>r=lO l p):=by
 unfold VC63 iF bD dE;intro _;rintro _ rfl;have:=vi l p l.length (aK _);unfold lO fG;grind
theorem v27(l:List ao):VC27 l (λr=>r=ov l):=by
 unfold VC27 iF bD lN dE oM;intro _;unfold VC27_J1 VC27_J2 ov eO lN iF wI oK;refine⟨λh=>by have h:=aF h;rw[if_pos (by omega)],λh=>?_⟩;have h:=aL h;rw[if_neg (by omega)];refine⟨λi=>0<=i/\i<=l.length/\Ad l (l.length-i.toNat) i=Ad l l.length 0,λi=>(l.length-i).toNat,⟨by omega,by omega,rfl⟩,?_⟩;rintro i ⟨h0,h1,h3⟩;refine⟨λhi=>?_,λhi=>?_⟩
 .have hi:=aF hi;rw[show l.length-i.toNat=(l.length-(i+1).toNat)+1 by omega,Ac]at h3;rw[dj (n:=i+1) (by omega) (by omega)];have bad:∀e:Int,Hb (gi l i)=e->e≠0->(i,e)=Ad l l.length 0:=by grind
  have fin:Hb (gi l i)=0->∀x:Bool,x=((iR (l.take i.toNat) (gi l i).cE==1)==((gi l i).cD==1))->(x=true->(i,(33:Int))=Ad l l.length 0)/\(x=false->(0<=i+1/\i+1<=l.length/\Ad l (l.length-(i+1).toNat) (i+1)=Ad l l.length 0)/\(l.length-(i+1)).toNat<(l.length-i).toNat):=by grind
  generalize gi l i=y at *; unfold Hb at bad fin;refine⟨⟨h0,hi⟩,λg1=>?_,λg1=>⟨λg2=>?_,λg2=>⟨λg3=>?_,λg3=>⟨λg4=>?_,λg4=>?_⟩⟩⟩⟩
  .have g1:y.cD≠1/\y.cD≠2:=by simpa using g1
   exact bad 8 (by rw[if_pos g1]) (by decide)
  .have g1:¬(y.cD≠1/\y.cD≠2):=by simp at g1 ⊢; exact g1
   have g2:y.cE<1∨y.cE>1000:=by simpa using g2
   exact bad 2 (by rw[if_neg g1,if_pos g2]) (by decide)
  .have g1:¬(y.cD≠1/\y.cD≠2):=by simp at g1 ⊢; exact g1
   have g2:¬(y.cE<1∨y.cE>1000):=by simp at g2 ⊢; exact g2
   have g3:y.cD=1/\(y.N<0∨y.N>63):=by simpa using g3
   exact bad 31 (by rw[if_neg g1,if_neg g2,if_pos ⟨g3.1,by omega⟩]) (by decide)
  .have g1:¬(y.cD≠1/\y.cD≠2):=by simp at g1 ⊢; exact g1
   have g2:¬(y.cE<1∨y.cE>1000):=by simp at g2 ⊢; exact g2
   have g3:¬(y.cD=1/\(y.N<0∨y.N≥64)):=by simp at g3 ⊢; intro a;have:=g3 a;omega
   have g4:y.cD=2/\(y.N<0∨y.N>1000000):=by simpa using g4
   exact bad 7 (by rw[if_neg g1,if_neg g2,if_neg g3,if_pos g4]) (by decide)
  .have g1:¬(y.cD≠1/\y.cD≠2):=by simp at g1 ⊢; exact g1
   have g2:¬(y.cE<1∨y.cE>1000):=by simp at g2 ⊢; exact g2
   have g3:¬(y.cD=1/\(y.N<0∨y.N≥64)):=by simp at g3 ⊢; intro a;have:=g3 a;omega
   have g4:¬(y.cD=2/\(y.N<0∨y.N>1000000)):=by simp at g4 ⊢; exact g4
   have hz:=fin (by rw[if_neg g1,if_neg g2,if_neg g3,if_neg g4]);unfold lO;have Ke:(0:Int)<=i/\i<=l.length:=⟨h0,h1⟩
   by_cases hw:y.cD=1
   .have e1:(y.cD==1)=true:=by simpa using hw
    have e2:(y.cD==2)=false:=by simp;omega
    rw[e1]at hz ⊢; rw[e2];refine⟨λ_=>⟨Ke,?_⟩,λh=>absurd h (by simp)⟩;rintro _ rfl;refine⟨λho=>hz true (by rw[ho];rfl),λho=>⟨λh=>absurd h (by simp),λ_=>hz false (by rw[ho];rfl)⟩⟩
   .have VY:y.cD=2:=by omega
    have e1:(y.cD==1)=false:=by simpa using hw
    have e2:(y.cD==2)=true:=by simpa using VY
    rw[e1]at hz ⊢; rw[e2];refine⟨λh=>absurd h (by simp),λ_=>⟨λ_=>⟨Ke,?_⟩,λh=>absurd h (by simp)⟩⟩;rintro _ rfl;exact hz _ (by cases(iR (l.take i.toNat) y.cE==1)<;>rfl)
 .have hi:=aL hi;rw[show l.length-i.toNat=0 by omega]at h3;rw[←h3,show i=l.length by omega];rfl
theorem T4(p:Int):∀(out:List Int)(k:Nat),(∀q∈out.take k,q<p)->(∀q,out[k]?=some q->¬q<p)->out.takeWhile (λq=>decide (q<p))=out.take k/\out.dropWhile (λq=>decide (q<p))=out.drop k
 |[],k,_,_=>by simp
 |x::out,0,_,h2=>by simp_all
 |x::out,k+1,h1,h2=>by obtain⟨e1,e2⟩:=T4 p out k (λq hq=>h1 q (by simp[hq])) (λq hq=>h2 q (by simpa using hq));simp_all
theorem T6(out:List Int)(p:Int):(IU out p).length=out.length+1:=by
 unfold IU;grind[List.length_append,List.length_cons,List.length,List.takeWhile_append_dropWhile]
theorem T5(out:List Int)(p q:Int):q∈IU out p↔q=p∨q∈out:=by
 unfold IU;grind[List.takeWhile_append_dropWhile]
theorem Cy(l:List ao):∀n:Nat,(lR l n).length<=n
 |0=>aK _
 |n+1=>by
  have:=Cy l n;simp only[lR];split
  .rw[T6];omega
  .omega
theorem v62(l:List ao)(hp:ML l):VC62 l (λr=>r=lP l):=by
 unfold VC62 iF bD lN dE fj;intro A7;unfold ML at hp;unfold VC62_J1 VC62_J3 VC62_J5 VC62_J4 VC62_J2 lP iF bD lN dE fj wI eM;refine⟨λout i=>0<=i/\i<=l.length/\out=lR l i.toNat,λ_ i=>(l.length-i).toNat,⟨by omega,by omega,rfl⟩,?_⟩;rintro out i ⟨h0,h1,h2⟩;refine⟨λhi=>?_,λhi=>?_⟩
 .have hi:=aF hi;have hs:lR l (i+1).toNat=if(gi l i).cD=1/\fG l (gi l i).cE=i then IU (lR l i.toNat) (gi l i).cE else lR l i.toNat:=by rw[show(i+1).toNat=i.toNat+1 by omega];show(if(gi l ((i.toNat:Nat):Int)).cD=1/\fG l (gi l ((i.toNat:Nat):Int)).cE=((i.toNat:Nat):Int)then _ else _)=_;grind
  rw[←h2]at hs;have hlen:=Cy l i.toNat
  rw[←h2]at hlen;have go:∀o,o=lR l (i+1).toNat->(0<=i+1/\i+1<=l.length/\o=lR l (i+1).toNat)/\(l.length-(i+1)).toNat<(l.length-i).toNat:=λo ho=>⟨⟨by omega,by omega,ho⟩,by omega⟩
  rw[dj (n:=i+1) (by omega) (by omega)];have skip:¬((gi l i).cD=1/\fG l (gi l i).cE=i)->(0<=i+1/\i+1<=l.length/\out=lR l (i+1).toNat)/\(l.length-(i+1)).toNat<(l.length-i).toNat:=λh=>go out (by rw[hs,if_neg h]);refine⟨⟨h0,hi⟩,⟨h0,hi⟩,λhw=>⟨λ_=>skip (λh=>?_),λh=>absurd h (by simp)⟩,λhw=>?_⟩
  .have hw:(gi l i).cD≠1:=by simpa using hw
   exact hw h.1
  .have hw:(gi l i).cD=1:=by simpa using hw
   rintro _ rfl;refine⟨λhl=>skip (λh=>?_),λhl=>?_⟩
   .have hl:fG l (gi l i).cE≠i:=by simpa using hl
    exact hl h.2
   .have hl:fG l (gi l i).cE=i:=by simpa using hl
    rw[if_pos ⟨hw,hl⟩]at hs;refine⟨λo k=>o=out/\0<=k/\k<=out.length/\∀q∈out.take k.toNat,q<(gi l i).cE,λ_ k=>(out.length-k).toNat,⟨rfl,by omega,by omega,by simp⟩,?_⟩;rintro o k ⟨ho,k0,k1,k2⟩;rw[ho];have ar0:(∀q,out[k.toNat]?=some q->¬q<(gi l i).cE)->_:=λhq=>T4 (gi l i).cE out k.toNat k2 hq;have last:(∀q,out[k.toNat]?=some q->¬q<(gi l i).cE)->IU out (gi l i).cE=((([]:List Int)++(out.take k.toNat))++[(gi l i).cE])++(out.drop k.toNat):=λhq=>by unfold IU;grind
    refine⟨λhk=>?_,λhk=>?_⟩
    .have hk:=aF hk;rw[dj (n:=k+1) (by omega) (by omega)];refine⟨⟨k0,hk⟩,λhq=>⟨⟨rfl,by omega,by omega,?_⟩,by first|omega|(dsimp only;omega)⟩,λhq=>?_⟩
     .intro q hm;rw[fV k0 hk,aV,aY]at hm;rcases hm with hm|hm
      .exact k2 q hm
      .rw[hm];exact aF hq
     .refine⟨⟨k0,k1⟩,⟨k0,k1⟩,a3 ⟨by simp;omega,by simp;omega,by simp;omega,go _ ?_⟩⟩;rw[hs,last];intro q hq2;have hq:=aL hq;rw[kR k0 hk]at hq;rw[fD (by omega)]at hq2;rw[←Option.some.inj hq2];exact hq
    .have hk:=aL hk;refine⟨λh=>absurd h (by simp),λ_=>⟨⟨k0,k1⟩,⟨k0,k1⟩,a3 ⟨by simp;omega,by simp;omega,by simp;omega,go _ ?_⟩⟩⟩;rw[hs,last];intro q hq2;rw[mO (by omega)]at hq2;cases hq2
 grind
theorem Cw(l:List ao)(q:Int):∀n:Nat,q∈lR l n↔∃i:Nat,i<n/\(gi l (i:Int)).cD=1/\(gi l (i:Int)).cE=q/\fG l q=(i:Int)
 |0=>by simp only[lR];grind
 |n+1=>by have ih:=Cw l q n;simp only[lR];grind[T5]
theorem S2(l:List ao)(q:Int):q∈lP l↔iR l q=1:=by
 unfold lP;rw[Cw];have hs:=vi l q l.length (aK _);rw[gT]at hs;show(∃i:Nat,i<l.length/\(gi l (i:Int)).cD=1/\(gi l (i:Int)).cE=q/\jy l q l.length=(i:Int))↔_;rcases hs with⟨h1,h2⟩|⟨h1,h2,h3,h4⟩
 .rw[h1,h2];exact⟨λ⟨i,_,_,_,h⟩=>absurd h (by omega),λh=>absurd h (by decide)⟩
 .rw[h4];constructor
  .rintro⟨i,_,k2,_,k4⟩;rw[k4];exact k2
  .intro h;refine⟨(jy l q l.length).toNat,by omega,?_⟩;rw[show(((jy l q l.length).toNat:Nat):Int)=jy l q l.length by omega];exact⟨h,h3,rfl⟩
theorem Uz(l:List ao)(q:Int):pq (lP l) q=lv l q:=by
 unfold pq lv;rw[jQ,aR,S2];simp
theorem v61(l:List Int)(n:Int):VC61 l n (λr=>r=pq l n):=by
 unfold VC61 iF bD lN wI dE oM oK;intro A7;simp only[sm]at A7;unfold VC61_J1 pq;refine⟨λi=>0<=i/\i<=l.length/\n∉l.take i.toNat,λi=>(l.length-i).toNat,⟨by omega,by omega,by simp⟩,?_⟩;grind[dj,only,dq,fV,List.mem_singleton,List.take_length]
theorem Tg{P:PL}{w:Bs}{a b c d e:Int}(h:(gE P w [a,c] [b,d] e).2.2=0):(gE P w [a,c] [b,d] e).2.1=e/\∃x y,(gE P w [a,c] [b,d] e).1=[x,y]/\a<=x/\x<=b/\c<=y/\y<=d:=by
 cases P with
 |nil=>exact absurd h (by simp[gE])
 |cons p r =>
  rw[oz]at h ⊢; by_cases hp:p.2≠w
  .rw[if_pos hp]at h;exact absurd h (by simp)
  rw[if_neg hp]at h ⊢; have hz:[a,c].zip [b,d]=[(a,b),(c,d)]:=rfl;rw[hz]at h ⊢; cases r with
  |nil=>exact absurd h (by simp[ib])
  |cons p1 r =>
   simp only[ib]at h ⊢; by_cases h1:(numOf p1.2 a b).2≠0
   .rw[if_pos h1]at h;exact absurd h h1
   rw[if_neg h1]at h ⊢; cases r with
   |nil=>exact absurd h (by simp[ib])
   |cons p2 r =>
    simp only[ib]at h ⊢; by_cases h2:(numOf p2.2 c d).2≠0
    .rw[if_pos h2]at h;exact absurd h h2
    rw[if_neg h2]at h ⊢; cases r with
    |nil=>have k1:=CD (t:=p1.2) (lo:=a) (hi:=b) (by omega);have k2:=CD (t:=p2.2) (lo:=c) (hi:=d) (by omega);simp only[ib];grind
    |cons p3 r=>exact absurd h (by simp[ib])
def P4(W:Int)(N:List Int×Int×Int)(at0 e:Int)(ob:Int->Bool):ao×Int×Int :=
 if N.2.2≠0 then(⟨W,0,0⟩,N.2.1,N.2.2)else if ob (gi N.1 0)==(W==1)then(⟨W,gi N.1 0,gi N.1 1⟩,at0,33)else(⟨W,gi N.1 0,gi N.1 1⟩,e,0)
theorem rS(P:PL)(kinds e:Int)(ob:Int->Bool):dX P kinds e ob=if cZ (gi P 0).2=0 then(⟨2,0,0⟩,(gi P 0).1,8)else P4 (cZ (gi P 0).2) (gE P (gi P 0).2 [1,0] (oN kinds (cZ (gi P 0).2)) e) (gi P 0).1 e ob:=rfl
theorem Ym(w:Bs):cZ w=0∨cZ w=1∨cZ w=2:=by
 unfold cZ
 omega
theorem adJ{P:PL}{kinds e:Int}{ob:Int->Bool}(h:(dX P kinds e ob).2.2=0):(dX P kinds e ob).2.1=e/\cZ (gi P 0).2≠0/\(dX P kinds e ob).1.cD=cZ (gi P 0).2/\1<=(dX P kinds e ob).1.cE/\(dX P kinds e ob).1.cE<=1000/\0<=(dX P kinds e ob).1.N/\((dX P kinds e ob).1.cD=1->(dX P kinds e ob).1.N<=kinds-1)/\((dX P kinds e ob).1.cD=2->(dX P kinds e ob).1.N<=1000000)/\(ob (dX P kinds e ob).1.cE==((dX P kinds e ob).1.cD==1))=false:=by
 rw[rS]at h ⊢; by_cases h0:cZ (gi P 0).2=0
 .rw[if_pos h0]at h;exact absurd h (by simp)
 rw[if_neg h0]at h ⊢; obtain⟨t,ht,ht1,ht2⟩:∃t,oN kinds (cZ (gi P 0).2)=[1000,t]/\(cZ (gi P 0).2=1->t=kinds-1)/\(cZ (gi P 0).2=2->t=1000000):=by unfold oN;grind
 rw[ht]at h ⊢; have h2:=@Tg P (gi P 0).2 1 1000 0 t e;generalize gE P (gi P 0).2 [1,0] [1000,t] e=N at *; unfold P4 at h ⊢; by_cases hN:N.2.2≠0
 .rw[if_pos hN]at h;exact absurd h hN
 rw[if_neg hN]at h ⊢; by_cases hb:(ob (gi N.1 0)==(cZ (gi P 0).2==1))=true
 .rw[if_pos hb]at h;exact absurd h (by simp)
 obtain⟨_,x,y,PB,k1,k2,k3,k4⟩:=h2 (by omega);have e0:gi N.1 0=x:=by rw[PB];rfl
 have e1:gi N.1 1=y:=by rw[PB];rfl
 grind
theorem IV{t:Int}(h0:-1<=t)(h1:t<=1000000):zl .i64 t:=⟨by show(-9223372036854775808:Int)<=t;omega,by show t<=(9223372036854775807:Int);omega⟩
theorem ZT(kinds W:Int)(k0:0<=kinds)(k1:kinds<=1000000):∃t,oN kinds W=[1000,t]/\zl .i64 t:=by
 unfold oN;split
 .exact⟨_,rfl,IV (by omega) (by omega)⟩
 grind[IV]
theorem Zx{P:PL}(hg:w9 P){t:Int}(ht:zl .i64 t):aa9 P [1,0] [1000,t]:=by
 refine⟨hg,by decide,by simp,λx hx=>?_,λx hx=>?_⟩
 .simp only[aE,pA,or_false]at hx;rcases hx with rfl|rfl
  .exact IV (by omega) (by omega)
  .exact IV (by omega) (by omega)
 grind[only,IV]
theorem v84(l:List ai)(o:ae)(e:Int)(m:List (Int×Int))(hp:SD l o e m):VC84 l o e m (λr=>r=fo l o e m):=by
 unfold VC84 iF bD wI;intro hs1 hs2;obtain⟨hg,hne,k0,k1⟩:=hp;have hl:0<l.length:=lB.2 hne;have hP:=rW (l:=l) (x:=0) (by omega) (by omega);have main:∀W,cZ (gi l 0).Text=W->(W=1∨W=2)->∀hi,oN o.cV W=hi->VC84_J1 l e m (λr=>r=fo l o e m) hi W:=by
  rintro W hW h12 _ rfl;have hR:dX (dK l) o.cV e (yJ m)=P4 W (gE (dK l) (gi l 0).Text [1,0] (oN o.cV W) e) (gi l 0).At e (yJ m):=by grind[rS,only]
  unfold fo;rw[hR];unfold VC84_J1 eU iF bD;obtain⟨t,ht,htr⟩:=ZT o.cV W k0 k1;rw[ht];refine⟨⟨by omega,by omega⟩,Zx hg htr,?_⟩;rintro _ rfl;intro _;have h2:=@Tg (dK l) (gi l 0).Text 1 1000 0 t e;generalize gE (dK l) (gi l 0).Text [1,0] [1000,t] e=N at h2 ⊢; unfold P4;refine⟨λh=>?_,λh=>?_⟩
  .have h:N.2.2≠0:=by simpa using h
   rw[if_pos h];rw[if_neg h]
  .have h:N.2.2=0:=by simpa using h
   obtain⟨_,x,y,hN,_⟩:=h2 h;rw[if_neg (by simpa using h),hN];refine⟨⟨by omega,by simp⟩,⟨by omega,by simp⟩,λhb=>⟨⟨by omega,by omega⟩,?_⟩,λhb=>?_⟩
   .rw[if_pos (show(yJ m (gi [x,y] 0)==(W==1))=true from hb)];simp only;rw[if_neg (by decide)]
   .rw[if_neg (show ¬(yJ m (gi [x,y] 0)==(W==1))=true from λhq=>by rw[show(yJ m (gi [x,y] 0)==(W==1))=false from hb]at hq;cases hq)];simp only;rw[if_pos trivial]
 refine⟨⟨by omega,by omega⟩,λh=>⟨⟨by omega,by simp⟩,?_⟩,λh=>⟨λh2=>?_,λh2=>⟨⟨by omega,by omega⟩,?_⟩⟩⟩
 .have h:(gi l 0).Text=qA:=by simpa[qA]using h
  have hw:cZ (gi l 0).Text=1:=by unfold cZ;rw[if_pos h]
  refine main 1 hw (.inl rfl) _ ?_;rw[dj (by omega) (by omega)];rfl
 .have h:(gi l 0).Text≠qA:=by simpa[qA]using h
  have h2:(gi l 0).Text=AY:=by simpa[AY]using h2
  exact main 2 (by unfold cZ;rw[if_neg h,if_pos h2]) (.inr rfl) _ rfl
 .have h:(gi l 0).Text≠qA:=by simpa[qA]using h
  have h2:(gi l 0).Text≠AY:=by simpa[AY]using h2
  have hw:cZ (gi l 0).Text=0:=by unfold cZ;rw[if_neg h,if_neg h2]
  have hR:dX (dK l) o.cV e (yJ m)=(⟨2,0,0⟩,(gi l 0).At,8):=by grind[rS,only]
  unfold fo;rw[hR];simp only;rw[if_neg (by decide)]
theorem v26(o:ae)(l:List ao)(t:List ai)(e:Int)(hp:KT o l t e):VC26 o l t e (λr=>r=ng o l t e):=by
 unfold VC26 iF bD wI;intro hs1 hs2 hs3;obtain⟨hg,hne,k0,k1,hl⟩:=hp;have ht:0<t.length:=lB.2 hne;have hP:=zH (l:=t) (x:=0) (by omega) (by omega);have main:∀W,cZ (gi t 0).Text=W->(W=1∨W=2)->∀top,oN o.cV W=[1000,top]->VC26_J1 l t e (λr=>r=ng o l t e) top W:=by
  intro W hW h12 top af5;have hR:dX (eL t) o.cV e (lv l)=P4 W (gE (eL t) (gi t 0).Text [1,0] (oN o.cV W) e) (gi t 0).At e (lv l):=by grind[rS,only]
  unfold ng;rw[hR,hP];rw[hW,if_neg (by omega)];unfold VC26_J1 jM iF bD lN;obtain⟨t',PF,htr⟩:=ZT o.cV W k0 k1;rw[af5]at PF;simp only[List.cons.injEq,true_and,and_true]at PF;subst PF;rw[af5];refine⟨Zx hg htr,?_⟩;rintro _ rfl;intro _;have h2:=@Tg (eL t) (gi t 0).Text 1 1000 0 top e;generalize gE (eL t) (gi t 0).Text [1,0] [1000,top] e=N at h2 ⊢; unfold P4;refine⟨λh=>?_,λh=>?_⟩
  .have h:N.2.2≠0:=by simpa using h
   rw[if_pos h,if_neg (λhq=>h hq.1)]
  .have h:N.2.2=0:=by simpa using h
   obtain⟨_,x,y,hN,_⟩:=h2 h;rw[if_neg (show ¬N.2.2≠0 by omega),hN];refine⟨⟨by omega,by simp⟩,⟨by omega,by simp⟩,?_,?_⟩
   .show l.length<=1000000;omega
   rintro _ rfl;intro _;rintro _ rfl;rw[Uz];refine⟨λhb=>⟨⟨by omega,by omega⟩,?_⟩,λhb=>?_⟩
   .rw[if_pos hb,if_neg (λhq=>absurd hq.1 (by simp))]
   .rw[if_neg (show ¬(lv l (gi [x,y] 0)==(W==1))=true from λhq=>by rw[hb]at hq;cases hq)];refine⟨λhB=>⟨⟨by omega,by omega⟩,?_⟩,λhB=>?_⟩
    .have hB:l.length=10000:=by simp at hB;omega
     rw[if_pos ⟨rfl,hB⟩]
    .have hB:l.length≠10000:=by simp at hB;omega
     rw[if_neg (λhq=>hB hq.2)]
 refine⟨⟨by omega,by omega⟩,λh=>⟨⟨by omega,by omega⟩,?_⟩,λh=>⟨λh2=>?_,λh2=>?_⟩⟩
 .have h:(gi t 0).Text≠qA/\(gi t 0).Text≠AY:=by simpa[qA,AY]using h
  have hw:cZ (gi t 0).Text=0:=by unfold cZ;rw[if_neg h.1,if_neg h.2]
  unfold ng;rw[hP];rw[if_pos hw]
 .have h2:(gi t 0).Text=qA:=by simpa[qA]using h2
  refine main 1 (by unfold cZ;rw[if_pos h2]) (.inl rfl) _ ?_;rw[dj (by omega) (by omega)];rfl
 .have h2:(gi t 0).Text≠qA:=by simpa[qA]using h2
  have h3:(gi t 0).Text=AY:=by
   rcases Ym (gi t 0).Text with hz|hz|hz
   .exfalso;unfold cZ at hz;rw[if_neg h2]at hz;by_cases h4:(gi t 0).Text=AY
    .rw[if_pos h4]at hz;cases hz
    .have:((!((gi t 0).Text==([99,97,108,108]:List UInt8)))&&(!((gi t 0).Text==([114,101,116]:List UInt8))))=true:=by simpa[qA,AY]using And.intro h2 h4
     rw[this]at h;cases h
   .unfold cZ at hz;rw[if_neg h2]at hz;by_cases h4:(gi t 0).Text=AY
    .exact h4
    .rw[if_neg h4]at hz;cases hz
   .unfold cZ at hz;rw[if_neg h2]at hz;by_cases h4:(gi t 0).Text=AY
    .exact h4
    .rw[if_neg h4]at hz;cases hz
  exact main 2 (by unfold cZ;rw[if_neg h2,if_pos h3]) (.inr rfl) _ rfl
theorem De(kinds e:Int)(p:PL)(L:List PL)(acc:List ao):AO kinds e (p::L) acc=if(dX p kinds e (lv acc)).2.2≠0 then([],(dX p kinds e (lv acc)).2.1,(dX p kinds e (lv acc)).2.2)
  else if acc.length≥10000 then([],(gi p 0).1,3)else AO kinds e L (acc++[(dX p kinds e (lv acc)).1]):=rfl
theorem Ky{T:List (List ai)}{e:Int}(h:(bA (bF T) e).2.2.2≠0):fM T e=(uZ,[],(bA (bF T) e).2.2.1,(bA (bF T) e).2.2.2):=by
 unfold fM;rw[if_pos h]
theorem Oo{T:List (List ai)}{e:Int}(h:(bA (bF T) e).2.2.2=0):fM T e=((bA (bF T) e).1,jG (bA (bF T) e).2.1.toNat T,e,0):=by
 unfold fM;rw[if_neg (by simpa using h)]
theorem Pf{m:List (Int×Int)}{l:List ao}(h:Iv m l):yJ m=lv l:=by
 funext q;unfold yJ lv;rw[h q]
theorem afY{L:List PL}{e:Int}(h:(bA L e).2.2.2=0):1<=(bA L e).1.cV/\(bA L e).1.cV<=64:=by
 obtain⟨_,_,_,hc,_⟩:=te h;have:=(xO hc).1;unfold iX at this;omega
theorem v14(s:Bs):VC14 s (λr=>r=bZ s):=by
 unfold VC14 bZ nI iF bD lN dE l7P;refine⟨λh=>by rw[if_pos (aF h)];rfl,λh=>?_⟩;have h:=aL h;rw[if_neg h];have hl:sq s:=by unfold sq;omega
 refine⟨hl,?_⟩;rintro _ rfl;intro hs1;have Nu:=AK s hl (s.length:Int);refine⟨Nu,?_⟩;rintro _ rfl;generalize cK s=T at *; generalize he:((s.length:Nat):Int)=e at *; unfold JO;by_cases hk:(bA (bF T) e).2.2.2≠0
 .rw[Ky hk];intro _ _;exact⟨λ_=>by rw[if_pos hk];rfl,λh=>absurd hk (by simpa using h)⟩
 have hk:(bA (bF T) e).2.2.2=0:=by omega
 rw[Oo hk];intro hs2 hs3;refine⟨λh=>absurd h (by simp),λ_=>?_⟩;rw[if_neg (show ¬(bA (bF T) e).2.2.2≠0 by omega)];obtain⟨_,t1,t2,_,t4,_⟩:=te hk;obtain⟨d1,d2⟩:=Dh (bA (bF T) e).2.1.toNat T;have hE:y8 (bF T) e=AO (bA (bF T) e).1.cV e (bF (jG (bA (bF T) e).2.1.toNat T)) []:=by unfold y8;rw[Ah]
 generalize y8 (bF T) e=R at *; generalize jG (bA (bF T) e).2.1.toNat T=rest at *; generalize(bA (bF T) e).1=o at *; have hlen:rest.length<=10000000:=bP d2 Nu.1;unfold VC14_J1 VC14_J2 lN wI n7P;dsimp only
 refine⟨λi a b c rows j7 m=>0<=i/\i<=rest.length/\a=o.az/\b=o.cV/\c=o.eZ/\rows=o.Rows/\j7.length<=10000/\Iv m j7/\AO o.cV e (bF (rest.drop i.toNat)) j7=R,
  λi _ _ _ _ _ _=>(rest.length-i).toNat,⟨by omega,by omega,rfl,rfl,rfl,rfl,by simp,λq=>by simp[bB,iR],by rw[hE];rfl⟩,?_⟩
 rintro i a b c rows j7 m ⟨h0,h1,rfl,rfl,rfl,rfl,h6,h7,h8⟩;refine⟨λhi=>?_,λhi=>?_⟩
 .have hi:=aF hi;rw[eF h0 hi,vh]at h8;have hg:=Nu.2 _ (d1 _ (dq h0 hi));rw[dj (n:=i+1) (by omega) (by omega)];refine⟨⟨h0,hi⟩,λ_=>⟨λhz=>?_,λhz=>?_⟩⟩
  .have hz:(gi rest i).isEmpty=true:=by simp_all
   rw[if_pos hz]at h8;exact⟨⟨by omega,by omega,rfl,rfl,rfl,rfl,h6,h7,h8⟩,by first|omega|(dsimp only;omega)⟩
  .have hz:gi rest i≠[]:=by grind
   have IW:¬(gi rest i).isEmpty=true:=by simpa using hz
   rw[if_neg IW,De]at h8;have uA:0<(gi rest i).length:=lB.2 hz;refine⟨⟨hg,hz,by omega,by omega⟩,?_⟩;rintro _ rfl;unfold fo;rw[Pf h7];generalize dX (dK (gi rest i)) o.cV e (lv j7)=E at *; refine⟨λhx=>?_,λhx=>?_⟩
   .have hx:E.2.2≠0:=by simpa using hx
    rw[if_pos hx]at h8;rw[←h8,if_pos hx];rfl
   .have hx:E.2.2=0:=by simpa using hx
    rw[if_neg (show ¬E.2.2≠0 by omega)]at h8;refine⟨λhB=>⟨⟨by omega,by omega⟩,?_⟩,λhB=>?_⟩
    .have hB:j7.length≥10000:=by have:=aF hB;omega
     rw[if_pos hB,rW (by omega) (by omega)]at h8;rw[←h8,if_pos (by simp)];rfl
    .have hB:¬j7.length≥10000:=by have:=aL hB;omega
     rw[if_neg hB]at h8;refine⟨by simp;omega,⟨by omega,by omega,rfl,rfl,rfl,rfl,by simp;omega,?_,h8⟩,by first|omega|(dsimp only;omega)⟩;rw[if_pos hx];exact E3 h7 _
 .have hi:=aL hi;rw[dT (by omega)]at h8;have h8:(j7,e,0)=R:=h8;rw[←h8,if_neg (by simp)];subst he;rfl
theorem v10(s:Bs):VC10 s (λr=>r=dv s):=by
 unfold VC10 dv nI iF bD lN wI dE fj;refine⟨λh=>by rw[if_pos (aF h)];rfl,λh=>?_⟩;have h:=aL h;rw[if_neg h];have hl:sq s:=by unfold sq;omega
 refine⟨hl,?_⟩;rintro _ rfl;intro hs1;have Nu:=AK s hl (s.length:Int);have h2:iv s=(cK s).map λr=>r.map oR:=rfl;rw[h2]at hs1 ⊢; refine⟨by show _<=_;rw[da];exact Nu.1,?_⟩;rintro _ rfl;intro hs2;have Hs:=RO Nu;refine⟨Hs,?_⟩;rintro _ rfl;have Ny:=Ey (cK s);generalize ju ((cK s).map λr=>r.map oR)=T at *; generalize he:((s.length:Nat):Int)=e at *; unfold pU JO;rw[Ny];have hLT:(bF (cK s)).length=T.length:=by rw[←Ny,da]
 generalize bF (cK s)=L at *; intro hs3;refine⟨λhk=>?_,λhk=>?_⟩
 .have hk:(bA L e).2.2.2≠0:=by simpa using hk
  rw[if_pos hk];rfl
 have hk:(bA L e).2.2.2=0:=by simpa using hk
 rw[if_neg (show ¬(bA L e).2.2.2≠0 by omega)];obtain⟨_,t1,t2,_,t4,_⟩:=te hk;have hE:y8 L e=AO (bA L e).1.cV e (L.drop (bA L e).2.1.toNat) []:=rfl;unfold VC10_J1 lN;generalize y8 L e=R at *; generalize(bA L e).1=o at *; generalize(bA L e).2.1=n at *; have hT:=Hs.1;refine⟨λj7 i=>0<=i/\i<=T.length/\j7.length<=10000/\AO o.cV e (L.drop i.toNat) j7=R,λ_ i=>(T.length-i).toNat,⟨by omega,by omega,by simp,hE.symm⟩,?_⟩;rintro j7 i ⟨h0,h1,h6,h8⟩;refine⟨λhi=>?_,λhi=>?_⟩
 .have hi:=aF hi;have hg:=Hs.2 _ (dq h0 hi);have hLi:gi L i=eL (gi T i):=by rw[←Ny,Aa _ h0 hi]
  rw[eF h0 (by omega),De,hLi]at h8;rw[dj (n:=i+1) (by omega) (by omega)];refine⟨⟨h0,hi⟩,λ_=>a2 ⟨⟨hg.1,hg.2,by omega,by omega,h6⟩,?_⟩⟩;rintro _ rfl;unfold ng;have heq:=rS (eL (gi T i)) o.cV e (lv j7);generalize dX (eL (gi T i)) o.cV e (lv j7)=E at *; by_cases hw:cZ (gi (eL (gi T i)) 0).2=0
  .rw[if_pos hw]at heq ⊢; subst heq;refine⟨λ_=>?_,λhx=>absurd hx (by simp)⟩;rw[←h8,if_pos (by simp)];rfl
  rw[if_neg hw];by_cases hB:E.2.2=0/\j7.length=10000
  .rw[if_pos hB];rw[if_neg (show ¬E.2.2≠0 by omega),if_pos (show j7.length≥10000 by omega)]at h8;refine⟨λ_=>?_,λhx=>absurd hx (by simp)⟩;rw[←h8,if_pos (by simp)];rfl
  rw[if_neg hB];refine⟨λhx=>?_,λhx=>?_⟩
  .have hx:E.2.2≠0:=by simpa using hx
   rw[if_pos hx]at h8;rw[←h8,if_pos hx];rfl
  .have hx:E.2.2=0:=by simpa using hx
   rw[if_neg (show ¬E.2.2≠0 by omega),if_neg (show ¬j7.length≥10000 by omega)]at h8;exact⟨by simp;omega,⟨by omega,by omega,by simp;omega,h8⟩,by first|omega|(dsimp only;omega)⟩
 .have hi:=aL hi;rw[dT (by omega)]at h8;have h8:(j7,e,0)=R:=h8;rw[←h8,if_neg (by simp)];subst he;rfl
theorem NO(l:List ao):∀(f:Nat)(i:Int),(Ad l f i).2=0->∀j:Int,i<=j->j<i+f->Hb (gi l j)=0/\((iR (l.take j.toNat) (gi l j).cE==1)==((gi l j).cD==1))=false
 |0,i,_,j,h0,h1=>by omega
 |f+1,i,h,j,h0,h1=>by
  rw[Ac]at h;by_cases h2:Hb (gi l i)≠0
  .rw[if_pos h2]at h;exact absurd h h2
  rw[if_neg h2]at h;by_cases h3:((iR (l.take i.toNat) (gi l i).cE==1)==((gi l i).cD==1))=true
  .rw[if_pos h3]at h;exact absurd h (by simp)
  rw[if_neg h3]at h;by_cases hj:j=i
  .subst hj;exact⟨by omega,by simpa using h3⟩
  .exact NO l f (i+1) h j (by omega) (by omega)
theorem ry{l:List ao}(h:(eO l).2=0):l.length<=10000/\∀j:Int,0<=j->j<l.length->Hb (gi l j)=0/\((iR (l.take j.toNat) (gi l j).cE==1)==((gi l j).cD==1))=false:=by
 unfold eO at h;grind[NO]
theorem UX{x:ao}(h:Hb x=0):(x.cD=1∨x.cD=2)/\1<=x.cE/\x.cE<=1000/\0<=x.N/\x.N<=1000000:=by
 unfold Hb at h;omega
theorem EO:∀(a b:List ao)(i:Int)(ops:List aj),rX (a++b) i ops=rX b (i+a.length) (rX a i ops)
 |[],b,i,ops=>by simp[rX]
 |x::a,b,i,ops=>by rw[jK,rX,EO a b,rX];grind
theorem xy(l:List ao)(x:ao):opsOf (l++[x])=gY (opsOf l) (l.length:Int) x:=by
 unfold opsOf;rw[EO];simp[rX]
theorem LW(k:Int)(x:ao)(o:aj):(iY k x o).cE=o.cE/\(iY k x o).Kind=o.Kind/\(iY k x o).cn=o.cn:=by
 unfold iY;split<;>exact⟨rfl,rfl,rfl⟩
theorem sI{k:Int}{x:ao}{o:aj}(h:¬(o.End=-1/\o.cE=x.cE)):iY k x o=o:=by
 unfold iY;rw[if_neg h]
theorem Al{k:Int}{x:ao}{o:aj}(h:o.End=-1/\o.cE=x.cE):iY k x o=⟨o.cE,o.Kind,o.cn,k,x.N⟩:=by
 unfold iY;rw[if_pos h]
theorem NF{ops:List aj}{k:Int}{x:ao}{i:Nat}(h:i<ops.length):gi (gY ops k x) (i:Int)=iY k x (gi ops (i:Int)):=by
 unfold gY;grind[dM,List.length_append,List.length_map,List.getElem_append_left]
theorem acy{ops:List aj}{k:Int}{x:ao}(h:x.cD=1):gi (gY ops k x) (ops.length:Int)=⟨x.cE,x.N,k,-1,-1⟩:=by
 unfold gY;grind[dM,List.getElem_append_right]
theorem BQ(ops:List aj)(k:Int)(x:ao):(gY ops k x).length=ops.length+(if x.cD=1 then 1 else 0):=by
 unfold gY;grind
theorem L0(l:List ao)(x:ao):xR (l++[x])=xR l+(if x.cD=1 then 1 else 0):=by
 unfold xR;grind
theorem RB{α:Type}{P:List α->Prop}(h0:P [])(h1:∀l x,P l->P (l++[x]))(l:List α):P l:=by
 rw[←List.reverse_reverse l];generalize l.reverse=r
 induction r with
 |nil=>exact h0
 |cons x r ih=>rw[List.reverse_cons];exact h1 _ _ ih
theorem Qh(l:List ao):((opsOf l).length:Int)=xR l:=by
 refine RB (P:=λl=>((opsOf l).length:Int)=xR l) rfl (λl x ih=>?_) l;grind[xy,L0,BQ]
theorem Ar(o:aj):e9 o=0↔1<=o.cE/\o.cE<=1000/\0<=o.cn/\o.cn<=9999/\0<=o.Kind/\o.Kind<64/\gN o=true:=by
 unfold e9;grind
structure DM (l:List ao) (ops:List aj):Prop where
 one:∀i:Nat,i<ops.length->e9 (gi ops (i:Int))=0/\(gi ops (i:Int)).cn<l.length/\(gi ops (i:Int)).End<l.length
 two:∀i j:Nat,i<j->j<ops.length->(gi ops (i:Int)).cn<(gi ops (j:Int)).cn/\((gi ops (i:Int)).End≠-1->(gi ops (i:Int)).End≠(gi ops (j:Int)).End)/\(gi ops (i:Int)).End≠(gi ops (j:Int)).cn/\(gi ops (i:Int)).cn≠(gi ops (j:Int)).End/\((gi ops (i:Int)).cE=(gi ops (j:Int)).cE->(gi ops (i:Int)).End≠-1/\(gi ops (i:Int)).End<(gi ops (j:Int)).cn)
 Zo:∀p,iR l p=1->∃j:Nat,j<ops.length/\(gi ops (j:Int)).cE=p/\(gi ops (j:Int)).End=-1
 shut:∀p,iR l p≠1->∀j:Nat,j<ops.length->(gi ops (j:Int)).cE=p->(gi ops (j:Int)).End≠-1
def LK(l:List ao)(x:ao):Prop:=Hb x=0/\((iR l x.cE==1)==(x.cD==1))=false/\l.length<10000
theorem Yl{x:ao}(h:Hb x=0)(hw:x.cD=1):x.N<64:=by
 unfold Hb at h;omega
theorem CG{l:List ao}{x:ao}(h:LK l x):(x.cD=1/\iR l x.cE≠1)∨(x.cD=2/\iR l x.cE=1):=by
 obtain⟨h1,h2,_⟩:=h;grind[UX]
theorem Dq{l:List ao}{ops:List aj}{x:ao}(H:DM l ops)(hl:iR l x.cE≠1)(k:Int):∀i:Nat,i<ops.length->iY k x (gi ops (i:Int))=gi ops (i:Int):=λi hi =>
 sI (λhh=>H.shut _ hl i hi hh.2 hh.1)
theorem SY{l:List ao}{ops:List aj}{x:ao}(H:DM l ops)(hx:LK l x):DM (l++[x]) (gY ops (l.length:Int) x):=by
 obtain⟨e1,e2,e3,e4,e5⟩:=UX hx.1;have hlen:=hx.2.2;have hlx:((l++[x]).length:Int)=l.length+1:=by simp
 have hf:∀i:Nat,i<ops.length->0<=(gi ops (i:Int)).cn/\((gi ops (i:Int)).End=-1∨(gi ops (i:Int)).End>(gi ops (i:Int)).cn):=λi hi=>J3 (H.one i hi).1;rcases CG hx with⟨w,hl⟩|⟨w,hl⟩
 ·
  have hg:∀i:Nat,i<ops.length->gi (gY ops (l.length:Int) x) (i:Int)=gi ops (i:Int):=λi hi=>by rw[NF hi,Dq H hl _ i hi]
  have hn:=acy (ops:=ops) (k:=(l.length:Int)) w;have hL:(gY ops (l.length:Int) x).length=ops.length+1:=by rw[BQ,if_pos w]
  have hk:=Yl hx.1 w;refine⟨λi hi=>?_,λi j NB hj=>?_,λp hp=>?_,λp hp j hj Hs=>?_⟩
  .by_cases e:i=ops.length
   .subst e;rw[hn,hlx];refine⟨(Ar _).2 ⟨e2,e3,by dsimp only;omega,by dsimp only;omega,e4,hk,rfl⟩,by dsimp only;omega,by dsimp only;omega⟩
   .rw[hg i (by omega),hlx];obtain⟨a,b,c⟩:=H.one i (by omega);exact⟨a,by omega,by omega⟩
  .rw[hg i (by omega)];by_cases e:j=ops.length
   .subst e;rw[hn];obtain⟨a,b,c⟩:=H.one i (by omega);have:=hf i (by omega);refine⟨b,λh=>h,by dsimp only;omega,by dsimp only;omega,λHs=>⟨H.shut _ hl i (by omega) Hs,c⟩⟩
   .rw[hg j (by omega)];exact H.two i j NB (by omega)
  .rw[kq]at hp;by_cases e:x.cE=p
   .exact⟨ops.length,by omega,by rw[hn];exact e,by rw[hn]⟩
   .rw[if_neg e]at hp;obtain⟨j,hj,a,b⟩:=H.Zo p hp;exact⟨j,by omega,by rw[hg j hj];exact a,by rw[hg j hj];exact b⟩
  .rw[kq]at hp;by_cases e:x.cE=p
   .rw[if_pos e]at hp;exact absurd w hp
   .rw[if_neg e]at hp;by_cases ej:j=ops.length
    .subst ej;rw[hn]at Hs;exact absurd Hs e
    .rw[hg j (by omega)]at Hs ⊢; exact H.shut p hp j (by omega) Hs
 ·
  have hL:(gY ops (l.length:Int) x).length=ops.length:=by rw[BQ,if_neg (by omega)];rfl
  have hg:∀i:Nat,i<ops.length->gi (gY ops (l.length:Int) x) (i:Int)=iY (l.length:Int) x (gi ops (i:Int)):=λi hi=>NF hi;have hE:∀i:Nat,(iY (l.length:Int) x (gi ops (i:Int))).End=if(gi ops (i:Int)).End=-1/\(gi ops (i:Int)).cE=x.cE then(l.length:Int)else(gi ops (i:Int)).End:=λi=>by unfold iY;split<;>rfl
  have hs:=λi:Nat=>LW (l.length:Int) x (gi ops (i:Int));have H1:=H.one;have H2:=H.two;refine⟨λi hi=>?_,λi j NB hj=>?_,λp hp=>?_,λp hp j hj Hs=>?_⟩
  .obtain⟨a,b,c⟩:=H1 i (by omega);rw[hg i (by omega),hlx];by_cases e:(gi ops (i:Int)).End=-1/\(gi ops (i:Int)).cE=x.cE
   .rw[Al e];obtain⟨a1,a2,a3,a4,a5,a6,a7⟩:=(Ar _).1 a;refine⟨(Ar _).2 ⟨a1,a2,a3,a4,a5,a6,?_⟩,by dsimp only;omega,by dsimp only;omega⟩;unfold gN;dsimp only;rw[if_neg (by omega)];simp only[ak,aR];omega
   .rw[sI e];exact⟨a,by omega,by omega⟩
  .rw[hg i (by omega),hg j (by omega)];obtain⟨a1,b1,c1⟩:=H1 i (by omega);obtain⟨a2,b2,c2⟩:=H1 j (by omega);obtain⟨t1,t2,t3,t4,t5⟩:=H2 i j NB (by omega);rw[hE i,hE j,(hs i).2.2,(hs j).2.2,(hs i).1,(hs j).1];by_cases ei:(gi ops (i:Int)).End=-1/\(gi ops (i:Int)).cE=x.cE
   .rw[if_pos ei];have hne:(gi ops (j:Int)).cE≠x.cE:=λh=>(t5 (by rw[ei.2,h])).1 ei.1;exact⟨t1,λ_=>by omega,by omega,by omega,λh=>absurd (h.symm.trans ei.2) hne⟩
   .rw[if_neg ei];by_cases ej:(gi ops (j:Int)).End=-1/\(gi ops (j:Int)).cE=x.cE
    .rw[if_pos ej];exact⟨t1,λ_=>by omega,t3,by omega,t5⟩
    .rw[if_neg ej];exact⟨t1,t2,t3,t4,t5⟩
  .rw[kq]at hp;by_cases e:x.cE=p
   .rw[if_pos e]at hp;omega
   .rw[if_neg e]at hp;obtain⟨j,hj,a,b⟩:=H.Zo p hp;have:iY (l.length:Int) x (gi ops (j:Int))=gi ops (j:Int):=sI (λh=>e (h.2.symm.trans a));exact⟨j,by omega,by rw[hg j (by omega),this];exact a,by rw[hg j (by omega),this];exact b⟩
  .rw[hg j (by omega),(hs j).1]at Hs;rw[hg j (by omega),hE j];rw[kq]at hp;by_cases e:x.cE=p
   .split
    .omega
    .rename_i hh;exact λh=>hh ⟨h,by rw[Hs,e]⟩
   .rw[if_neg e]at hp;have:=H.shut p hp j (by omega) Hs;rw[if_neg (λh=>this h.1)];exact this
theorem W2:DM [] []:=⟨λi h=>by simp at h,λi j _ h=>by simp at h,λp h=>by simp[iR]at h,λp _ j h=>by simp at h⟩
theorem NN{l:List ao}(h:(eO l).2=0){k:Nat}(hk:k<l.length):LK (l.take k) (gi l (k:Int)):=by
 obtain⟨h1,h2⟩:=ry h;obtain⟨a,b⟩:=h2 (k:Int) (by omega) (by omega);exact⟨a,b,by rw[bH];omega⟩
theorem El{l:List ao}{k:Nat}(hk:k<l.length):l.take (k+1)=l.take k++[gi l (k:Int)]:=by
 have:=fW (l:=l) (i:=(k:Int)) (by omega) (by omega);grind
theorem SZ{l:List ao}(h:(eO l).2=0):∀k:Nat,k<=l.length->DM (l.take k) (opsOf (l.take k))
 |0,_=>by rw[List.take_zero];exact W2
 |k+1,hk=>by rw[El hk,xy];exact SY (SZ h k (by omega)) (NN h hk)
theorem OC{l:List ao}{ops:List aj}{x:ao}(H:DM l ops)(hl:iR l x.cE≠1)(w:x.cD=1)(k:Int):gY ops k x=ops++[⟨x.cE,x.N,k,-1,-1⟩]:=by
 unfold gY;rw[if_pos w];congr 1;apply List.ext_getElem (by simp);intro i h1 h2;have:=Dq H hl k i h2;grind[dM]
theorem step_ret{l:List ao}{ops:List aj}{x:ao}(H:DM l ops)(w:x.cD≠1){j:Nat}(hj:j<ops.length)(hp:(gi ops (j:Int)).cE=x.cE)(he:(gi ops (j:Int)).End=-1)(k:Int):gY ops k x=ops.set j ⟨(gi ops (j:Int)).cE,(gi ops (j:Int)).Kind,(gi ops (j:Int)).cn,k,x.N⟩:=by
 unfold gY;rw[if_neg w,fT];apply List.ext_getElem (by simp);intro i h1 h2;have h2:i<ops.length:=by simpa using h2
 rw[List.getElem_map,List.getElem_set];have e:=dM ops i h2;by_cases ij:j=i
 .subst ij;rw[if_pos rfl,←e,Al ⟨he,hp⟩]
 .rw[if_neg ij,←e,sI];rintro⟨h3,h4⟩;rcases Nat.lt_or_gt_of_ne ij with h|h
  .exact((H.two j i h h2).2.2.2.2 (by rw[hp,h4])).1 he
  .exact((H.two i j h hj).2.2.2.2 (by rw[hp,h4])).1 h3
def abe(l:List ao)(ops:List aj)(m:List (Int×Int)):Prop:=∀p,iR l p=1->∃j:Nat,(bB m p).getD 0=(j:Int)/\j<ops.length/\(gi ops (j:Int)).cE=p/\(gi ops (j:Int)).End=-1
theorem Jk{α:Type}[Inhabited α]{l:List α}{j:Nat}{a:α}(h:j<l.length):gi (l.set j a) (j:Int)=a:=by
 grind[dM]
theorem yX{α:Type}[Inhabited α]{l:List α}{i j:Nat}{a:α}(h:i<l.length)(hne:j≠i):gi (l.set j a) (i:Int)=gi l (i:Int):=by
 grind[dM,List.getElem_set_ne]
theorem v41(l:List ao):VC41 l (λr=>r=lI l):=by
 unfold VC41 iF bD lN dE IH;intro Uf;rintro _ rfl;unfold lI;refine⟨λh=>by rw[if_pos (by simpa using h)],λh=>?_⟩;have h:(eO l).2=0:=by simpa using h
 rw[if_neg (by omega)];have h10:=(ry h).1;refine⟨λout m x=>∃k:Nat,x=(k:Int)/\k<=l.length/\out=opsOf (l.take k)/\abe (l.take k) out m,λ_ _ x=>(l.length-x).toNat,⟨0,rfl,by omega,rfl,λp hp=>by simp[iR]at hp⟩,?_⟩;rintro out m _ ⟨k,rfl,hk,rfl,Kf⟩;refine⟨λhi=>?_,λhi=>?_⟩
 .have hi:=aF hi;have hk:k<l.length:=by omega
  have H:=SZ h k (by omega);have hx:=NN h hk;have QN:=El hk;have Ke:((l.take k).length:Int)=(k:Int):=by rw[bH];omega
  have hcl:=Qh (l.take k);have XN:(opsOf (l.take k)).length<=10000:=by
   have:xR (l.take k)<=k:=by unfold xR;grind
   omega
  have hso:=xy (l.take k) (gi l (k:Int));rw[Ke]at hso;refine⟨⟨by omega,hi⟩,λw=>⟨by simp;omega,?_⟩,λw=>?_⟩
  .have w:(gi l (k:Int)).cD=1:=by simpa using w
   rcases CG hx with⟨_,hl⟩|⟨w2,_⟩
   .unfold VC41_J2 wI GD;rw[dj (by omega) (by omega)];refine⟨⟨k+1,by push_cast;rfl,by omega,?_,?_⟩,by first|omega|(dsimp only;omega)⟩
    .rw[QN,hso,OC H hl w]
    .rw[QN];intro p hp;rw[kq]at hp;by_cases e:p=(gi l (k:Int)).cE
     .subst e;refine⟨(opsOf (l.take k)).length,by rw[jd,if_pos rfl];rfl,by simp,?_,?_⟩<;>rw[dM _ _ (by simp)]<;>simp
     .rw[if_neg (λhh=>e hh.symm)]at hp;obtain⟨j,j1,j2,j3,j4⟩:=Kf p hp;have eg:gi (opsOf (l.take k)++[(⟨(gi l (k:Int)).cE,(gi l (k:Int)).N,(k:Int),-1,-1⟩:aj)]) (j:Int)=gi (opsOf (l.take k)) (j:Int):=acz (by omega) (by omega);exact⟨j,by rw[jd,if_neg (λh=>e h.symm)];exact j1,by simp;omega,by rw[eg];exact j3,by rw[eg];exact j4⟩
   .omega
  .have w:(gi l (k:Int)).cD≠1:=by simpa using w
   rcases CG hx with⟨w2,_⟩|⟨w2,hl⟩
   .omega
   .obtain⟨j,j1,j2,j3,j4⟩:=Kf _ hl;rw[j1];refine⟨⟨by omega,by omega⟩,?_⟩;unfold VC41_J2 wI GD;rw[dj (by omega) (by omega)];rw[show((j:Nat):Int).toNat=j by omega,Jk j2,List.set_set];refine⟨⟨k+1,by push_cast;rfl,by omega,?_,?_⟩,by first|omega|(dsimp only;omega)⟩
    .rw[QN,hso,step_ret H w j2 j3 j4]
    .rw[QN];intro p hp;rw[kq]at hp;by_cases e:p=(gi l (k:Int)).cE
     .subst e;rw[if_pos rfl]at hp;omega
     .rw[if_neg (λhh=>e hh.symm)]at hp;obtain⟨q,q1,q2,q3,q4⟩:=Kf p hp;have hne:j≠q:=by rintro rfl;exact e (q3.symm.trans j3)
      exact⟨q,q1,by simpa using q2,by rw[yX q2 hne];exact q3,by rw[yX q2 hne];exact q4⟩
 .have hi:=aL hi;unfold VC41_J1;rw[fc (by omega)]
def fwd(p:Int):List ao->Int->Int×Int
 |[],_=>(-1,-1)
 |x::r,k=>if x.cE=p then(k,x.N)else fwd p r (k+1)
def yz:List ao->Int->List aj
 |[],_=>[]
 |x::r,i=>(if x.cD=1 then [⟨x.cE,x.N,i,(fwd x.cE r (i+1)).1,(fwd x.cE r (i+1)).2⟩]else [])++yz r (i+1)
def finish(l:List ao)(i:Int)(o:aj):aj:=if o.End=-1/\(fwd o.cE l i).1≠-1 then⟨o.cE,o.Kind,o.cn,(fwd o.cE l i).1,(fwd o.cE l i).2⟩else o
theorem Jm(p:Int):∀(l:List ao)(k:Int),0<=k->(fwd p l k).1=-1->(fwd p l k).2=-1
 |[],_,_,_=>rfl
 |x::l,k,h,e=>by
  rw[fwd]at e ⊢; split at e
  .dsimp only at e;omega
  .rename_i hh;rw[if_neg hh];exact Jm p l (k+1) (by omega) e
theorem G7{l:List ao}{x:ao}{i:Int}(h:0<=i)(o:aj):finish l (i+1) (iY i x o)=finish (x::l) i o:=by
 by_cases e:o.End=-1
 .by_cases p:o.cE=x.cE
  .rw[Al ⟨e,p⟩];unfold finish;rw[if_neg (by dsimp only;omega),if_pos]
   .rw[fwd,if_pos p.symm]
   .rw[fwd,if_pos p.symm];exact⟨e,by dsimp only;omega⟩
  .rw[sI (λh=>p h.2)];have e2:fwd o.cE (x::l) i=fwd o.cE l (i+1):=by rw[fwd,if_neg (λh=>p h.symm)]
   unfold finish;rw[e2]
 .rw[sI (λh=>e h.1)];unfold finish;rw[if_neg (λh=>e h.1),if_neg (λh=>e h.1)]
theorem EM:∀(l:List ao)(i:Int)(ops:List aj),0<=i->rX l i ops=ops.map (finish l i)++yz l i
 |[],i,ops,_=>by
  have:∀o:aj,finish [] i o=o:=λo=>by unfold finish;rw[if_neg (λh=>h.2 rfl)]
  rw[rX,yz,fT,show finish [] i=id from funext this,List.map_id]
 |x::l,i,ops,h=>by
  rw[rX,EM l (i+1) _ (by omega),yz,←bV];congr 1;unfold gY;rw[gp,kV];congr 1
  .exact List.map_congr_left (λo _=>G7 h o)
  .split
   .rw[ba,iC];congr 1;unfold finish;by_cases e:(fwd x.cE l (i+1)).1=-1
    .rw[if_neg (λh=>h.2 e),e,Jm _ _ _ (by omega) e]
    .rw[if_pos ⟨rfl,e⟩]
   .rfl
theorem W1(l:List ao):opsOf l=yz l 0:=by
 unfold opsOf;rw[EM l 0 [] (by omega)];rfl
theorem v11(l:List ao):VC11 l (λr=>r=pT l):=by
 unfold VC11 iF bD lN wI dE fj l7P;intro _;rintro _ rfl;unfold pT lI ov;refine⟨λh=>by rw[if_pos (by simpa using h)],λh=>?_⟩;have h:(eO l).2=0:=by simpa using h
 rw[if_neg (by omega),W1];have h10:=(ry h).1;generalize hR:yz l 0=R;refine⟨λout i=>∃k:Nat,i=(k:Int)/\k<=l.length/\out.length<=k/\out++yz (l.drop k) (k:Int)=R,λ_ i=>(l.length-i).toNat,⟨0,rfl,by omega,by simp,hR⟩,?_⟩;rintro out _ ⟨k,rfl,hk,ho,hg⟩;refine⟨λhi=>?_,λhi=>?_⟩
 .have hi:=aF hi;have hI:(0:Int)<=(k:Int)/\(k:Int)<(l.length:Int):=⟨by omega,hi⟩
  rw[wz (l:=l) (i:=k) (by omega),yz,←bV]at hg;refine⟨hI,λw=>?_,λw=>⟨hI,hI,?_⟩⟩
  .unfold VC11_J2 wI eM;rw[if_neg (by simpa using w),fT]at hg;rw[dj (by omega) (by omega)];exact⟨⟨k+1,by push_cast;rfl,by omega,by omega,by push_cast;exact hg⟩,by first|omega|(dsimp only;omega)⟩
  .rw[if_pos (by simpa using w)]at hg;generalize hF:fwd (gi l (k:Int)).cE (l.drop (k+1)) ((k:Int)+1)=F at hg;rw[dj (by omega) (by omega)];refine⟨λajn q a b d e r=>out=ajn/\a=(gi l (k:Int)).cE/\b=(gi l (k:Int)).N/\d=(k:Int)/\∃q':Nat,q=(q':Int)/\q'<=l.length/\((e=-1/\r=-1/\fwd (gi l (k:Int)).cE (l.drop q') (q':Int)=F)∨(e≥0/\(e,r)=F)),λ_ q _ _ _ _ _=>(l.length-q).toNat,⟨rfl,rfl,rfl,rfl,k+1,by push_cast;rfl,by omega,.inl ⟨rfl,rfl,by push_cast;exact hF⟩⟩,?_⟩;rintro _ _ _ _ _ e r ⟨rfl,rfl,rfl,rfl,q,rfl,hq,im⟩;refine⟨λh2=>?_,λh2=>?_⟩
   .rw[ak,aR,aR]at h2;have hQ:(0:Int)<=(q:Int)/\(q:Int)<(l.length:Int):=⟨by omega,h2.1⟩
    rcases im with⟨rfl,rfl,hf⟩|⟨h3,_⟩
    .rw[wz (l:=l) (i:=q) (by omega),fwd]at hf;refine⟨hQ,hI,λh4=>⟨hQ,?_⟩,λh4=>?_⟩
     .rw[if_pos (by simpa using h4)]at hf;unfold VC11_J4 wI n7P;rw[dj (by omega) (by omega)];exact⟨⟨rfl,rfl,rfl,rfl,q+1,by push_cast;rfl,by omega,.inr ⟨by omega,hf⟩⟩,by first|omega|(dsimp only;omega)⟩
     .rw[if_neg (by simpa using h4)]at hf;unfold VC11_J4 wI n7P;rw[dj (by omega) (by omega)];exact⟨⟨rfl,rfl,rfl,rfl,q+1,by push_cast;rfl,by omega,.inl ⟨rfl,rfl,by push_cast;exact hf⟩⟩,by first|omega|(dsimp only;omega)⟩
    .omega
   .have hF2:(e,r)=F:=by
     rcases im with⟨rfl,rfl,hf⟩|⟨_,h3⟩
     .rw[mN,bp,bp]at h2;rw[dT (by omega)]at hf;exact hf
     omega
    unfold VC11_J3 VC11_J2 wI eM;rw[dj (by omega) (by omega)];rw[←hF2]at hg;exact⟨by simp;omega,⟨k+1,by push_cast;rfl,by omega,by simp;omega,by push_cast;exact hg⟩,by first|omega|(dsimp only;omega)⟩
 .have hi:=aL hi;unfold VC11_J1;rw[dT (by omega),yz,fT]at hg;rw[hg]
theorem P9{α:Type}[Inhabited α]{l:List α}{i:Int}(h0:0<=i)(h:i<l.length):l.drop i.toNat=gi l i::l.drop (i+1).toNat:=by
 have h1:i.toNat<l.length:=by omega
 rw[kR h0 h,sR h1];congr 2;omega
theorem Em{α:Type}[Inhabited α]{l:List α}{i:Int}(h0:0<=i)(h:i<l.length):l.take (i+1).toNat=l.take i.toNat++[gi l i]:=by
 have h1:i.toNat<l.length:=by omega
 rw[kR h0 h,show(i+1).toNat=i.toNat+1 by omega,wD h1]
theorem Mi(l:Int):varOf l≠0↔l≠0/\-100000<=l/\l<=100000:=by
 unfold varOf;repeat' split
 all_goals omega
theorem v228(l vars:Int)(hp:MO l vars):VC228 l vars (λr=>r=iP l vars):=by
 unfold VC228 iP wI dE;obtain⟨h0,h1⟩:=hp;rw[dj (by omega) (by omega),show(0-vars:Int)=-vars by omega]
theorem abM(l vars:Int):iP l vars=true↔l≠0/\-vars<=l/\l<=vars:=by
 unfold iP;simp;omega
theorem v302(l:Int):VC302 l (λr=>r=xC l):=by
 refine⟨⟨by omega,by omega⟩,?_⟩;rintro _ rfl;rw[jQ,abM];unfold xC;have:=Mi l;simp only[fJ];rw[this]
theorem v229(l:Int):VC229 l (λr=>r=kN l):=by
 unfold VC229 iF wI;rintro _ rfl;unfold xC kN;refine⟨λh=>?_,λh=>?_⟩
 .have h:varOf l=0:=by simpa using h
  rw[h]
 .have h:varOf l≠0:=by simpa using h
  have:=(Mi l).1 h;rw[dj (by omega) (by omega)];unfold varOf;repeat' split
  all_goals omega
theorem Vr{f:Int->Bool}{c:List Int}{i:Int}(h0:0<=i)(hi:i<c.length)(hz:(c.take i.toNat).any f=false)(h:f (gi c i)=false):(c.take (i+1).toNat).any f=false:=by
 rw[Em h0 hi,List.any_append,hz];simp[h]
theorem CZ(f:Int->Bool)(x:Int)(r:List Int)(k:Int):nV f (x::r) k=if f x then k else nV f r (k+1):=rfl
theorem T9{f:Int->Bool}{c:List Int}{i:Int}(h0:0<=i)(hi:i<c.length)(hz:(c.take i.toNat).any f=false)(h:f (gi c i)=true):idxOf f c=i:=by
 have key:∀(a:List Int)(b:List Int)(k:Int),a.any f=false->nV f (a++b) k=nV f b (k+a.length):=by
  intro a
  induction a with
  |nil=>intro b k _;simp
  |cons x a ih=>intro b k ha;rw[fB,cO]at ha;rw[jK,CZ,if_neg (by simp[ha.1]),ih b (k+1) ha.2,bc];congr 1;omega
 have e:c=c.take i.toNat++gi c i::c.drop (i+1).toNat:=by rw[←P9 h0 hi,lC]
 unfold idxOf;rw[e,key _ _ 0 hz,CZ,if_pos h];simp;omega
theorem CY{f:Int->Bool}:∀{c:List Int} (k:Int),c.any f=false->nV f c k=-1
 |[],k,_=>rfl
 |x::c,k,h=>by rw[fB,cO]at h;unfold nV;rw[if_neg (by simp[h.1])];exact CY _ h.2
theorem abQ{f:Int->Bool}(c:List Int):decide (idxOf f c≥0)=c.any f:=by
 cases h:c.any f with
 |false=>unfold idxOf;rw[CY 0 h];decide
 |true =>
  have key:∀(c:List Int)(k:Int),0<=k->c.any f=true->0<=nV f c k:=by
   intro c
   induction c with
   |nil=>intro k _ h;simp at h
   |cons x c ih =>
    intro k hk h;unfold nV;split
    .exact hk
    .rename_i hx;rw[fB]at h;simp[hx]at h;exact ih (k+1) (by omega) (by simpa using h)
  exact jP (key c 0 (by omega) h)
theorem v231(n lo:Int):VC231 n lo (λr=>r=mr n lo):=by
 unfold VC231 mr VX dE;rw[Bool.not_not]
theorem v230_231(c:List Int)(lo:Int):VC230_231 c lo (λr=>r=cQ c lo):=by
 unfold VC230_231 iF bD lN wI dE oM oK;intro A7;simp only[sm]at A7;unfold VC230_231_J1 cQ;refine⟨λi=>0<=i/\i<=c.length/\(c.take i.toNat).any (λn=>!(VX lo n))=false,λi=>(c.length-i).toNat,⟨by omega,by omega,by simp⟩,?_⟩;rintro i ⟨h0,h1,hz⟩;refine⟨λhi=>?_,λhi=>?_⟩
 .have hi:=aF hi;rw[dj (n:=i+1) (by omega) (by omega)];refine⟨⟨h0,hi⟩,?_⟩;rintro _ rfl;refine⟨λh=>(T9 (f:=λn=>!(VX lo n)) h0 hi hz h).symm,λh=>⟨⟨by omega,by omega,Vr (f:=λn=>!(VX lo n)) h0 hi hz h⟩,by first|omega|(dsimp only;omega)⟩⟩
 .have hi:=aL hi;rw[show i.toNat=c.length by omega,gT]at hz;exact(CY 0 hz).symm
theorem v169_231(c:List Int)(lo:Int):VC169_231 c lo (λr=>r=dA c lo):=by
 unfold VC169_231 dE;intro _;rintro _ rfl;exact abQ c
theorem YR(c:List Int)(f:Int->Bool):(!(c.any λn=>!(f n)))=c.all f:=by
 induction c with
 |nil=>rfl
 |cons x c ih=>rw[fB,cd,←ih];cases f x<;>simp
theorem v171(l:List Int)(lo:Int):VC171 l lo (λr=>r=jv l lo):=by
 unfold VC171 iF lN dE;intro _;unfold jv FO;refine⟨λh=>?_,λh=>?_⟩
 .have h:=aF h;rintro _ rfl;have:decide (l.length<=1000)=true:=jP (by omega);rw[this,jg];exact YR l (VX lo)
 .have h:=aL h;have:decide (l.length<=1000)=false:=kY (by omega);rw[this,Bool.false_and]
theorem v4(l:List cz):VC4 l (λr=>r=wh l):=by
 unfold VC4 iF bD lN dE oM;intro A7;simp only[sm]at A7;unfold VC4_J1 VC4_J2 wh iF wI oK;refine⟨λh=>?_,λh=>?_⟩
 .have h:=aF h;have:decide (l.length<=200)=false:=kY (by omega);rw[this];rfl
 .have h:=aL h;have:decide (l.length<=200)=true:=jP (by omega);rw[this,jg];refine⟨λi=>0<=i/\i<=l.length/\(l.take i.toNat).all (λs=>decide (s.mT.length<=60)&&decide (s.Hints.length<=200))=true,λi=>(l.length-i).toNat,⟨by omega,by omega,by simp⟩,?_⟩;rintro i ⟨h0,h1,hz⟩;refine⟨λhi=>?_,λhi=>?_⟩
  .have hi:=aF hi;rw[dj (n:=i+1) (by omega) (by omega)];have bad:(decide ((gi l i).mT.length<=60)&&decide ((gi l i).Hints.length<=200))=false->false=l.all (λs=>decide (s.mT.length<=60)&&decide (s.Hints.length<=200)):=λhn=>by rw[eq_comm,List.all_eq_false];exact⟨_,dq h0 hi,by rw[hn];simp⟩
   refine⟨⟨h0,hi⟩,λ_=>⟨λa=>⟨λ_=>bad ?_,λx=>by simp at x⟩,λa=>⟨⟨h0,hi⟩,λ_=>⟨λb=>bad ?_,λb=>⟨⟨by omega,by omega,?_⟩,by first|omega|(dsimp only;omega)⟩⟩⟩⟩⟩
   .have a:=aF a;rw[kY (show ¬(gi l i).mT.length<=60 by omega),Bool.false_and]
   .have b:=aF b;rw[kY (show ¬(gi l i).Hints.length<=200 by omega),px]
   .have a:=aL a;have b:=aL b;rw[Em h0 hi,jR,hz];simp only[cd,List.all_nil];rw[jP (show(gi l i).mT.length<=60 by omega),jP (show(gi l i).Hints.length<=200 by omega)];rfl
  .have hi:=aL hi;rw[show i.toNat=l.length by omega,gT]at hz;exact hz.symm
theorem v122(a b:aj):VC122 a b (λ_=>True):=trivial
theorem v64(l:List aj):VC64 l (λ_=>True):=by
 unfold VC64 iF bD lN dE oM fj;intro hs;refine⟨λ_=>trivial,λh=>?_⟩;have h:=aL h;refine⟨λx=>0<=x/\x<=l.length,λx=>(l.length-x).toNat,⟨by omega,by omega⟩,?_⟩;rintro x ⟨x0,x1⟩;refine⟨λhx=>?_,λ_=>trivial⟩;have hx:=aF hx;refine⟨⟨x0,hx⟩,λ_=>trivial,λ_=>⟨λ_=>trivial,λ_=>⟨λ_=>trivial,λ_=>?_⟩⟩⟩;refine⟨λ_ k=>0<=k/\k<=x,λ_ k=>(x-k).toNat,⟨by omega,by omega⟩,?_⟩;rintro o k ⟨k0,k1⟩;unfold VC64_J4 VC64_J3 VC64_J2 iF bD wI eM oK;rw[dj (n:=k+1) (by omega) (by omega),dj (n:=x+1) (by omega) (by omega)];refine⟨λhk=>?_,λ_=>⟨λ_=>trivial,λ_=>⟨⟨by omega,by omega⟩,by dsimp only;omega⟩⟩⟩;have hk:=aF hk
 repeat' first|trivial|omega|(dsimp only;omega)|apply And.intro|intro _
theorem v186(n m:Int):VC186 n m (λ_=>True):=λ_ _=>⟨λ_=>trivial,λ_=>trivial⟩
theorem v187(n m p:Int):VC187 n m p (λ_=>True):=λ_ _=>⟨λ_=>trivial,λ_=>trivial⟩
theorem v188(n m:Int):VC188 n m (λ_=>True):=λ_ _=>⟨λ_=>trivial,λ_=>trivial⟩
theorem v189(n m e:Int):VC189 n m e (λ_=>True):=by
 unfold VC189 iF wI dE fj;rintro _ rfl;refine⟨λ_=>trivial,λh=>?_⟩;simp only[cO,gq]at h;have hc:=iQ h.1.1;refine⟨λ_ x=>0<=x/\x<=n,λ_ x=>(n-x).toNat,⟨by omega,by omega⟩,?_⟩;rintro s x ⟨x0,x1⟩;unfold VC189_J2 wI eM;rw[dj (n:=x+1) (by omega) (by omega)];refine⟨λhx=>?_,λ_=>trivial⟩;grind
theorem v67(a b c d:Int):VC67 a b c d (λ_=>True):=trivial
theorem v70(a b c d:Int):VC70 a b c d (λ_=>True):=trivial
theorem v72(a b c:Int):VC72 a b c (λ_=>True):=trivial
theorem v73(o:ae)(x:aj)(s:Int):VC73 o x s (λ_=>True):=λ_ _ _=>⟨λ_=>trivial,λ_=>trivial⟩
theorem v190(l:List aj)(hp:AB l):VC190 l (λ_=>True):=by
 unfold VC190 iF bD lN dE fj;intro hs;unfold AB at hp;refine⟨λq x=>0<=x/\x<=l.length/\q.length<=x,λ_ x=>(l.length-x).toNat,⟨by omega,by omega,by simp⟩,?_⟩;rintro q x ⟨x0,x1,x2⟩;unfold VC190_J2 wI eM;rw[dj (n:=x+1) (by omega) (by omega)];refine⟨λhx=>?_,λ_=>trivial⟩;grind
theorem pm{a b m:Nat}(h:a<m):a*b+b<=m*b:=by
 have:(a+1)*b<=m*b:=cP b h;grind
theorem v31(l:List aj)(hp:AB l):VC31 l (ot l):=by
 unfold VC31 iF bD lN dE fj;intro hs;have hm:=gn hp hp;refine⟨λq x=>0<=x/\x<=l.length/\q.length<=x.toNat*l.length,λ_ x=>(l.length-x).toNat,⟨by omega,by omega,by simp⟩,?_⟩;rintro q x ⟨x0,x1,x2⟩;refine⟨λhx=>?_,λhx=>?_⟩
 .have hx:=aF hx;have hpm:=@pm x.toNat l.length l.length (by omega);refine⟨λq x'=>0<=x'/\x'<=l.length/\q.length<=x.toNat*l.length+x'.toNat,λ_ x=>(l.length-x).toNat,⟨by omega,by omega,by omega⟩,?_⟩;rintro q k ⟨k0,k1,k2⟩;unfold VC31_J3 VC31_J2 wI eM;rw[dj (n:=k+1) (by omega) (by omega),dj (n:=x+1) (by omega) (by omega)];refine⟨λhk=>?_,λhk=>?_⟩
  .have hk:=aF hk;refine⟨⟨x0,hx⟩,⟨k0,hk⟩,λ_ _=>⟨λ_=>⟨by simp;omega,⟨by omega,by omega,by simp;omega⟩,by dsimp only;omega⟩,λ_=>⟨⟨by omega,by omega,by omega⟩,by dsimp only;omega⟩⟩⟩
  .have hk:=aL hk;refine⟨⟨by omega,by omega,?_⟩,by dsimp only;omega⟩;rw[show(x+1).toNat=x.toNat+1 by omega,Nat.add_mul];omega
 .have hx:=aL hx;rwa[show x.toNat=l.length by omega]at x2
theorem v123(n m:Int)(l:List aj)(hp:Ck n m l):VC123 n m l (λ_=>True):=by
 unfold VC123 iF lN;unfold Ck at hp;have j:∀b,VC123_J1 n m l (λ_=>True) b:=λb=>⟨λ_=>trivial,λ_ _ _=>⟨show _<=_ by omega,λ_ _ _ _ _ _ _=>⟨show _<=_ by omega,λ_ _ _ _ _=>trivial⟩⟩⟩
 exact λ_ _ _=>⟨λ_=>j _,λ_ _ _=>j _⟩
theorem v65(n m:Int)(l:List aj)(hp:Ck n m l):VC65 n m l (λ_=>True) :=
 λ_=>⟨hp,λ_ _=>⟨λ_=>trivial,λ_=>⟨λ_=>trivial,λ_=>trivial⟩⟩⟩
theorem v28(o:ae)(l:List aj):VC28 o l (uT o l):=by
 unfold VC28 iF lN dE;intro _ _ _ _ _ _;refine⟨λ_ h=>?_,λ_=>⟨λ_ h=>?_,λh=>?_⟩⟩
 .cases h
 .cases h
 .have h:=aL h;have:l.length<=64:=by omega
  exact⟨this,λ_ _ _=>this⟩
theorem v68(l:List Int)(hp:H4 l):VC68 l (kg l):=by
 unfold VC68 iF bD lN wI dE fj eM;intro hs;have hm:=gn hp hp;refine⟨λq x=>0<=x/\x<=l.length/\q.length<=x.toNat*l.length,λ_ x=>(l.length-x).toNat,⟨by omega,by omega,by simp⟩,?_⟩;rintro q x ⟨x0,x1,x2⟩;refine⟨λhx=>?_,λhx=>?_⟩
 .have hx:=aF hx;have hpm:=@pm x.toNat l.length l.length (by omega);rw[dj (n:=x+1) (by omega) (by omega)];refine⟨λq x'=>0<=x'/\x'<=l.length/\q.length<=x.toNat*l.length+x'.toNat,λ_ x=>(l.length-x).toNat,⟨by omega,by omega,by omega⟩,?_⟩;rintro q k ⟨k0,k1,k2⟩;unfold VC68_J2 wI eM;rw[dj (n:=k+1) (by omega) (by omega),dj (n:=x+1) (by omega) (by omega)];refine⟨λhk=>?_,λhk=>?_⟩
  .have hk:=aF hk;exact⟨⟨x0,hx⟩,⟨k0,hk⟩,by simp;omega,⟨by omega,by omega,by simp;omega⟩,by dsimp only;omega⟩
  .have hk:=aL hk;refine⟨⟨by omega,by omega,?_⟩,by dsimp only;omega⟩;rw[show(x+1).toNat=x.toNat+1 by omega,Nat.add_mul];omega
 .have hx:=aL hx;rwa[show x.toNat=l.length by omega]at x2
theorem v71(o:ae)(l:List aj):VC71 o l (xr o l):=by
 unfold VC71 iF lN;exact λ_ _ _ _ _ _=>⟨λ_=>⟨by simp,by simp only;omega⟩,λ_=>⟨by simp only;omega,by simp only;omega⟩⟩
theorem v29(n m:Int):VC29 n m (nT n m):=by
 unfold VC29 iF wI dE fj IH GD;rintro _ rfl;refine⟨λ_=>by show _<=_;simp,λh=>?_⟩;rw[gq]at h;obtain⟨c0,c1,_,_⟩:=iQ h;refine⟨λq x=>0<=x/\x<=n/\q.length<=5000*x.toNat,λ_ x=>(n-x).toNat,⟨by omega,by omega,by simp⟩,?_⟩;rintro q x ⟨x0,x1,x2⟩;refine⟨λhx=>?_,λ_=>?_⟩
 .have hx:=aF hx;refine⟨λq l k=>0<=k/\k<=n/\q.length<=5000*x.toNat/\l.length<=k,λ_ _ k=>(n-k).toNat,⟨by omega,by omega,x2,by simp⟩,?_⟩;rintro q l k ⟨k0,k1,k2,k3⟩;rw[dj (n:=k+1) (by omega) (by omega)];refine⟨λhk=>?_,λ_=>?_⟩
  .have hk:=aF hk;exact λ_ _=>⟨by simp;omega,⟨by omega,by omega,k2,by simp;omega⟩,by dsimp only;omega⟩
  .unfold VC29_J4 wI eM;rw[dj (n:=x+1) (by omega) (by omega)];refine⟨by simp;omega,show _<=_ by omega,λr hr _=>?_⟩;unfold kg at hr;have:=gn (show l.length<=64 by omega) (show l.length<=64 by omega);exact⟨by simp;omega,⟨by omega,by omega,by simp;omega⟩,by dsimp only;omega⟩
 .unfold VC29_J1 iF wI dE fj IH GD;refine⟨λq x=>0<=x/\x<=n/\q.length<=500000+5000*x.toNat,λ_ x=>(n-x).toNat,⟨by omega,by omega,by omega⟩,?_⟩;rintro q x ⟨x0,x1,x2⟩;refine⟨λhx=>?_,λ_=>by show _<=_;omega⟩;have hx:=aF hx;refine⟨λq l k=>0<=k/\k<=n/\q.length<=500000+5000*x.toNat/\l.length<=k,λ_ _ k=>(n-k).toNat,⟨by omega,by omega,x2,by simp⟩,?_⟩;rintro q l k ⟨k0,k1,k2,k3⟩;rw[dj (n:=k+1) (by omega) (by omega)];refine⟨λhk=>?_,λ_=>?_⟩
  .have hk:=aF hk;exact λ_ _=>⟨by simp;omega,⟨by omega,by omega,k2,by simp;omega⟩,by dsimp only;omega⟩
  .unfold VC29_J3 wI eM;rw[dj (n:=x+1) (by omega) (by omega)];refine⟨show _<=_ by omega,λr hr _=>?_⟩;unfold kg at hr;have:=gn (show l.length<=64 by omega) (show l.length<=64 by omega);exact⟨by omega,⟨by omega,by omega,by simp;omega⟩,by dsimp only;omega⟩
theorem v32(n m i:Int):VC32 n m i (nR n m i):=by
 unfold VC32 iF wI dE fj IH GD;rintro _ rfl;refine⟨λ_=>by show _<=_;simp,λh=>?_⟩;simp only[cO,gq]at h;obtain⟨c0,c1,c2,c3⟩:=iQ h.1.1;refine λ_ _=>⟨by simp,λq x=>0<=x/\x<=n+1/\q.length<=1+5000*x.toNat,λ_ x=>(n+1-x).toNat,⟨by omega,by omega,by simp⟩,?_⟩
 rintro q x ⟨x0,x1,x2⟩;refine⟨λhx=>?_,λ_=>by show _<=_;omega⟩;have hx:=aF hx;refine⟨λq l k=>0<=k/\k<=m/\q.length<=1+5000*x.toNat/\l.length<=k,λ_ _ k=>(m-k).toNat,⟨by omega,by omega,x2,by simp⟩,?_⟩;rintro q l k ⟨k0,k1,k2,k3⟩;rw[dj (n:=k+1) (by omega) (by omega)];refine⟨λhk=>?_,λ_=>?_⟩
 .have hk:=aF hk;exact λ_ _=>⟨by simp;omega,⟨by omega,by omega,k2,by simp;omega⟩,by dsimp only;omega⟩
 .unfold VC32_J2 wI eM;rw[dj (n:=x+1) (by omega) (by omega)];refine⟨by simp;omega,show _<=_ by omega,λr hr _=>?_⟩;unfold kg at hr;have:=gn (show l.length<=64 by omega) (show l.length<=64 by omega);exact⟨by simp;omega,⟨by omega,by omega,by simp;omega⟩,by dsimp only;omega⟩
theorem v30(n m:Int)(p:List (Int×Int))(hp:MQ n m p):VC30 n m p (nS n m p):=by
 unfold VC30 iF lN dE fj;intro hs;unfold MQ at hp;refine⟨λq x=>0<=x/\x<=p.length/\q.length<=5000*x.toNat,λ_ x=>(p.length-x).toNat,⟨by omega,by omega,by simp⟩,?_⟩;rintro q x ⟨x0,x1,x2⟩;refine⟨λhx=>?_,λ_=>⟨λh=>(by cases h),λ_=>by show _<=_;omega⟩⟩;have hx:=aF hx;rintro _ rfl;refine⟨λhc=>⟨⟨x0,hx⟩,⟨x0,hx⟩,?_⟩,λ_=>by show _<=_;omega⟩;have hc:=iQ (eq_of_beq hc);unfold VC30_J3 wI eM;rw[dj (n:=x+1) (by omega) (by omega)];refine⟨λ_=>⟨⟨by omega,by omega,by omega⟩,by dsimp only;omega⟩,λ_=>?_⟩;refine⟨λq a=>0<=a/\a<=n/\q.length<=5000*x.toNat+64*a.toNat,λ_ a=>(n-a).toNat,⟨by omega,by omega,by omega⟩,?_⟩;rintro q a ⟨a0,a1,a2⟩;refine⟨λha=>?_,λha=>⟨⟨by omega,by omega,by omega⟩,by dsimp only;omega⟩⟩;refine⟨λq b=>0<=b/\b<=a/\q.length<=5000*x.toNat+64*a.toNat+b.toNat,λ_ b=>(a-b).toNat,⟨by omega,by omega,by omega⟩,?_⟩;rintro q b ⟨b0,b1,b2⟩;unfold VC30_J4 wI eM;grind[dj,only]
theorem v33(o:ae)(l:List aj):VC33 o l (nQ o l):=by
 unfold VC33 iF bD dE fj;rintro _ hs ⟨n,m⟩ ⟨n0,n1⟩ _ rfl;refine⟨λ_=>by show _<=_;simp,λh=>?_⟩;rw[gq]at h;obtain⟨c0,c1,c2,c3⟩:=iQ h;refine⟨λq x=>0<=x/\x<=n/\q.length<=5000*x.toNat,λ_ x=>(n-x).toNat,⟨by omega,by omega,by simp⟩,?_⟩;rintro q x ⟨x0,x1,x2⟩;refine⟨λhx=>?_,λ_=>by show _<=_;omega⟩;have hx:=aF hx;intro r _;have j:∀q1:List (List Int),q1.length<=q.length+1->VC33_J3 o l (n,m) (λq x=>0<=x/\x<=n/\q.length<=5000*x.toNat) (λ_ x=>(n-x).toNat) q x r q1:=by
  intro q1 h1;refine⟨λq k=>0<=k/\k<=n/\q.length<=5000*x.toNat+1+64*k.toNat,λ_ a=>(n-a).toNat,⟨by omega,by omega,by omega⟩,?_⟩;rintro q2 k ⟨k0,k1,k2⟩;refine⟨λhk=>?_,λhk=>?_⟩
  .have hk:k<n:=aF hk;refine⟨λq b=>0<=b/\b<=m/\q.length<=5000*x.toNat+1+64*k.toNat+2*b.toNat,λ_ b=>(m-b).toNat,⟨by omega,by omega,by omega⟩,?_⟩;rintro q3 b ⟨b0,b1,b2⟩;refine⟨λhb=>?_,λhb=>?_⟩
   .have hb:b<m:=aF hb;intro r1 _ r2 _;have j6:∀q4:List (List Int),q4.length<=q3.length+1->VC33_J6 l (n,m) x r k (λq b=>0<=b/\b<=m/\q.length<=5000*x.toNat+1+64*k.toNat+2*b.toNat) (λ_ b=>(m-b).toNat) q3 b r1 r2 q4:=by intro q4 h4;unfold VC33_J6 VC33_J5 iF bD wI eM;grind[dj,only]
    exact⟨⟨x0,by omega⟩,λ_ _=>⟨λ_ _ _=>⟨by simp;omega,j6 _ (by simp)⟩,λ_=>⟨by simp;omega,j6 _ (by simp)⟩⟩⟩
   .have hb:¬b<m:=aL hb;unfold VC33_J4 wI eM;rw[dj (n:=k+1) (by omega) (by omega)];exact⟨⟨by omega,by omega,by omega⟩,by dsimp only;omega⟩
  .unfold VC33_J2 wI eM;rw[dj (n:=x+1) (by omega) (by omega)];exact⟨⟨by omega,by omega,by omega⟩,by dsimp only;omega⟩
 grind
theorem v12(o:ae)(l:List aj):VC12 o l (λ_=>True):=by
 unfold VC12 iF lN wI;intro _ _ r1 h1;refine⟨λ_=>trivial,λh=>λr2 h2 _=>?_⟩;have hl:=h1 (by simpa using h);unfold nT at h2;refine⟨by simp;omega,show _<=_ by omega,λr3 h3 _=>?_⟩;unfold ot at h3;have:=gn hl hl;refine⟨show _<=_ by omega,λr4 h4 _=>?_⟩;unfold nS at h4;refine⟨by simp;omega,λr5 h5 _=>?_⟩;unfold nR at h5;refine⟨by simp;omega,λr6 h6 _=>?_⟩;unfold nQ at h6;grind
theorem v378(n:Int):VC378 n (λ_=>True):=trivial
theorem v295(s:ab):VC295 s (λ_=>True):=λ_ _=>trivial
theorem v296(s:ab):VC296 s (λ_=>True):=λ_ _=>⟨λ_=>trivial,λ_ _ _=>trivial⟩
theorem v297(s:ab)(n:Int):VC297 s n (λ_=>True):=λ_ _=>⟨λ_=>trivial,λ_ _ _=>trivial⟩
theorem v298(s:ab):VC298 s (λ_=>True):=λ_ _=>⟨λ_=>trivial,λ_ _ _=>trivial⟩
theorem v299(s:ab)(n:Int):VC299 s n (λ_=>True):=λ_ _=>⟨λ_=>trivial,λ_=>trivial⟩
theorem v300(l:List aj)(hp:gh l):VC300 l (λ_=>True):=by
 unfold VC300 iF bD lN dE fj;intro hs;unfold gh at hp;refine⟨λq x=>0<=x/\x<=l.length/\q.length<=x,λ_ x=>(l.length-x).toNat,⟨by omega,by omega,by simp⟩,?_⟩;rintro q x ⟨x0,x1,x2⟩;unfold VC300_J2 wI eM;rw[dj (n:=x+1) (by omega) (by omega)];refine⟨λhx=>?_,λ_=>trivial⟩;have hx:=aF hx;exact⟨⟨x0,hx⟩,λ_=>⟨by simp;omega,⟨by omega,by omega,by simp;omega⟩,by dsimp only;omega⟩,λ_=>⟨⟨by omega,by omega,by omega⟩,by dsimp only;omega⟩⟩
theorem v301(n c:Int):VC301 n c (λ_=>True):=trivial
theorem v151(s:ab)(l:List aj):VC151 s l (λ_=>True):=by
 unfold VC151 iF dE;have j:∀b,VC151_J1 (λ_=>True) b:=λb=>⟨λ_=>trivial,λ_=>trivial⟩
 exact λ_ _ _=>⟨λ_=>trivial,λ_=>⟨λ_=>j _,λ_ _ _=>j _⟩⟩
theorem v226(s:ab)(l:List aj):VC226 s l (λ_=>True):=by
 unfold VC226 iF lN;rintro _ _ rfl;refine⟨λ_=>⟨λ_=>trivial,λh=>(by cases h)⟩,λhc=>λ_ _=>⟨λ_=>trivial,λ_=>?_⟩⟩;have hl:gh l:=by
  have hc:(cU l).2=0:=by simpa using hc
  unfold cU at hc;split at hc
  .cases hc
  .unfold gh;omega
 have p9:∀a b c,VC226_P9 a b c (λ_=>True):=by unfold VC226_P9 fj iF dE bD wI eM;intro a b c d _;refine⟨λx _=>0<=x/\x<=4,λx _=>(4-x).toNat,⟨by omega,by omega⟩,?_⟩;rintro x _ ⟨x0,x1⟩;rw[dj (n:=x+1) (by omega) (by omega)];refine⟨λhx=>?_,λ_=>trivial⟩;have hx:=aF hx;exact⟨⟨x0,by simp;omega⟩,λ_ _=>⟨⟨by omega,by omega⟩,by dsimp only;omega⟩⟩
 have p7:∀a b c,VC226_P7 a l b c (λ_=>True):=λ_ _ _=>⟨hl,λ_ _ _=>p9 _ _ _⟩
 have p5:∀a b,VC226_P5 a l b (λ_=>True):=λ_ _ _ _=>p7 _ _ _;have p3:∀a,VC226_P3 l a (λ_=>True):=λ_ _ _=>p5 _ _;have p1:∀a,VC226_P1 a l (λ_=>True):=λ_=>⟨hl,λ_ _ _=>p3 _⟩
 exact⟨λ_ _=>⟨⟨hl,λ_ _ _=>⟨⟨λ_ _=>⟨λ_ _=>⟨⟨hl,λ_ _ _=>⟨a2 (p9 _ _ _),p9 _ _ _⟩⟩,p7 _ _ _⟩,p5 _ _⟩,p3 _⟩,p3 _⟩⟩,p1 _⟩,λ_ _=>p1 _⟩
theorem v98(o:ae)(l:List aj)(h:Ci o l):VC98 o l (vz o l):=by
 unfold VC98 iF lN dE;refine λ_ _=>⟨h,?_⟩
 rintro _ rfl _ rfl;refine⟨λ_ hz=>(by cases hz),λhc=>⟨λ_ hz=>(by cases hz),λhl=>⟨h,?_⟩⟩⟩;rintro _ rfl;have hl:=aL hl;simp only[cO,gq]at hc;exact λ_ _ _=>⟨hc.1,hc.2,by omega,rfl⟩
theorem v47(o:ae)(l:List aj)(h:EF o l):VC47 o l (rz o l):=by
 unfold VC47 iF;obtain⟨ho,hl⟩:=h;refine λ_ _=>⟨ho,?_⟩
 rintro⟨r,e⟩ hz;refine⟨λhc=>⟨λ_=>rfl,λh=>absurd h (by simpa using hc)⟩,λhc=>?_⟩
 .have hg:=hz (by simpa using hc);obtain⟨e1,_,_,_,hk⟩:=Bl hg;dsimp only at e1 hg ⊢; subst e1;generalize hs:bu o l=s at *; obtain⟨c0,c1,c2,c3⟩:=iQ hk;rintro _ rfl _;refine⟨show l.length<=5000 by omega,?_⟩;rintro _ rfl _;have A9:(dL l).length<=16:=by have:=Cq l l.length l.length;have h9:l.length*l.length<=4*4:=gn hl hl;exact bP this h9
  refine⟨show(dL l).length<=1000 by omega,?_⟩;rintro _ rfl _ _ rfl _;refine⟨⟨ho,hl⟩,?_⟩;rintro _ rfl _;have hP:(di s).length<=1000000:=by
   unfold di;rw[if_pos hk,aS];have hp1:=sB (λa=>JV (s:=s) c1 a) s.bI.toNat
   have hp2:=sB (λa=>JW (s:=s) c1 a) s.bI.toNat
   omega
  have hT:(ew s (dL l)).length<=1000000:=by unfold ew;rw[if_pos hk];have:=Hl c1 (dL l);omega
  have hS:(dh s o.eZ).length<=1000000:=by
   unfold dh;split
   .have:=JU hk (s.bI+1).toNat
    simp only[bc];omega
   .simp
  have hM:(eA o l).length<=1000000:=by unfold eA;rw[hs,if_pos hk];have:=wq (M9 o l c1 c3) (List.range l.length);rw[sO]at this;omega
  refine⟨⟨by simp,by simp only[List.flatten_cons,List.flatten_nil,aS,cN];omega,?_⟩,?_⟩
  .intro p hp c hcl;simp only[aE,pA,or_false]at hp;rcases hp with rfl|rfl|rfl|rfl
   .unfold di at hcl;rw[if_pos hk]at hcl;rcases aV.1 hcl with hcl|hcl
    .obtain⟨a,_,hcl⟩:=cf.1 hcl;unfold Hk at hcl;rcases aE.1 hcl with rfl|hcl
     .rw[yA];omega
     .rw[GG _ _ hcl];omega
    .obtain⟨a,_,hcl⟩:=cf.1 hcl;rw[GG _ _ hcl];omega
   .unfold ew at hcl;rw[if_pos hk]at hcl;obtain⟨p,_,hcl⟩:=cf.1 hcl;unfold iW at hcl;split at hcl
    .obtain⟨a,_,hcl⟩:=cf.1 hcl;obtain⟨b,_,rfl⟩:=aq.1 hcl;simp[qM]
    .cases hcl
   .unfold dh at hcl;split at hcl
    .rcases aE.1 hcl with rfl|hcl
     .simp
     .obtain⟨a,_,hcl⟩:=cf.1 hcl;unfold wQ at hcl;rcases aE.1 hcl with rfl|hcl
      .rw[vV];omega
      .rw[GG _ _ hcl];omega
    .cases hcl
   .unfold eA at hcl;rw[hs,if_pos hk]at hcl;obtain⟨i,_,hcl⟩:=cf.1 hcl;unfold yH at hcl;rcases aV.1 hcl with hcl|hcl
    .split at hcl
     .cases hcl
     .rcases aE.1 hcl with rfl|hcl
      .simp
      .cases hcl
    .obtain⟨k,_,hcl⟩:=cf.1 hcl;obtain⟨b,_,hcl⟩:=cf.1 hcl;unfold ux at hcl;rcases aE.1 hcl with rfl|hcl
     .unfold tC GF;split<;>simp
     .split at hcl
      .rcases aE.1 hcl with rfl|hcl
       .simp
       .cases hcl
      .cases hcl
  .rintro _ rfl _ _ rfl;exact⟨λh=>absurd rfl h,λ_=>⟨s,hg,rfl⟩⟩
theorem KZ{s:Bs}(h:(bZ s).2.2=0):Ea (bZ s).1.ga:=by
 have h:(nI s).2.2.2=0:=h;show Ea (nI s).1;unfold nI at h ⊢; split at h
 .cases h
 .rename_i h1;rw[if_neg h1];unfold JO at h ⊢; split at h
  .rename_i h2;exact absurd h h2
  .rename_i h2;rw[if_neg h2];split at h
   .rename_i h3;exact absurd h h3
   .rename_i h3;rw[if_neg h3];obtain⟨_,_,_,hc,_⟩:=te (fC h2);have hb:=(xO hc).1;unfold iX at hb;show Ea (bA (bF (cK s)) s.length).1;exact⟨GQ (by omega) (by omega),GQ (by omega) (by omega)⟩
theorem v18(s:Bs)(hp:wZ s):VC18 s (rE s):=by
 unfold VC18 iF;rintro _ rfl _ _;refine⟨λh=>⟨λ_=>rfl,λh2=>?_⟩,λh=>?_⟩
 .exact absurd (show(bZ s).2.2=0 from h2) (by simpa using h)
 have h:(bZ s).2.2=0:=by simpa using h
 rintro _ rfl _;refine⟨λh3=>⟨λ_=>rfl,λh2=>?_⟩,λh3=>⟨⟨KZ h,hp⟩,?_⟩⟩
 .exact absurd (show(lI (bZ s).1.lY).2=0 from h2) (by simpa using h3)
 intro r hr _;exact⟨λh4=>⟨λ_=>rfl,λh2=>absurd (show r.2=0 from h2) (by simpa using h4)⟩,λh4=>⟨λh2=>absurd rfl h2,λ_=>⟨h,hr.2 (by simpa using h4)⟩⟩⟩
theorem v7(s:Bs)(hp:wZ s):VC7 s (rF s):=⟨hp,λ_ hr _ _ _ _=>hr⟩
theorem v5(s:Bs):VC5 s (uS s):=by
 unfold VC5 iF;rintro _ rfl _ _;refine⟨λh=>⟨λh2=>?_,λ_=>rfl⟩,λh=>?_⟩
 .rw[h2]at h;cases h
 have h:(dv s).2.2.2=0:=by simpa using h
 rintro _ rfl _ _ _ _;exact⟨λ_=>⟨rfl,rfl⟩,λh2=>absurd h h2⟩
theorem v9(s:Bs)(hp:HZ s):VC9 s (yf s):=by
 unfold VC9 lN dE;intro r hr _ _ _;by_cases h:(dv s).2.2.2=0
 .obtain⟨h1,h2⟩:=hr.1 h;have hl:=hp h;refine⟨show r.L.length<=5 by rw[h2];omega,?_⟩;rintro _ rfl _ _;rw[h1,h2];refine decide_eq_decide.2 ⟨λh=>?_,λh=>?_⟩
  .rintro e;rw[e]at h;simp at h
  .have:=lB.2 h;omega
 .refine⟨show r.L.length<=5 by rw[hr.2 h];simp,?_⟩;exact λ_ _ _ h2=>absurd h2 h
theorem v167(a b:Int):VC167 a b (λ_=>True):=by
 unfold VC167 iF dE;refine⟨λ_=>trivial,λh=>⟨?_,λ_ _=>⟨λ_=>trivial,λ_=>trivial⟩⟩⟩;simp only[cO,bp]at h;exact⟨by omega,by omega⟩
theorem v168(c:List Int):VC168 c (λ_=>True):=by
 unfold VC168 iF bD lN wI dE fj;intro hs;unfold sm at hs;refine⟨λ_ x=>0<=x/\x<=c.length,λ_ x=>(c.length-x).toNat,⟨by omega,by omega⟩,?_⟩;rintro q x ⟨x0,x1⟩;unfold VC168_J2 wI eM;rw[dj (n:=x+1) (by omega) (by omega)];refine⟨λhx=>?_,λ_=>trivial⟩;have hx:=aF hx;exact⟨⟨x0,hx⟩,λ_ _=>⟨λ_=>⟨⟨by omega,by omega⟩,by dsimp only;omega⟩,λ_=>⟨⟨by omega,by omega⟩,by dsimp only;omega⟩⟩⟩
theorem v106(c:List Int)(v:Int):VC106 c v (pd c v):=by
 unfold VC106 iF bD lN wI dE oM oK;intro hs;unfold sm at hs;refine⟨λ_ h=>(by cases h),λ_=>⟨λ_ h=>(by cases h),λhl=>?_⟩⟩;have hl:=aL hl;have hl:c.length<=1000:=by omega
 refine⟨λx=>0<=x/\x<=c.length,λx=>(c.length-x).toNat,⟨by omega,by omega⟩,?_⟩;rintro x ⟨x0,x1⟩;rw[dj (n:=x+1) (by omega) (by omega)];refine⟨λhx=>?_,λ_ _ _=>⟨λ_ _=>hl,λ_ _=>hl⟩⟩;have hx:=aF hx;exact⟨⟨x0,hx⟩,λ_ _=>⟨λ_ _=>hl,λ_=>⟨⟨by omega,by omega⟩,by dsimp only;omega⟩⟩⟩
theorem v170(a:Int)(m:List (Int×Int)):VC170 a m (λ_=>True):=⟨λ_=>trivial,λ_=>trivial⟩
theorem v230_170(c:List Int)(m:List (Int×Int)):VC230_170 c m (λ_=>True):=by
 unfold VC230_170 iF bD lN wI dE oM oK;intro hs;unfold sm at hs;refine⟨λx=>0<=x/\x<=c.length,λx=>(c.length-x).toNat,⟨by omega,by omega⟩,?_⟩;rintro x ⟨x0,x1⟩;rw[dj (n:=x+1) (by omega) (by omega)];refine⟨λhx=>?_,λ_=>trivial⟩;have hx:=aF hx;exact⟨⟨x0,hx⟩,λ_ _=>⟨λ_=>trivial,λ_=>⟨⟨by omega,by omega⟩,by dsimp only;omega⟩⟩⟩
theorem v169_170(c:List Int)(m:List (Int×Int)):VC169_170 c m (λ_=>True):=λ_ _ _=>trivial
theorem v107(c:List Int):VC107 c (λ_=>True):=λ_ _ _ _ _=>trivial
theorem v48(f:bJ):VC48 f (Ak f):=by
 unfold VC48 iF bD lN wI dE oM oK;intro hs;refine⟨λ_ h=>(by cases h),λ_=>⟨λ_ h=>(by cases h),λhl=>?_⟩⟩;have hl:=aL hl;refine⟨λx=>0<=x/\x<=f.bL.length/\∀c∈f.bL.take x.toNat,c.length<=1000,λx=>(f.bL.length-x).toNat,⟨by omega,by omega,by simp⟩,?_⟩;rintro x ⟨x0,x1,x2⟩;rw[dj (n:=x+1) (by omega) (by omega)];refine⟨λhx=>?_,λhx=>?_⟩
 .have hx:=aF hx;refine⟨⟨x0,hx⟩,λ_ r hr=>⟨λhn h=>absurd (show r=0 from h) (by simpa using hn),λhz _ _=>⟨λ_ h=>(by cases h),λ_=>⟨⟨by omega,by omega,?_⟩,by dsimp only;omega⟩⟩⟩⟩;rw[fW x0 hx];intro c hc;rcases aV.1 hc with hc|hc
  .exact x2 c hc
  .rw[aY]at hc;rw[hc];exact hr (by simpa using hz)
 .have hx:=aL hx;rw[fc (by omega)]at x2;exact λ_=>⟨by omega,x2⟩
end
end Go.Proofs.Y
