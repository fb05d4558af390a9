/- Lemmas. Conditions: their own. -/
import Derived.Test.YtmgahplojkmcaaaGreatFWalksS
import Derived.Test.YtmgahplojkmcaaaGreatFQ
set_option linter.all false
namespace Go.Te
open Go Go.Sv Go.Proofs Go.Proofs.Y
open Go.Sort (Holds putRow)
open Go.RowKit (Below)
section
theorem YY{α β:Type}{R:α->β->Prop}{a:α}{l:List α}{q:List β}(h:FL R (a::l) q):∃b q',q=b::q'/\R a b/\FL R l q':=by
 cases q with
 |nil=>exact h.elim
 |cons b q'=>exact⟨b,q',rfl,h.1,h.2⟩
theorem YX{α β:Type}{R:α->β->Prop}{q:List β}(h:FL R [] q):q=[]:=by
 cases q with
 |nil=>rfl
 |cons b q'=>exact h.elim
theorem Nc{α:Type}:∀{m:List (Int×α)} {k:Int},(bB m k).isSome=true->k∈m.map (·.1)
 |[],_,h=>by cases h
 |(j,y)::m,k,h=>by
  unfold bB at h;by_cases hj:j=k
  .grind
  .rw[if_neg hj]at h;exact aw _ (Nc h)
section
variable{X:Cx}{s:TS}{E:En}{sy:Sy}{a:Act}{w w':World}{χ:Nat->Nat}
def YU(X:Cx)(o:Option Nat)(s:TS)(E:En)(a:Act)(w:World)(χ:Nat->Nat)(k:TS->Prop)(v:Value)(w':World):Prop :=
 ∃χ',Ev (λ_=>true) w χ w' χ'/\∃s' E' sy',k s'/\bX X s' E' sy' (a.put o v) w' χ'/\Hu X.nb o s s' E E' a (a.put o v) w w' χ χ'/\Fr (dl o) s s'
theorem HN(h:bX X s E sy a w χ){o:Option Nat}{k:TS->Prop}{q:List Int}(ht:newO s o 3 (.i .i64) q k)(hd:∀d,o=some d->d<X.n){v:Value}(hB:Below w.heap.size w w')(hb:q.length*8<=140737488355328)(hr:w'.ownsRow w.heap.size 3 1 v q.length (q.map encZ)):YU X o s E a w χ k v w':=by
 obtain⟨d,rfl⟩:=sd ht;obtain⟨cc,wO,hco,hcm⟩:=l7 E s;have ev:Ev eN w χ w' (λb=>if w.heap.size<=b then cc else χ b):=⟨hB.os,hB.tape,hB.output,hB.size,λb rr _=>⟨hB.block b rr,if_neg (by omega)⟩⟩
 have go:∀ad cp,v=.slice ad q.length cp->OS (bw (.i .i64)) 3 w' (λb=>if w.heap.size<=b then cc else χ b) cc ad q cp->YU X (some d) s E a w χ k v w':=λad cp e os=>by
  subst e;exact we h ht wO hco hcm ev (λc hc=>by cases hc) os (a':=a.put (some d) (.slice ad q.length cp)) ((h.st.ev ev λc hc=>rfl).put (sv:=V (.slice ad q.length cp)) (hd d rfl)) (K:=λa' w'=>∃χ',Ev (λ_=>true) w χ w' χ'/\∃s' E' sy',k s'/\bX X s' E' sy' a' w' χ'/\Hu X.nb (some d) s s' E E' a a' w w' χ χ'/\Fr (dl (some d)) s s')
   λs' E' sy' a' w2 χ' h1 h2 h3 h4=>⟨χ',⟨h2.lS.os.trans h.lS.os.symm,h2.lS.tape.trans h.lS.tape.symm,h2.lS.output.trans h.lS.output.symm,h3.m0.size,λb _ hp=>by cases hp⟩,s',E',sy',h1,h2,h3,h4⟩
 rcases hr.2 with⟨e,h0⟩|⟨g,cap,cur,e,hg,hc,h1,h2,h3,h4⟩
 .grind[List.eq_nil_of_length_eq_zero,OS.nil]
 .refine go _ _ e ⟨hb,.inr ⟨g,cur,rfl,if_pos hg,Row.zero hc,h1,h2,h3,λi x hx=>?_⟩⟩;show chunk cur 0 1 i=[.int .i64 x]
  have hi:(cur.toList.take (q.length*1))[i]?=some (.int .i64 x):=by grind
  unfold chunk;grind[List.drop_eq_getElem_cons]
def Rt:Value->Option (DataW Unit×List MemPlace):=λ_=>some (.lit (.bool true),[])
theorem aee{x:Int}(h:zl .i64 x):(Lit.int .i64 x).wf=true:=by
 obtain⟨h1,h2⟩:=h;have h1:(-9223372036854775808:Int)<=x:=h1;have h2:x<=(9223372036854775807:Int):=h2;simp[Lit.wf,IntKind.min,IntKind.max,IntKind.signed,IntKind.bits];omega
theorem Az{e:MapEntry}{x:Int}(h:e.key=.int .i64 x)(hw:zl .i64 x):WideElems.rd Tryz.prog 3 Rt e=some (.int .i64 x,.lit (.bool true)):=by
 unfold WideElems.rd;rw[h,Maps.keyOf_int_mk Tryz.underlying3 (aee hw)];rfl
theorem Sb{α:Type}{T:b9 α}{ag:Bool}:∀{es:List MapEntry} {l:List (Int×α)},EL kI T ag w χ es l->(∀p∈l,zl .i64 p.1)->(∀x∈es,∃y,WideElems.rd Tryz.prog 3 Rt x=some y)/\es.map (WideElems.rg Tryz.prog 3 Rt)=l.map λp=>(.int .i64 p.1,.lit (.bool true))
 |[],[],_,_=>⟨by simp,rfl⟩
 |e::es,(k,x)::l,h,hr=>by
  have h1:=Az (e:=e) (x:=k) h.1 (hr _ aI);obtain⟨i1,i2⟩:=Sb h.2.2 λp hp=>hr p (aw _ hp);refine⟨λy hy=>?_,?_⟩
  .grind
  .rw[ba,ba,i2];unfold WideElems.rg;grind
 |[],_::_,h,_=>h.elim
 |_::_,[],h,_=>h.elim
theorem WY{α:Type}{T:b9 α}{ag:Bool}{c r:Nat}{l:List (Int×α)}(h:OM kI T ag w χ c r l)(hl:l.length<=10000000)(hr:∀p∈l,zl .i64 p.1):w.ownsMap Tryz.prog 3 Rt r l.length (.map ((l.map λp=>((.int .i64 p.1:Lit),(.lit (.bool true):DataW Unit))).foldr DataW.insert [])):=by
 obtain⟨_,es,clock,h1,hs,h2⟩:=h;obtain⟨r1,r2⟩:=Sb h2 hr;have hz:es.size=l.length:=by rw[←cm];exact EL.len h2
 exact⟨es,clock,h1,⟨by rw[hz];exact bP hl (by decide),hs,r1⟩,by omega,by rw[r2]⟩
theorem GZ{α:Type}{l:List (Int×α)}{x:Int}:Maps.has (.map ((l.map λp=>((.int .i64 p.1:Lit),(.lit (.bool true):DataW Unit))).foldr DataW.insert [])) (.int .i64 x)=true↔(bB l x).isSome=true:=by
 rw[Maps.has_eq,nM];constructor
 .rintro⟨p,hp,hs⟩;obtain⟨q,hq,rfl⟩:=aq.1 (mem_sorted.1 hp);have:q.1=x:=by simpa[Lit.sameKey]using hs
  clear hp hs
  induction l with
  |nil=>cases hq
  |cons y l ih=>unfold bB;grind
 .intro hs;obtain⟨y,hy⟩:=bR.1 hs;refine⟨(.int .i64 x,.lit (.bool true)),mem_sorted.2 (aq.2 ⟨(x,y),?_,rfl⟩),by simp[Lit.sameKey]⟩
  induction l with
  |nil=>cases hy
  |cons z l ih=>unfold bB at hy;grind
theorem Wv{l:List Int}(h:l.Nodup):(l.mergeSort λx y=>decide (x<=y)).Pairwise (· < ·):=by
 have h1:(l.mergeSort λx y=>decide (x<=y)).Nodup:=(List.mergeSort_perm l _).nodup_iff.2 h;have h2:=List.pairwise_mergeSort (le:=λx y:Int=>decide (x<=y)) (λa b c h1 h2=>by simp at *; omega) (λa b=>by simp;omega) l;refine(h2.and h1).imp fun {a b} h=>?_;grind
theorem NZ{n id:Nat}{oH:List SV}(h:FL (fO w χ E s) [.s (.f n [] [.p id 0])] oH):oH=[.f (.func n) [] [.p id 0]]:=by
 obtain⟨sv,q,rfl,h1,h2⟩:=YY h;obtain rfl:=YX h2;obtain⟨f,c,rfl,h3,h4⟩:=(show ∃f c,sv=.f (.func n) f c/\FL (FR w χ) [] f/\FL (PR w χ) [.p id 0] c from h1)
 obtain rfl:=YX h3;obtain⟨y,q,rfl,h5,h6⟩:=YY h4;obtain rfl:=YX h6;rcases h5 with⟨i,o,e,rfl⟩|⟨v,_,hv⟩
 .grind
 .exact hv.elim
theorem JR(h:bX X s E sy a w χ){id:Nat}{x:TV}(e:bx s id=some [x]):∃sv,TR w χ E s x sv/\w.cell? ⟨E.ρ id,0,none⟩=some (aP E.ρ sv)/\E.ρ id<w.heap.size:=by
 obtain⟨t,ss,h1,h2⟩:=Ap h e;obtain⟨sv,q,rfl,h3,h4⟩:=YY h2;obtain⟨_,_,h5⟩:=h.st.boxes _ _ h1;refine⟨sv,h3,?_,gF h5⟩;unfold World.cell?; grind
end
theorem Tt:lE C4:=⟨by decide,by kernel_rfl,λX hX hp {s E sy a w χ vs oH o k} h hv hd ht=>by
 change B5 315 s o vs k at ht;unfold B5 at ht;split at ht
 .rename_i f id;obtain⟨hf,ht⟩:=dU ht;have hf:=aD hf;subst hf;split at ht
  .rename_i j hb;split at ht
   .rename_i c l hj;obtain⟨⟨hl,hr⟩,ht⟩:=ht;have:=NZ hv;subst this;obtain⟨sv,h1,h2,h3⟩:=JR h hb;obtain rfl:=TR.map (w:=w) (χ:=χ) h1 hj;have zW:=WY (h.aZ j _ hj) hl hr;have jh:Maps.size (.map ((l.map λp=>((.int .i64 p.1:Lit),(.lit (.bool true):DataW Unit))).foldr DataW.insert []))=l.length:=by rw[Maps.size_eq,length_sorted,da]
    refine Calls.mono (Tryz.OF (E.ρ id) 0 _ _ _ w h3 h2 zW (by rw[jh];exact bP hl (by decide)) (by rw[jh];omega)) ?_;rintro e w' ⟨v,ss,rfl,⟨hn,hm⟩,gk,_,hB⟩;have hlen:(ss.mergeSort λx y=>decide (x<=y)).length=ss.length:=List.length_mergeSort _;have hk:=ht (ss.mergeSort λx y=>decide (x<=y)) ⟨Wv hn,λx=>by rw[List.mem_mergeSort,hm x];exact GZ⟩;rw[←hlen]at gk;have hle:ss.length<=l.length:=by have:=hn.length_le_of_subset (l₂:=l.map (·.1)) λx hx=>Nc ((GZ (l:=l)).1 ((hm x).1 hx));grind
    obtain⟨χ',e1,e2⟩:=HN h hk hd hB (by rw[hlen];omega) gk;grind
   .cases ht
  .cases ht
 .cases ht⟩
theorem ac8(zs:List Int):(Lib.compact zs).length<=zs.length:=by
 unfold Lib.compact Lib.compactUpTo;grind
theorem XF{w:World}{χ:Nat->Nat}{a:Option Addr}{l:List Int}{c:Nat}(h:RS (bw (.i .i64)) w χ a l c):Tryz.Ints w.heap.size w (.slice a l.length c) l:=by
 by_cases hl:l=[]
 .subst hl;exact .inl ⟨a,c,rfl,rfl⟩
 .obtain⟨b,o,cells,e,fr,rfl,_,h2,h3⟩:=h.cells hl;refine .inr ⟨b,o,c,rfl,gF h2,λj x hx=>?_⟩;have h4:chunk cells o 1 j=[.int .i64 x]:=h3 j x hx;unfold chunk at h4;have h5:=b8 (λl=>l[0]?) h4;unfold World.cell?; grind
theorem Tu:lE C5:=⟨by decide,by kernel_rfl,λX hX hp {s E sy a w χ vs oH o k} h hv hd ht=>by
 change B4 174 s o vs k at ht;unfold B4 at ht;split at ht
 .rename_i f id;obtain⟨hf,ht⟩:=dU ht;have hf:=aD hf;subst hf;split at ht
  .rename_i l hb;have:=NZ hv;subst this;obtain⟨sv,h1,h2,h3⟩:=JR h hb;obtain⟨v,rfl,ad,cp,rfl,hR⟩:=(show ∃v,sv=V v/\∃a c,v=.slice a l.length c/\RS (bw (.i .i64)) w χ a l c from h1)
   have hbn:l.length*8<=140737488355328:=hR.JS;refine Calls.mono (Tryz.KC (E.ρ id) _ l (bP (show l.length<=140737488355328 by omega) (by decide)) hbn w h3 h2 (XF hR)) ?_;rintro e w' ⟨v,rfl,gk,hB⟩;have hlen:(l.mergeSort λx y=>decide (x<=y)).length=l.length:=List.length_mergeSort _;rw[←hlen]at gk;obtain⟨χ',e1,e2⟩:=HN h (ht _) hd hB (by rw[hlen];exact hbn) gk;grind
  .cases ht
 .cases ht⟩
section
variable{w w':World}{χ:Nat->Nat}
theorem adh{cells:Array Value}{i:Nat}{v:Value}(h:cells[i]?=some v):chunk cells 0 1 i=[v]:=by
 obtain⟨h1,h2⟩:=gw.1 h;unfold chunk;rw[Nat.mul_one,bh,sR (by simpa using h1)];grind
theorem Yx{cells:Array Value}{i:Nat}{v:Value}(h:chunk cells 0 1 i=[v]):cells[i]?=some v:=by
 unfold chunk at h;have h2:=b8 (λl=>l[0]?) h;grind
theorem MC{b q:Nat}{cells:Array Value}{zs ds:List Int}{cc:Nat}(hb:Row w b cells 3)(hc:χ b=cc)(hl:zs.length<=cells.size)(he:∀(i:Nat) x,zs[i]?=some x->cells[i]?=some (.int .i64 x))(hd:ds.length=zs.length):
  Holds (Value.int .i64) w b 0 zs.toArray/\Ev (gK cc) w χ (putRow (Value.int .i64) (Sort.ahead w q) b 0 ds.toArray) χ/\∃jA,Row (putRow (Value.int .i64) (Sort.ahead w q) b 0 ds.toArray) b jA 3/\jA.size=cells.size/\∀(i:Nat) x,ds[i]?=some x->jA[i]?=some (.int .i64 x):=by
 obtain⟨fr,h1,h2⟩:=hb;have hH:Holds (Value.int .i64) w b 0 zs.toArray:=λj hj=>by
  refine⟨?_,?_⟩
  .unfold World.cell?; grind
  .unfold World.frozen?; rw[h1];unfold Pa at h2;simp only[bh];cases hh:(decide (fr.1<=j)&&decide (j<fr.2))with
   |false=>rfl
   |true=>grind
 have h3:(putRow (Value.int .i64) (Sort.ahead w q) b 0 ds.toArray).heap[b]?=some (.cells (Sort.putCells (Value.int .i64) 0 ds.toArray cells) 3 fr):=by show(w.heap.modify b _)[b]?=_;rw[Array.getElem?_modify,if_pos rfl,h1];rfl
 have jh:(Sort.putCells (Value.int .i64) 0 ds.toArray cells).size=cells.size:=by simp[Sort.putCells]
 refine⟨hH,⟨rfl,rfl,rfl,?_,λb' _ hp=>⟨?_,rfl⟩⟩,_,⟨fr,h3,by rw[jh];exact h2⟩,jh,λi x hx=>?_⟩
 .simp
 .show(w.heap.modify b _)[b']?=_;rw[Array.getElem?_modify,if_neg];rintro rfl;rw[hc]at hp;simp[gK]at hp
 .obtain⟨hi,rfl⟩:=dz.1 hx;have h4:=(Sort.holds_putRow (Value.int .i64) (Sort.ahead w q) b 0 zs.toArray ds.toArray hH (by simpa using hd) i (by simpa using hi)).1;unfold World.cell? at h4;grind
end
theorem n112:lE i112:=⟨by decide,by kernel_rfl,λX hX hp {s E sy a w χ vs oH o k} h hv hd ht=>by
 change Gf s o vs k at ht;unfold Gf at ht;split at ht
 .rename_i j;split at ht
  .rename_i l hj;obtain⟨sv,q,rfl,h1,h2⟩:=YY hv;obtain rfl:=YX h2;obtain rfl:=TR.own (w:=w) (χ:=χ) h1 hj;have hO:=h.own j _ hj;have wO:=h.aQ.o j _ hj;obtain⟨d,rfl⟩:=sd (ht []);have h3:=h.drop [j] ([j].map (λk=>2*k+1)++s.ca);have fin:∀(q:List Int)(ad:Option Addr)(cp:Nat)(w':World),Ev (gK (E.c j)) w χ w' χ->OS (bw (.i .i64)) 3 w' χ (E.c j) ad q cp->YU X (some d) s E a w χ k (.slice ad q.length cp) w':=λq ad cp w' ev os=>by
    have kk:Nx X (some d) s E a w χ k (λa' w'=>a'=a.put (some d) (.slice ad q.length cp)->YU X (some d) s E a w χ k (.slice ad q.length cp) w'):=λs' E' sy' a' w2 χ' h1 h2 h3 h4 e=>by subst e;exact⟨χ',⟨h2.lS.os.trans h.lS.os.symm,h2.lS.tape.trans h.lS.tape.symm,h2.lS.output.trans h.lS.output.symm,h3.m0.size,λb _ hp=>by cases hp⟩,s',E',sy',h1,h2,h3,h4⟩
    refine we (cc:=E.c j) (ad:=ad) (cp:=cp) (a':=a.put (some d) (.slice ad q.length cp)) (h3:bX X (hU [j] s) E sy a w χ) (ht q) wO (λk' x e=>?_) (λk' x e=>(h.aQ.om j _ k' x hj e).symm) ev (λc hc=>FM hc) os ((h.st.ev ev λc hc=>iq (by simp[jo]at hc;omega)).put (sv:=V (.slice ad q.length cp)) (hd d rfl)) (kk.hU h (cs:=[]) (λc hc=>by cases hc)) rfl;obtain⟨e1,e2⟩:=bg (f:=λi=>!([j]:List Nat).any (Nat.beq i)) e;intro nE;have:=h.aQ.oo k' x j _ e2 hj nE;simp_all
   rcases hO.row with⟨e1,e2,e3⟩|⟨b,cells,e1,e2,e3,e4,e5,e6,e7⟩
   .have e2:l=[]:=e2;subst e2;refine Calls.mono (Any.slices_Compact_int_empty Tryz.JI (E.σ j) (E.κ j) w) ?_;rintro e w' ⟨rfl,rfl⟩;obtain⟨χ',f1,f2⟩:=fin [] none 0 _ (Ev.refl _ _ _) (OS.nil _ _ _ _ _);grind
   .have hle:l.length<=cells.size:=by rw[e6];exact bP e4 (Nat.le_of_eq (Nat.mul_one _).symm)
    have Un:l.length<=9223372036854775807:=bP e4 (bP e5 (by decide));have he:∀(i:Nat) x,l[i]?=some x->cells[i]?=some (.int .i64 x):=λi x hx=>Yx (e7 i x hx);have hcl:=ac8 l;have hH:=(MC (q:=0) (ds:=l) e3 e2 hle he rfl).1;refine Calls.mono (show Calls Tryz.prog 112 #[.slice (E.σ j) l.length (E.κ j)] w _ from by rw[e1];exact Any.slices_Compact_int Tryz.JI b 0 (E.κ j) l w hH Un e4) ?_;rintro e w' ⟨rfl,q,rfl⟩;obtain⟨_,ev,jA,g1,g2,g3⟩:=MC (q:=q) (ds:=Lib.compact l++List.replicate (l.length-(Lib.compact l).length) 0) e3 e2 hle he (by simp;omega);obtain⟨χ',f1,f2⟩:=fin (Lib.compact l) (some ⟨b,0,none⟩) (E.κ j) _ ev ⟨bP (cP 8 hcl) hO.JS,.inr ⟨b,jA,rfl,e2,g1,bP hcl e4,e5,by rw[g2];exact e6,λi x hx=>adh (g3 i x (by rw[fU (dz.1 hx).1];exact hx))⟩⟩;grind
  .cases ht
 .cases ht⟩
theorem h136:mW Tryz.prog 136 s136:=by
 rintro w χ ⟨x,c,u⟩ H vals uz hA _ _ _ _
 match vals,hA with
 |[v1,v2],⟨h1,h2,_⟩=>cases h1;cases h2;refine Calls.mono (Any.strings_IndexByte Tryz.Xx (bs x) c w) ?_;rintro e w' ⟨rfl,rfl⟩;exact⟨_,χ,rfl,Ev.refl _ _ _,strings_IndexByte x c,[.int .i64 (strings_IndexByte x c)],rfl,by simp[strings_IndexByte,bs,Sv.one],rfl,trivial⟩
theorem h217:mW Tryz.prog 217 s217:=by
 rintro w χ ⟨x,y,u⟩ H vals uz hA _ _ _ _;have hp:=uz _ rfl;obtain⟨c,rfl⟩:∃c,y=[c]:=by
  have hp:y.length=1:=hp.1;rcases y with _|⟨c,_|⟨_,_⟩⟩
  .simp at hp
  .grind
  grind
 match vals,hA with
 |[v1,v2],⟨h1,h2,_⟩=>cases h1;cases h2;refine Calls.mono (Any.stringslite_Index_one Tryz.Xw (bs x) c w) ?_;rintro e w' ⟨rfl,rfl⟩;exact⟨_,χ,rfl,Ev.refl _ _ _,bG x [c],[.int .i64 (bG x [c])],rfl,by simp[bG,bs,Sv.one],rfl,trivial⟩
end
end Go.Te
namespace Go.Te
open Go Go.Sv Go.Proofs Go.Proofs.Y
section
section
variable{sp:Nat->Option Spec}(hs:SpF sp)
include hs
theorem n175:lE (i175 sp):=qU hs trivial
theorem Io:lE (yR sp):=qU hs ⟨⟨n175 hs,rfl,rfl⟩,trivial⟩
theorem Ts:lE (C3 sp):=qU hs ⟨⟨Io hs,rfl,rfl⟩,⟨⟨n175 hs,rfl,rfl⟩,trivial⟩⟩
theorem Ip:lE (yS sp):=qU hs trivial
theorem n181:lE (i181 sp):=qU hs ⟨⟨Ip hs,rfl,rfl⟩,trivial⟩
theorem n114:lE (i114 sp):=qU hs trivial
theorem n164:lE (i164 sp):=qU hs trivial
theorem n37:lE (i37 sp):=qU hs trivial
theorem akK:lE (i359 sp):=qU hs trivial
theorem ae7:lE (i418 sp):=qU hs trivial
theorem Tq:lE (C2 sp):=qU hs ⟨⟨ae7 hs,rfl,rfl⟩,trivial⟩
theorem n49:lE (i49 sp):=qU hs trivial
theorem n19:lE (i19 sp):=qU hs ⟨⟨n49 hs,rfl,rfl⟩,trivial⟩
theorem n237:lE (i237 sp):=qU hs trivial
theorem Nr:VF Tryz.prog (T1 sp):=ZD (l:=[(175,i175 sp),(230175,yR sp),(169175,C3 sp),(178177,yS sp),(181,i181 sp),(114,i114 sp),(164,i164 sp),(37,i37 sp),(359,i359 sp),(418,i418 sp),(230418,C2 sp),(49,i49 sp),(19,i19 sp),(237,i237 sp),(113174,C5),(113315,C4),(112,i112)]) ⟨n175 hs,⟨Io hs,⟨Ts hs,⟨Ip hs,⟨n181 hs,⟨n114 hs,⟨n164 hs,⟨n37 hs,⟨akK hs,⟨ae7 hs,⟨Tq hs,⟨n49 hs,⟨n19 hs,⟨n237 hs,⟨Tu,⟨Tt,⟨n112,trivial⟩⟩⟩⟩⟩⟩⟩⟩⟩⟩⟩⟩⟩⟩⟩⟩⟩
end
end
noncomputable section
def Z1(n:Nat):Func:=match(Tryz.prog).funcs[n]? with
 |some f=>f
 |none=>Tryz.f3
section
variable{l:List (Nat×Spec)}(o:DZ l)(i:Nat)(S:Spec)
include o
theorem DZ.Rg{F:Func}(la:Nat->Option LA)(hT:∀h,(∀p,S.pre=some p->p h)->Ma (T1 (aa l)) la F S h (S.po h))(hf:(Tryz.prog).funcs[S.fd]?=some F)(hb:eX Tryz.prog S.fd=true):DZ ((i,S)::l) :=
 o.cons i S (Jp Rn mo hf (λX hX=>Dz (P:=Tryz.prog) (T:=T1 (aa l)) o (Nr o) X hX) (λi g h=>(Nr o i g h).1) (λ_ _ h=>h) (λh hp=>(hT h hp).ok)) hb
theorem DZ.Eg{F:Func}{G:HL S.ar->D1 S.rs}(hG:∀h r,S.po h r=(G h=r))(la:Nat->Option LA)(hT:∀h,(∀p,S.pre=some p->p h)->Ma (T1 (aa l)) la F S h (λr=>r=G h))(hf:(Tryz.prog).funcs[S.fd]?=some F)(hb:eX Tryz.prog S.fd=true):DZ ((i,S)::l) :=
 o.cons i S (Jp Rn mo hf (λX hX=>Dz (P:=Tryz.prog) (T:=T1 (aa l)) o (Nr o) X hX) (λi g h=>(Nr o i g h).1) (Q:=λh r=>r=G h) (λ_ _ h=>(hG _ _).mpr h.symm) (λh hp=>(hT h hp).ok)) hb
theorem DZ.Ri(la:Nat->Option LA)(hT:∀h,(∀p,S.pre=some p->p h)->Ma (T1 (aa l)) la (Z1 S.fd) S h (S.po h))(hf:(Tryz.prog).funcs[S.fd]?=some (Z1 S.fd):=by kernel_rfl)(hb:eX Tryz.prog S.fd=true:=by kernel_rfl):DZ ((i,S)::l):=o.Rg i S la hT hf hb
theorem DZ.Ei{G:HL S.ar->D1 S.rs}(hG:∀h r,S.po h r=(G h=r))(la:Nat->Option LA)(hT:∀h,(∀p,S.pre=some p->p h)->Ma (T1 (aa l)) la (Z1 S.fd) S h (λr=>r=G h))(hf:(Tryz.prog).funcs[S.fd]?=some (Z1 S.fd):=by kernel_rfl)(hb:eX Tryz.prog S.fd=true:=by kernel_rfl):DZ ((i,S)::l):=o.Eg i S hG la hT hf hb
theorem DZ.R(la:Nat->Option LA)(hT:∀h,(∀p,S.pre=some p->p h)->Ma (T1 (aa l)) la (Z1 S.fd) S h (S.po h))(hf:(Tryz.prog).funcs[S.fd]?=some (Z1 S.fd):=by kernel_rfl)(hb:eX Tryz.prog S.fd=true:=by kernel_rfl):DZ ((S.fd,S)::l):=o.Rg S.fd S la hT hf hb
theorem DZ.E{G:HL S.ar->D1 S.rs}(hG:∀h r,S.po h r=(G h=r))(la:Nat->Option LA)(hT:∀h,(∀p,S.pre=some p->p h)->Ma (T1 (aa l)) la (Z1 S.fd) S h (λr=>r=G h))(hf:(Tryz.prog).funcs[S.fd]?=some (Z1 S.fd):=by kernel_rfl)(hb:eX Tryz.prog S.fd=true:=by kernel_rfl):DZ ((S.fd,S)::l):=o.Eg S.fd S hG la hT hf hb
end
end
end Go.Te
namespace Go.Proofs
open Go Go.RowKit Go.Maps Go.Sort Go.Shelf
section
attribute [local go_sem] Oper.semAt_some
abbrev Tryz.Hm(a:Option Addr)(c:Nat):Value:=.agg #[.int .i64 4,.slice a 6 c]
structure Tryz.K4 (R:World->Option Addr->Nat->Prop):Prop where
 rb:∀{w w' a c},R w a c->Below w.heap.size w w'->R w' a c
 k44:∀w a c,R w a c->Calls Tryz.prog 44 #[Tryz.Hm a c] w λe w'=>e=.returned (.int .i64 0)/\Below w.heap.size w w'
 k90:∀l bf a c w,R w a c->w.heap[bf]?=some (.cells #[.int .i64 4,.slice a 6 c] 30 (0,0))->Calls Tryz.prog 90 #[.func (.yield l) #[] #[],.pointer (some ⟨bf,0,none⟩)] w λe w'=>(∃v,e=.returned v)/\Below w.heap.size w w'
variable{R:World->Option Addr->Nat->Prop}
theorem Tryz.aho{w:World}{b:Nat}{x y:Value}{t:TypeId}(h:w.heap[b]?=some (.cells #[x,y] t (0,0))):w.cell? ⟨b,0,none⟩=some x/\w.cell? ⟨b,1,none⟩=some y:=by
 unfold World.cell?; rw[h];exact⟨rfl,rfl⟩
theorem Tryz.w43(a:Option Addr)(c:Nat)(w:World):Calls Tryz.prog 43 #[Tryz.Hm a c] w λe w'=>e=.returned (.func (.func 90) #[] #[.pointer (some ⟨w.heap.size,0,none⟩)])/\w'=w.alloc (.cells #[.int .i64 4,.slice a 6 c] 30):=by
 go_enter Tryz.func43,Tryz.ntmps43;go_wp2;go_ret;exact⟨rfl,rfl⟩
theorem Tryz.Jg{W W':World}(h:Below W.heap.size W W'):W.grownBy W' none:=⟨h.os,h.tape,h.output,h.size,λk hk _=>h.block k hk⟩
set_option maxRecDepth 100000 in
set_option maxHeartbeats 2000000 in
theorem Tryz.aam(F:Fence)(h16:F.fn 16)(h43:F.fn 43)(h44:F.fn 44)(h90:F.fn 90)(hro:F.round=none)(a:Option Addr)(c:Nat)(hrb:∀{w w'},R w a c->Below w.heap.size w w'->R w' a c)
  (k43:∀w,CallsIn F 4 Tryz.prog 43 #[Tryz.Hm a c] w λe w'=>e=.returned (.func (.func 90) #[] #[.pointer (some ⟨w.heap.size,0,none⟩)])/\w'=w.alloc (.cells #[.int .i64 4,.slice a 6 c] 30))
  (k44:∀w,R w a c->CallsIn F 4 Tryz.prog 44 #[Tryz.Hm a c] w λe w'=>e=.returned (.int .i64 0)/\Below w.heap.size w w')
  (k90:∀l bf W,R W a c->W.heap[bf]?=some (.cells #[.int .i64 4,.slice a 6 c] 30 (0,0))->CallsIn F 4 Tryz.prog 90 #[.func (.yield l) #[] #[],.pointer (some ⟨bf,0,none⟩)] W λe W'=>(∃v,e=.returned v)/\Below W.heap.size W W')
  (w:World) (hR:R w a c):CallsIn F 5 Tryz.prog 16 #[Tryz.Hm a c] w λe w'=>e=.returned (.tuple #[.int .i64 0,.int .i64 0])/\Below w.heap.size w w':=by
 have h1:1<=5:=by omega
 refine callsIn_of_wp_marks Tryz.func16 rfl h16 ?_ hro;simp only[Tryz.ntmps16,List.size_toArray,List.length_cons,List.length_nil,Nat.reduceAdd,Nat.reduceSub,Array.replicate_succ,Array.replicate_zero,List.push_toArray,List.append_toArray,List.nil_append,List.cons_append]
 gi_wp2_with (gi_at_call 43;refine(k43 _).mono ?_;rintro e w' ⟨rfl,rfl⟩)
 obtain⟨W0,hW0⟩:∃W0,((w.alloc (.cells #[.int .i64 4,.slice a 6 c] 30)).alloc (.cells #[.int .i64 0] 3)).alloc (.cells #[.int .i64 4,.slice a 6 c] 30)=W0:=⟨_,rfl⟩
 have hs0:W0.heap.size=w.heap.size+3:=by rw[←hW0];simp
 have hb0:W0.heap[w.heap.size]?=some (.cells #[.int .i64 4,.slice a 6 c] 30 (0,0)):=by rw[←hW0];exact((Below.heap_alloc _ _ _ (by simp;omega)).trans (Below.heap_alloc _ _ _ (by simp))).trans (World.alloc_heap_new w _)
 have hb1:W0.heap[w.heap.size+1]?=some (.cells #[.int .i64 0] 3 (0,0)):=by rw[←hW0];refine(Below.heap_alloc _ _ _ (by simp)).trans ?_;have:=World.alloc_heap_new (w.alloc (.cells #[.int .i64 4,.slice a 6 c] 30)) (.cells #[.int .i64 0] 3);rwa[World.size_alloc]at this
 have hb2:W0.heap[w.heap.size+1+1]?=some (.cells #[.int .i64 4,.slice a 6 c] 30 (0,0)):=by rw[←hW0];have:=World.alloc_heap_new ((w.alloc (.cells #[.int .i64 4,.slice a 6 c] 30)).alloc (.cells #[.int .i64 0] 3)) (.cells #[.int .i64 4,.slice a 6 c] 30);rwa[World.size_alloc,World.size_alloc]at this
 have hB0:Below w.heap.size w W0:=by rw[←hW0];exact(((Below.refl _ w).alloc (Nat.le_refl _) _).alloc (by simp) _).alloc (by simp;omega) _
 obtain⟨c0,c1⟩:=Tryz.aho hb0;have c2:W0.cell? ⟨w.heap.size+1,0,none⟩=some (.int .i64 0):=by unfold World.cell?; rw[hb1];rfl
 rw[hW0];clear hW0;refine wpIn_rangeFunc_ownG (Sp:=λ_=>False) hro h1 (gf:=90) (lb:=#[.pointer (some ⟨w.heap.size+1+1,0,none⟩)]) rfl h90 (enters_of Tryz.func90 (by kernel_rfl) rfl)
  (encs:=λx:Int=>#[Value.int .u32 x]) (S:=λxs=>xs=[]) (N:=0) (w0:=W0) (Kp:=Below w.heap.size)
  (λl J Jx W hW hJ _ _ h0=>(k90 l _ W (hrb (hrb hR hB0) hW) ((hW.block _ (Array.getElem?_eq_some_iff.1 hb2).1).trans hb2)).mono λe W' ⟨he,hB⟩=>⟨he,.inl ⟨[],rfl,hJ [] W W' none h0 (Tryz.Jg hB) (λr e=>by cases e)⟩⟩)
  belowK_t (belowK_b (by omega)) (Below.refl _ _) (λ_=>rfl)
  (λ_ W=>(W.cell? ⟨w.heap.size,0,none⟩=some (.int .i64 4)/\W.cell? ⟨w.heap.size,1,none⟩=some (.slice a 6 c)/\W.cell? ⟨w.heap.size+1,0,none⟩=some (.int .i64 0))/\Below w.heap.size w W)
  (λ_ _ _=>False)
  (OwnFrom.and (Own.from (λs A B row hs hg hr=>⟨cell_kept hs.1 hg hr,cell_kept hs.2.1 hg hr,cell_kept hs.2.2 hg hr⟩) _) (ownFrom_below (Nat.le_refl _) (by omega)))
  (λ_ _ _ _ _ hs _ _=>hs)
  ⟨⟨c0,c1,c2⟩,hB0⟩
  (λx=>{ tmps:=#[Tryz.Hm a c,.pointer (some ⟨w.heap.size,0,none⟩),.int .i64 0,.int .i64 0,.pointer (some ⟨w.heap.size+1,0,none⟩),Tryz.Hm a c,.func (.func 90) #[] #[.pointer (some ⟨w.heap.size+1+1,0,none⟩)],.int .u32 x,undef,undef,undef,undef,undef],defers:=[] }) ?assign ?body ?done ?stop
 case assign=>intro l x W K hK;gi_wp2;simpa using hK
 case body=>rintro l pre x W _ eB;exact absurd eB (Nat.not_lt_zero _)
 case done =>
  rintro D ys W hD rfl ⟨⟨d0,d1,d2⟩,hB⟩ hK;have l0:w.heap.size+1<W.drew.heap.size:=by
   have:=hB.size;unfold World.cell? at d2;cases hh:W.heap[w.heap.size+1]? with
   |none=>rw[hh]at d2;cases d2
   |some o=>exact(Array.getElem?_eq_some_iff.1 hh).1
  have hR2:R W.drew a c:=hrb hR (w':=W.drew) ⟨hB.os,hB.tape,hB.output,hB.size,hB.block⟩;gi_wp2
  gi_region_with (gi_at_call 44;refine(k44 _ hR2).mono ?_;rintro e w' ⟨rfl,hB2⟩;have g2:=(hB2.cell (p:=⟨w.heap.size+1,0,none⟩) l0).trans d2)
  all_goals
   have hK':w'.heap[D]?=some (.deferred (some [])):=(hB2.block D (Array.getElem?_eq_some_iff.1 hK).1).trans hK;have hB3:Below w.heap.size w w':=hB.trans ⟨hB2.os,hB2.tape,hB2.output,hB2.size,λk hk=>hB2.block k (Nat.lt_of_lt_of_le hk hB.size)⟩;gi_wp2;refine⟨by simp,.inl ⟨_,_,rfl,run_takeDeferred hK',?_⟩⟩;refine⟨_,?_,rfl,hB3.trans (belowK_b (w:=w) (Nat.le_refl _) w' D _ _ (by omega) hK' rfl rfl)⟩;simp[results,Tryz.f16,go_sem]
 case stop=>rintro D c pre W _ _ h _;exact h.elim
theorem Tryz.w16(K:Tryz.K4 R)(a:Option Addr)(c:Nat)(w:World)(hR:R w a c):Calls Tryz.prog 16 #[Tryz.Hm a c] w λe w'=>e=.returned (.tuple #[.int .i64 0,.int .i64 0])/\Below w.heap.size w w' :=
 (callsIn_wide (n:=5)).1 (Tryz.aam Fence.wide trivial trivial trivial trivial rfl a c (λh=>K.rb h) (λw=>callsIn_wide.2 (Tryz.w43 a c w)) (λw h=>callsIn_wide.2 (K.k44 w a c h)) (λl bf W h hb=>callsIn_wide.2 (K.k90 l bf a c W h hb)) w hR)
end
end Go.Proofs
