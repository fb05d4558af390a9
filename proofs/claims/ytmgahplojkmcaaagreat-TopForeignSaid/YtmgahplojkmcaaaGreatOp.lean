/- Lemmas. Conditions: their own. -/
import Derived.ProofKit
import Derived.OpenShut
import Derived.ShutString
import Derived.ChangeOld
import Derived.Below
import Derived.SizedLaws
import Derived.DataShut
import Derived.Test.YtmgahplojkmcaaaGreatExG
set_option linter.all false
namespace Go.Op
open Go Go.Sv Go.ChangeShapes Go.WideShapes Go.ChangeAt Go.RowKit
section
def z0:Nat->Nat:=λ_=>0
def J8(P:Program){α:Type}(T:b9 α)(V:α->Prop)(t:TypeId):Prop :=
 ∀{H:Type} (enc:TypeId×Value->H) (w:World) (base:Nat) (spare:Nat->Bool) (held:Bool) (fuel:Nat) (cs:List Value) (d:DataW H) (ps:List MemPlace),
  DataW.trod enc P w base spare held fuel t cs=some (d,ps)->(d.weights P t).all (·<=reachBytes)=true->∃y,T.R w z0 cs y/\V y
variable{P:Program}{t e:TypeId}
theorem MZ{k:IntKind}{bytes:Nat}(ht:P.underlying t=some (.int k)):J8 P (Rs k bytes) (zl k) t:=by
 intro H enc w base spare held fuel cs d ps h _;obtain⟨n,rfl,_,hw⟩:=DataW.trod_int ht h;exact⟨n,rfl,(_root_.Go.Lit.wf_int_iff k n).1 hw⟩
theorem ae3(ht:P.underlying t=some .string):J8 P aem (λs=>s.length<=140737488355328) t:=by
 intro H enc w base spare held fuel cs d ps h hw;obtain⟨s,rfl,hd,_⟩:=DataW.trod_string ht h;simp only[Prod.mk.injEq]at hd;obtain⟨rfl,-⟩:=hd;refine⟨s.data.toList,?_,?_⟩
 .show [Value.string s]=[Value.string (bs s.data.toList)]
  simp[bs]
 .simp[DataW.weights]at hw;simp only[reachBytes]at hw;have h1:s.data.toList.length=s.data.size:=rfl;have h2:s.size=s.data.size:=rfl;omega
theorem uE{H:Type}{e:TypeId}:∀{l:List (DataW H)} {d:DataW H},d∈l->∀n∈d.weights P e,n∈DataW.weightsAll P e l
 |x::l,d,hd,n,hn=>by
  simp only[DataW.weightsAll,aV];rcases aE.1 hd with rfl|h
  .exact .inl hn
  .exact .inr (uE h n hn)
theorem GA{α:Type}{T:b9 α}{V:α->Prop}(ht:P.underlying t=some (.slice e))(hc:P.cellsOf e=T.n)(hb:P.bytesOf e=T.bytes)(hT:J8 P T V e):
  J8 P (tg T) (λl=>∀x∈l,V x) t:=by
 intro H enc w base spare held fuel cs d ps h hw;rcases DataW.trod_slice ht h with⟨rfl,hx⟩|⟨a,len,cap,elems,rest,n,_,rfl,hx,hba,hl,hm,hlen,ll,_,_⟩
 .exact⟨[],⟨none,0,rfl,RS.empty _ _ _⟩,by simp⟩
 .simp only[Prod.mk.injEq]at hx;obtain⟨rfl,-⟩:=hx;simp only[DataW.weights,ht,cd,ak,jR,aR,da]at hw;obtain⟨Kd,VY,_⟩:=hw;rw[hb]at Kd;have hle:len*T.bytes<=140737488355328:=by
   have:len*T.bytes<=(elems.length+rest.length)*T.bytes:=cP _ (by omega);have h2:reachBytes<=140737488355328:=by decide
   omega
  have BW:0<len->a.spot=none:=by intro hi;have h1:=ll 0 hi;rw[hc,fD (by omega),qp]at h1;obtain⟨dG,h2,h3⟩:=h1;obtain⟨_,hcl,hat⟩:=World.cells?_some h2;have uA:=T.pos;have DX:=hat 0 (by omega);rw[fD (by omega)]at DX;simpa[Addr.add]using World.cell?_spot DX
  have Vu:∀(b o i:Nat),(⟨b,o,none⟩:Addr).add i=⟨b,o+i,none⟩:=by
   intro b o i;unfold Addr.add;split
   .rename_i h;subst h;rfl
   .rfl
  have each:∀i,i<len->∃b o cells e' fr y,a=⟨b,o,none⟩/\w.heap[b]?=some (.cells cells e' fr)/\T.R w z0 (chunk cells o T.n i) y/\V y:=by
   intro i hi;have h1:=ll i hi;rw[hc]at h1;have hs:i<elems.length:=by omega
   rw[fD hs,qp]at h1;obtain⟨dG,h2,h3⟩:=h1;obtain⟨_,hcl,hat⟩:=World.cells?_some h2;have hwe:((elems[i]).1.weights P e).all (·<=reachBytes)=true:=by rw[aO]at VY ⊢; intro q hq;exact VY q (uE (aq.2 ⟨_,List.getElem_mem hs,rfl⟩) q hq)
   obtain⟨y,hy,hv⟩:=hT enc w base spare held n dG _ _ h3 hwe;have uA:=T.pos;have QO:=BW (by omega);obtain⟨b,o,spot⟩:=a;simp only at QO;subst QO;have jZ:∀j,j<T.n->w.cell? ⟨b,o+i*T.n+j,none⟩=dG[j]?:=by intro j hj;have:=hat j hj;rwa[Vu,Vu]at this
   have gk:∃cells e' fr,w.heap[b]?=some (.cells cells e' fr):=by
    have h5:=jZ 0 (by omega);rw[fD (by omega)]at h5;unfold World.cell? at h5;split at h5
    .rename_i cells e' fr hh;exact⟨_,_,_,hh⟩
    .cases h5
   obtain⟨cells,e',fr,hh⟩:=gk;refine⟨b,o,cells,e',fr,y,rfl,hh,?_,hv⟩;have:chunk cells o T.n i=dG:=by
    apply mM;intro j;by_cases hj:j<T.n
    .rw[←jZ j hj];unfold World.cell?; rw[hh];simp[chunk,bQ,eJ,hj,jH]
    .rw[mO (by omega:dG.length<=j)];simp[chunk,bQ,hj]
   rw[this];exact hy
  have mk:∃ys:List α,ys.length=len/\∀i (hi:i<len),∃y,ys[i]?=some y/\∃b o cells e' fr,a=⟨b,o,none⟩/\w.heap[b]?=some (.cells cells e' fr)/\T.R w z0 (chunk cells o T.n i) y/\V y:=by
   have hch:∀i:Fin len,∃y:α,∃b o cells e' fr,a=⟨b,o,none⟩/\w.heap[b]?=some (.cells cells e' fr)/\T.R w z0 (chunk cells o T.n i.1) y/\V y:=λi=>by obtain⟨b,o,cells,e',fr,y,q⟩:=each i.1 i.2;exact⟨y,b,o,cells,e',fr,q⟩
   refine⟨List.ofFn λi=>(hch i).choose,by simp,λi hi=>⟨(hch ⟨i,hi⟩).choose,by simp[hi],(hch ⟨i,hi⟩).choose_spec⟩⟩
  obtain⟨ys,hyl,ZF⟩:=mk;subst hyl;refine⟨ys,⟨some a,cap,rfl,hl,hle,λh=>(by cases h),λhne=>?_⟩,?_⟩
  .have h0:0<ys.length:=lB.2 hne;obtain⟨_,_,b,o,cells,e',fr,rfl,hh,_,_⟩:=ZF 0 h0;refine⟨b,o,cells,e',fr,rfl,rfl,hh,λi x hx=>?_⟩;have hi:i<ys.length:=by
    rcases Nat.lt_or_ge i ys.length with h|h
    .exact h
    .rw[mO h]at hx;cases hx
   obtain⟨y,hy,b',o',jA,xZ,fr',ha,hh',hR,_⟩:=ZF i hi;cases ha;rw[hh]at hh';cases hh';rw[hx]at hy;cases hy;exact hR
  .intro x hx;obtain⟨i,hi,rfl⟩:=nO hx;obtain⟨y,hy,_,_,_,_,_,_,_,_,hV⟩:=ZF i hi;rw[fD hi]at hy;cases hy;exact hV
theorem Ih{H:Type}{enc:TypeId×Value->H}{w:World}{base:Nat}{spare:Nat->Bool}{held:Bool}{fuel:Nat}{cs:List Value}{d:DataW H}{ps:List MemPlace}{fs:Array Field}(ht:P.underlying t=some (.struct fs))
  (h:DataW.trod enc P w base spare held fuel t cs=some (d,ps)) (hw:(d.weights P t).all (·<=reachBytes)=true) :
  cs.length=P.cellsOf t/\∀(i:Nat)(f:Field),fs[i]?=some f->∃n d' ps',DataW.trod enc P w base spare held n f.type ((cs.drop f.offset).take (P.cellsOf f.type))=some (d',ps')/\(d'.weights P f.type).all (·<=reachBytes)=true:=by
 obtain⟨xs,n,_,hx,hl,hlen,hf⟩:=DataW.trod_struct ht h;simp only[Prod.mk.injEq]at hx;obtain⟨rfl,-⟩:=hx;refine⟨hl,λi f hi=>?_⟩;have h1:=hf i f hi;have eB:i<fs.size:=(gw.1 hi).1;rw[fD (by omega)]at h1;refine⟨n,_,_,h1,?_⟩;simp only[DataW.weights,ht]at hw;rw[aO]at hw ⊢; intro q hq;exact hw q (DataW.weights_mem_each (j:=i) (by simp[hi]) (by simp[fD (show i<xs.length by omega)]) q hq)
theorem Bu{H:Type}{enc:TypeId×Value->H}{w:World}{base:Nat}{spare:Nat->Bool}{held:Bool}{fuel:Nat}{cs:List Value}{d:DataW H}{ps:List MemPlace}{fs:Array Field}(ht:P.underlying t=some (.struct fs))
  (h:DataW.trod enc P w base spare held fuel t cs=some (d,ps)) (hw:(d.weights P t).all (·<=reachBytes)=true) (i:Nat) {off ft k:Nat} {f:Field} (hi:fs[i]?=some f) (ho:f.offset=off) (XK:f.type=ft) (hc:P.cellsOf ft=k) :
  ∃n d' ps',DataW.trod enc P w base spare held n ft ((cs.drop off).take k)=some (d',ps')/\(d'.weights P ft).all (·<=reachBytes)=true:=by
 obtain⟨n,d',ps',h1,h2⟩:=(Ih ht h hw).2 i f hi;subst ho;subst XK;subst hc;exact⟨n,d',ps',h1,h2⟩
theorem akQ{l:List Value}(h:l.length=4):∃a b c d,l=[a,b,c,d]:=by match l,h with|[a,b,c,d],_=>exact⟨_,_,_,_,rfl⟩
theorem Mq{H:Type}{ts:List TypeId}{d:DataW H}{ds:List (DataW H)}(h:(DataW.weightsEach P (t::ts) (d::ds)).all (·<=reachBytes)=true):
  (d.weights P t).all (·<=reachBytes)=true/\(DataW.weightsEach P ts ds).all (·<=reachBytes)=true:=by
 simpa only[DataW.weightsEach,jR,ak]using h
theorem below{f:FuncId}{vals:Array Value}{w:World}{post:World->(Nat->Nat)->Value->Prop}(h:Bf P f vals eN w z0 post):
  Calls P f vals w λe w'=>(∃v χ',e=.returned v/\post w' χ' v)/\Below w.heap.size w w' :=
 Calls.mono h λe w' ⟨v,χ',he,ev,hp⟩=>⟨⟨v,χ',he,hp⟩,ev.os,ev.tape,ev.output,ev.size,λk hk=>(ev.keep k hk rfl).1⟩
theorem Lb{w:World}{r:Reach}{b:Nat}{v:Value}(ht:P.underlying t=some .string)(h:Value.okWide P w r b t v):v.cells.toList=[v]:=by
 obtain⟨_,rfl⟩:=okWide_string ht h;rfl
theorem O7{w:World}{r:Reach}{b:Nat}{v:Value}(ht:P.underlying t=some (.slice e))(h:Value.okWide P w r b t v):v.cells.toList=[v]:=by
 obtain⟨_,_,_,rfl⟩:=okWide_slice ht h;rfl
theorem head_eq{a b:Value}(h:[a]=[b]):a=b:=by simpa using h
end
end Go.Op
