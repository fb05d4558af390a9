/- Lemmas. Conditions: their own. -/
import Derived.Lib.Bytealg
import Derived.Test.YtmgahplojkmcaaaGreatExS
set_option linter.all false
namespace Go.Ex
open Go Go.Sv Go.Proofs
noncomputable section
theorem Br{α:Type}:∀{l:List (Nat×α)} {i:Nat} {x:α},get (ofL l) i=some x->(i,x)∈l
 |[],i,x,h=>by cases h
 |q::l,i,x,h=>by
  have h:get (set 12 (ofL l) q.1 (some q.2)) i=some x:=h;rcases lM _ _ _ _ _ _ h with⟨rfl,e⟩|⟨_,e⟩
  .cases e;exact aI ..
  .exact aw _ (Br e)
theorem ct:∀{l:oQ} {t:Nat} {s:sX},aa l t=some s->(t,s)∈l
 |[],t,s,h=>by cases h
 |(k,x)::l,t,s,h=>by
  unfold aa at h;cases hb:Nat.beq k t with
  |true=>rw[hb]at h;cases h;rw[aD hb];exact aI ..
  |false=>rw[hb]at h;exact aw _ (ct h)
theorem mL{α β:Type}{f g:α->β}:∀{l:List α},l.map f=l.map g->∀q∈l,f q=g q
 |[],_,q,h=>by cases h
 |x::l,e,q,h=>by
  rw[ba,ba]at e;injection e with e1 e2;rcases aE.1 h with rfl|h
  .exact e1
  .exact mL e2 q h
theorem Mn:Wj.map (λq=>Wg Tryz.prog q.1)=Wj.map (λq=>some q.2):=by kernel_rfl
theorem T0t(t:Nat)(s:sX)(h:get HB t=some s):Wg Tryz.prog t=some s:=mL Mn (t,s) (Br h)
theorem T0b:dD Tryz.prog HG:=λt s h=>mL Mn (t,s) (dx.1 (ct h)).1
def isI64:Option TypeDesc->Bool
 |some (.int .i64)=>true
 |_=>false
def isPtr:Option TypeDesc->Bool
 |some (.pointer _)=>true
 |_=>false
theorem T3{o:Option TypeDesc}(h:isI64 o=true):o=some (.int .i64):=by
 unfold isI64 at h;split at h
 .rfl
 .cases h
theorem TZ{o:Option TypeDesc}(h:isPtr o=true):∃e,o=some (.pointer e):=by
 unfold isPtr at h;split at h
 .exact⟨_,rfl⟩
 .cases h
theorem afc:Zv.map (λq=>Tryz.prog.underlying q.1)=Zv.map (λq=>some (.map q.2.1 q.2.2.1)):=by kernel_rfl
theorem afb:Zv.map (λq=>(Tryz.prog.info? q.2.2.1).bind (·.zero))=Zv.map (λq=>some q.2.2.2):=by kernel_rfl
theorem afd:Zv.map (λq=>isI64 (Tryz.prog.underlying q.2.1)||(E9 0 q.2.1&&(Tryz.prog.underlying q.2.1).isSome))=Zv.map (λ_=>true):=by kernel_rfl
theorem T0m(t k e:Nat)(z:Value)(h:get DW t=some (k,e,z)):Tryz.prog.underlying t=some (.map k e)/\(Tryz.prog.info? e).bind (·.zero)=some z/\(Tryz.prog.underlying k=some (.int .i64)∨E9 0 k=true/\∃d,Tryz.prog.underlying k=some d):=by
 unfold DW at h;have hm:(t,(k,e,z))∈Zv:=Br h;have h1:=mL afc _ hm;have h2:=mL afb _ hm;refine⟨h1,h2,?_⟩;have h3:=mL afd _ hm;rcases Bool.or_eq_true_iff.1 h3 with h3|h3
 .exact .inl (T3 h3)
 .obtain⟨h3,h4⟩:=gu.1 h3;exact .inr ⟨h3,bR.1 h4⟩
theorem ZB{k:Nat}(h:E9 0 k=true):k=BW:=aD (show Nat.beq k BW=true from h)
theorem Wt(a b:Int)(e:Bool)(w:World):(Instr.checkKey e 10000 BW (.agg #[.int .u32 a,.int .i64 b])).run Tryz.prog w=.ok () w:=by kernel_rfl
theorem Ws:isI64 (Tryz.prog.underlying BW)=false:=by kernel_rfl
theorem aa8:pl0.map (λq=>isPtr (Tryz.prog.underlying q.1))=pl0.map (λ_=>true):=by kernel_rfl
theorem T0p(t:Nat)(h:E9 1 t=true):∃e,Tryz.prog.underlying t=some (.pointer e):=by
 have h:kaP (get Zj t)=true:=h;cases hg:get Zj t with
 |none=>rw[hg]at h;cases h
 |some x=>unfold Zj at hg;have h1:=mL aa8 _ (Br hg);exact TZ h1
theorem T0:ud Tryz.prog HB DW HG E9 where
 t:=T0t
 m:=T0m
 b:=T0b
 k:=λk hk a b e w=>by rw[ZB hk];exact Wt a b e w
 k':=λk hk hu=>by rw[ZB hk]at hu;have:=Ws;rw[hu]at this;cases this
 p:=T0p
theorem Jn:∀{l:List Func} {i f:Nat} {fn:Func},get (X9 i l) f=some fn->i<=f/\l[f-i]?=some fn
 |[],i,f,fn,h=>by cases h
 |x::l,i,f,fn,h=>by
  have h:get (set 12 (X9 (i+1) l) i (some x)) f=some fn:=h;rcases lM _ _ _ _ _ _ h with⟨rfl,e⟩|⟨_,e⟩
  .cases e;exact⟨aK _,by simp⟩
  .obtain⟨h1,h2⟩:=Jn e;refine⟨by omega,?_⟩;rw[show f-i=(f-(i+1))+1 by omega];simpa using h2
theorem mD:(Tryz.prog.funcs.toList.all λf=>!(f.name == "runtime.NumGoroutine"))=true:=by kernel_rfl
theorem F0:ahK Tryz.prog Z0:=λf fn h=>by
 obtain⟨_,h2⟩:=Jn (i:=0) h;have h2:Tryz.prog.funcs.toList[f]?=some fn:=h2;have hm:fn∈Tryz.prog.funcs.toList:=eR h2;refine⟨by simpa using h2,?_⟩;have:=aO.1 mD fn hm;simpa using this
theorem zO:Tryz.prog.follows .mixedOrders=true:=by kernel_rfl
theorem Jw(c:UInt8):∀(l:List UInt8)(i:Nat),Fk c.toNat i l=if Lib.indexByte l c=-1 then -1 else i+Lib.indexByte l c
 |[],i=>by simp[Fk,Lib.indexByte]
 |x::l,i=>by
  have ge:=Lib.indexByte_ge l c;unfold Fk Lib.indexByte;by_cases hx:x=c
  .subst hx;simp[eH]
  .have h1:Nat.beq x.toNat c.toNat=false:=by
    cases hb:Nat.beq x.toNat c.toNat with
    |false=>rfl
    |true=>exact(hx (UInt8.toNat_inj.1 (aD hb))).elim
   have h2:(x==c)=false:=by simpa using hx
   rw[h1,h2];simp only[eQ,Bool.false_eq_true,gI];rw[Jw c l (i+1)];by_cases h3:Lib.indexByte l c=-1
   .simp[h3]
   .have h4:(Lib.indexByte l c == -1)=false:=by simpa using h3
    rw[if_neg h3,h4];simp only[Bool.false_eq_true,gI];rw[if_neg (by omega)];omega
theorem aai:(Tryz.prog.funcs[Pz]?.map λf=>f.body.isNone&&!(f.name == "runtime.NumGoroutine"))=some true:=by kernel_rfl
theorem am5:(Tryz.prog.funcs[Pz]?.map λf=>(Extern.findNext f).isNone)=some true:=by kernel_rfl
theorem am6:(Tryz.prog.funcs[Pz]?.bind λf=>Extern.find f)=some Extern.BytealgIndexByte.indexByte:=by kernel_rfl
theorem I0:FI Tryz.prog wM:=λf hf s n w eB=>by
 have e:f=Pz:=aD hf;subst e;cases Uu:Tryz.prog.funcs[Pz]? with
 |none=>have:=aai;rw[Uu]at this;cases this
 |some fn =>
  have h1:=aai;have h2:=am5;have h3:=am6;rw[Uu]at h1 h2 h3;have h1:=Option.some.inj h1;obtain⟨hb,Um⟩:=gu.1 h1;have hn:Extern.findNext fn=none:=sM.1 (Option.some.inj h2);have he:Extern.find fn=some Extern.BytealgIndexByte.indexByte:=h3;rw[run_callFunc_extern Uu (by simpa using Um) hb hn he,Lib.run_indexByteString];have hc:(Int.toNat (.ofNat n)).toUInt8.toNat=n:=by simp;omega
  have:=Jw (Int.toNat (.ofNat n)).toUInt8 s.data.toList 0;rw[hc]at this;rw[this];split
  .rename_i h;rw[h];rfl
  .rename_i h;simp[h]
end
end Go.Ex
