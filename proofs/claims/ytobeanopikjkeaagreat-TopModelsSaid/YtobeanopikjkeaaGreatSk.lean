/- The third part of the walk library. No condition. -/
import Derived.Test.YtobeanopikjkeaaGreatSw
namespace Go.Sv
open Go
section
variable {P:Program}
section ops
variable {tab:Tab} {n:Nat} {sy:Sy} {ρ:Nat→Nat} {a:Act} {w:World} {χ:Nat→Nat} {all:List Oper} {Q:Exit→Act→World→Prop} {K:Act→World→Prop}
variable {d ty:Nat} {pos:String} {af:Array Edge} {g:Option (Nat × Bool)}
structure KOK {κ:Type} [DecidableEq κ] (P:Program) (kt:Nat) (kv:κ→Value):Prop where
 ck:∀ (k:κ) (b:Bool) (w:World),(Instr.checkKey b 10000 kt (kv k)).run P w=.ok () w
 un:∃ d,P.underlying kt=some d∧∀ a b,Instr.sameNow d (kv a) (kv b)=none
 eq:∀ (a b:κ) (w:World),(Op.equal kt (kv a) (kv b)).run P w=.ok (decide (a=b)) w
 ks:∀ (k:κ) (w:World),(Instr.keyThatStays (kv k) (kv k)).run P w=.ok (kv k) w
 inj:∀ a b,kv a=kv b→a=b
theorem S2 {x y:Operand} {t yt:Nat} {k k2:IntKind} {p q:Int} (h:St n sy ρ a w χ) (hw:bK all sy g=true) (hd:Nat.blt d n=true) (hx:evo sy x=some (V (.int k p))) (hy:evo sy y=some (V (.int k2 q))) (hq:0≤q)
  (kk:∀ a',St n ⟨(d,V (.int k (k.wrap (p * 2 ^ (min q.toNat k.bits))))) :: sy.bc,sy.boxes⟩ ρ a' w χ→K a' w):wp1 P all.toArray Q ⟨some d,.binOp .shl t x y yt,ty,pos,af,g⟩ K a w:=by
 refine fU h hw hd (Ev.refl aB w χ) (fun _ _=>rfl) (w':=w) ?_ (fun a' h'=>kk a' h')
 have ex:a.eval x=.int k p:=h.evo hx
 have ey:a.eval y=.int k2 q:=h.evo hy
 have hn:¬ q < 0:=by omega
 simp [execOp,ex,ey,binOp,Op.shift,hn,eD]
theorem K6 (i:Nat) {nrm ret:Act→World→Prop} {exs:List (Nat × (Act→World→Prop))} {S:World→Prop} {listed:Array Bool} {fuel:Nat} {x y:Operand} {t yt:Nat} {k k2:IntKind} {p q:Int} (h:St n sy ρ a w χ) (oe:Region.noSelect all.toArray=true) (hd:Nat.blt d n=true) (hc:(Region.free .any all.toArray listed i && (Region.ready .any all.toArray listed).contains i)=true) (ho:all[i]?=some ⟨some d,.binOp .shl t x y yt,ty,pos,af,g⟩) (hw:bK all sy g=true) (H:S w)
  (hx:evo sy x=some (V (.int k p))) (hy:evo sy y=some (V (.int k2 q))) (hq:0≤q) (kk:∀ a',St n ⟨(d,V (.int k (k.wrap (p * 2 ^ (min q.toNat k.bits))))) :: sy.bc,sy.boxes⟩ ρ a' w χ→Dr P all (qs nrm ret exs) S (listed.setIfInBounds i true) fuel a' w):Dr P all (qs nrm ret exs) S listed (fuel+1) a w:=by
 refine qU i h oe hd hc ho hw H (fun w1 _=>?_) kk
 have ex:a.eval x=.int k p:=h.evo hx
 have ey:a.eval y=.int k2 q:=h.evo hy
 have hn:¬ q < 0:=by omega
 have hg:(eqGuard .shl t x y (.int k p) (.int k2 q)).run P w1=.ok () w1:=eD _ _ _ _ _ _ _
 simp [execOp,ex,ey,binOp,Op.shift,hn,hg]
theorem S1 {x y:Operand} {t yt:Nat} {k k2:IntKind} {p q:Int} (h:St n sy ρ a w χ) (hw:bK all sy g=true) (hd:Nat.blt d n=true) (hx:evo sy x=some (V (.int k p))) (hy:evo sy y=some (V (.int k2 q))) (hq:0≤q)
  (kk:∀ a',St n ⟨(d,V (.int k (p.fdiv (2 ^ (min q.toNat k.bits))))) :: sy.bc,sy.boxes⟩ ρ a' w χ→K a' w):wp1 P all.toArray Q ⟨some d,.binOp .shr t x y yt,ty,pos,af,g⟩ K a w:=by
 refine fU h hw hd (Ev.refl aB w χ) (fun _ _=>rfl) (w':=w) ?_ (fun a' h'=>kk a' h')
 have ex:a.eval x=.int k p:=h.evo hx
 have ey:a.eval y=.int k2 q:=h.evo hy
 have hn:¬ q < 0:=by omega
 simp [execOp,ex,ey,binOp,Op.shift,hn,eD]
theorem QH {x y:Operand} {t yt e m c:Nat} {a0:Option Addr} {b:Bool} (h:St n sy ρ a w χ) (hw:bK all sy g=true) (hd:Nat.blt d n=true) (hx:evo sy x=some (V (.slice a0 m c))) (hy:evo sy y=some (V (.slice none 0 0))) (hu:P.underlying t=some (.slice e)) (hb:a0.isNone=b)
  (kk:∀ a',St n ⟨(d,V (.bool b)) :: sy.bc,sy.boxes⟩ ρ a' w χ→K a' w):wp1 P all.toArray Q ⟨some d,.binOp .eql t x y yt,ty,pos,af,g⟩ K a w:=by
 refine fU h hw hd (Ev.refl aB w χ) (fun _ _=>rfl) (w':=w) ?_ (fun a' h'=>kk a' h')
 have ex:a.eval x=.slice a0 m c:=h.evo hx
 have ey:a.eval y=.slice none 0 0:=h.evo hy
 have hq:(Op.equal t (.slice a0 m c) (.slice none 0 0)).run P w=.ok b w:=by
  subst hb
  unfold Op.equal Op.maxDepth
  rw [show (10000:Nat)=9999+1 from rfl,Op.equalIn]
  cases a0 <;> simp [run_underlying hu,Result.andThen]
 have hg:(eqGuard .eql t x y (.slice a0 m c) (.slice none 0 0)).run P w=.ok () w:=by simp [eqGuard]
 simp [execOp,ex,ey,binOp,hg,hq,Result.andThen]
theorem RS.Tl {α:Type} {T:ct α} {a0:Option Addr} {xs:List α} {c:Nat} {b:Bool} (h:RS T w χ a0 xs c) (hb:a0.isNone=b):b=true→xs=[]:=by
 rintro rfl
 cases a0 with
 | none=>exact (h.nil rfl).1
 | some _=>cases hb
theorem br.LI {bxs:List (Nat × (Nat × List SV))} {w0:World} {χ0:Nat→Nat} {ρ':Nat→Nat} {k:Nat} (hr:∀ id,id≠k→ρ' id=ρ id) (hb:nW k ⟨[],bxs⟩=true):br w0 χ0 bxs ρ'=br w0 χ0 bxs ρ :=
 funext fun _=>propext ⟨fun H=>H.rho hr hb,fun H=>H.rho (fun id h=>(hr id h).symm) hb⟩
theorem lD {nrm ret:Act→World→Prop} {exs:List (Nat × (Act→World→Prop))} {w0:World} {χ0:Nat→Nat} {bxs:List (Nat × (Nat × List SV))} {listed listed':Array Bool} {m fuel:Nat} {sy':Sy} {ρz:Nat→Nat} {kz:Nat} (TT:bh P tab) (hr:∀ id,id≠kz→ρ id=ρz id) (hno:nW kz ⟨[],bxs⟩=true) (is bks ks:List Nat) (h:St n sy ρ a w χ)
  (oe:Region.noSelect all.toArray=true) (hn:Nat.ble n 999=true) (hb:oM bks sy=bxs) (H:br w0 χ0 bxs ρz w) (e:(match iV tab n all bks is listed sy with | some (l,s)=>some (l,(⟨(bW ks [] s).bc,sy.boxes⟩:Sy)) | none=>none)=some (listed',sy')) (hf:m=fuel+is.length)
  (k:∀ a',St n sy' ρ a' w χ→Dr P all (qs nrm ret exs) (br w0 χ0 bxs ρz) listed' fuel a' w):Dr P all (qs nrm ret exs) (br w0 χ0 bxs ρz) listed m a w:=by
 have he:=br.LI (w0:=w0) (χ0:=χ0) hr hno
 rw [← he] at H k ⊢
 exact take TT is bks ks h oe hn hb H e hf k
def AdF {α:Type} (T:ct α) (ad:Option Addr) (i off:Nat) (A:Addr):Prop:=∃ b,ad=some ⟨b,0,none⟩∧A=⟨b,i * T.n+off,none⟩
theorem AtO.ad {α:Type} {T:ct α} {E col:Nat} {ad:Option Addr} {i:Nat} {A:Addr} (h:AtO T E w χ col ad i A):AdF T ad i 0 A:=by
 obtain ⟨b,_,h1,h2,_⟩:=h
 exact ⟨b,h1,h2⟩
theorem GH {α:Type} {T:ct α} (TT:bh P tab) {t s f off fsz ft i o:Nat} {ad:Option Addr} {A:Addr} (h:St n sy ρ a w χ) (hw:bK all sy g=true) (hd:Nat.blt d n=true) (hs:look sy.bc s=some (V (.pointer (some A)))) (hA:AdF T ad i o A)
  (ht:(match look tab t with | some ⟨_,_,_,_,.struct fs⟩=>fs[f]? | _=>none)=some (off,fsz,ft)) (gB:Nat.ble 1 fsz=true)
  (k:∀ A' a',AdF T ad i (o+off) A'→St n ⟨(d,V (.pointer (some A'))) :: sy.bc,sy.boxes⟩ ρ a' w χ→K a' w) :
  wp1 P all.toArray Q ⟨some d,.fieldAddr t (.tmp s) f,ty,pos,af,g⟩ K a w:=by
 obtain ⟨b,hb,rfl⟩:=hA
 have es:a.eval (.tmp s)=.pointer (some ⟨b,i * T.n+o,none⟩):=h.evo (x:=.tmp s) hs
 split at ht
 ·rename_i fs oJ
  obtain ⟨i',dd,z,hi,o0,hz,Oh,jz,iS,fG,gP,_⟩:=bl (TT _ _ oJ)
  obtain ⟨l,rfl,hm⟩:=gP _ rfl
  obtain ⟨fd,sg,tz⟩:=ja hm f _ ht
  simp only [Option.map_eq_some_iff,Prod.mk.injEq] at tz
  obtain ⟨j,hj,rfl,rfl,rfl⟩:=tz
  have hne:¬ j.size=0:=by have:=Nat.le_of_ble_eq_true gB; omega
  simp only [Array.getElem?_toList] at sg
  refine fU h hw hd (Ev.refl aB w χ) (fun _ _=>rfl) (v:=.pointer (some ⟨b,i * T.n+o+fd.offset,none⟩)) (w':=w) ?_ (fun a' h'=>k _ a' ⟨b,hb,by rw [Nat.add_assoc]⟩ h')
  simp [execOp,es,Instr.fieldAt,run_underlying o0,sg,Instr.sureAddr,fieldPlace,run_sizeOf hj,hne,Addr.add_lit]
 ·cases ht
theorem EW {α:Type} [Inhabited α] {T:ct α} (TT:bh P tab) {t E col s m off:Nat} {y:Operand} {ad:Option Addr} {xs:List α} {c i:Nat} {A:Addr} {x:α} {v:SV} (h:St n sy ρ a w χ) (hw:bK all sy g=true) (iq:Nat.ble 1000 col=true)
  (hs:look sy.bc s=some (V (.pointer (some A)))) (hy:evo sy y=some v) (hO:OS T E w χ col ad xs c) (hA:AdF T ad i off A) (hi:i < xs.length) (gB:ql tab t m=true) (hle:Nat.ble (off+m) T.n=true) (hl:(bj ρ v).cells.size=m)
  (hR:∀ w' χ' cs,T.R w' χ' cs (xs.getD i default)→T.R w' χ' (cs.take off++(bj ρ v).cells.toList++cs.drop (off+m)) x)
  (k:∀ a' w',Ev (gO col) w χ w' χ→OS T E w' χ col ad (xs.set i x) c→St n sy ρ a' w' χ→K a' w') :
  wp1 P all.toArray Q ⟨none,.store t (.tmp s) y,ty,pos,af,g⟩ K a w:=by
 obtain ⟨b',sh,rfl⟩:=hA
 have hle:=Nat.le_of_ble_eq_true hle
 rcases hO.row with ⟨rfl,rfl,rfl⟩ | ⟨b,cells,Ai,hc,hh,PZ,hcm,II,gd⟩
 ·simp at hi
 ·rw [Ai] at sh
  simp only [Option.some.injEq,Addr.mk.injEq,and_true] at sh
  subst sh
  obtain ⟨inf,MV,hm⟩:=kh TT gB
  have Wx:=gd i _ (List.getElem?_eq_getElem hi)
  have WL:xs.getD i default=xs[i]:=by rw [List.getD_eq_getElem?_getD,List.getElem?_eq_getElem hi]; rfl
  have Hz:=hR w χ _ (by rw [WL]; exact Wx)
  have Kr:(bj ρ v).cells.toList.length=m:=by rw [Array.length_toList,hl]
  have rO:∀ c∈(bj ρ v).cells.toList,c.oneCell'=true:=fun c hc=>T.one Hz c (by simp [hc])
  have Ga:(bj ρ v).cells.size=inf.size:=by rw [hl,hm]
  have h1:=dR (m:=T.n) hi
  have h2:=Nat.mul_le_mul_right T.n PZ
  rw [Nat.add_mul,Nat.one_mul] at h1
  have oK:i * T.n+off+(bj ρ v).cells.toList.length≤cells.size:=by
   rw [Kr,II]; omega
  have jH:=hh
  obtain ⟨fr,hh,BZ⟩:=hh
  have gP:=dx P b (i * T.n+off) E fr (bj ρ v).cells.toList 0 cells w hh BZ (by simpa using oK) rO
  simp only [Nat.add_zero] at gP
  have ev:Ev (gO col) w χ (w.setRow b (cells.toList.take (i * T.n+off)++(bj ρ v).cells.toList++cells.toList.drop (i * T.n+off+(bj ρ v).cells.toList.length)).toArray) χ :=
   ⟨rfl,rfl,rfl,by simp,fun b' _ hp=>⟨setRow_other _ _ _ _ (by intro e; rw [e,hc] at hp; simp [gO] at hp),rfl⟩⟩
  have oL:col≠0:=by have:=Nat.le_of_ble_eq_true iq; omega
  have mm:=ev.m0 (show gO col 0=false by cases h:gO col 0 with | false=>rfl | true=>exact absurd (Nat.eq_of_beq_eq_true h).symm oL)
  refine gR (dE h (o:=⟨none,.store t (.tmp s) y,ty,pos,af,g⟩) hw) ?_
  have es:a.eval (.tmp s)=.pointer (some ⟨b,i * T.n+off,none⟩):=h.evo (x:=.tmp s) hs
  have Ac:(storeVar t ⟨b,i * T.n+off,none⟩ (bj ρ v)).run P w=.ok () (w.setRow b (cells.toList.take (i * T.n+off)++(bj ρ v).cells.toList++cells.toList.drop (i * T.n+off+(bj ρ v).cells.toList.length)).toArray):=by
   simp only [storeVar,Sem.run_bind,run_sizeOf MV,Result.andThen_ok,Ga,ne_eq,not_true_eq_false,if_false]
   exact gP
  have hr:(execOp a.eval ⟨none,.store t (.tmp s) y,ty,pos,af,g⟩).run P w=.ok .skip (w.setRow b (cells.toList.take (i * T.n+off)++(bj ρ v).cells.toList++cells.toList.drop (i * T.n+off+(bj ρ v).cells.toList.length)).toArray):=by
   simp only [execOp,es,h.evo hy,Instr.storeAt,Instr.sureAddr,Sem.run_bind,Sem.run_pure,Result.andThen_ok,Ac]
  unfold Oper.wp
  rw [hr]
  simp only [Oper.upon]
  refine k _ _ ev ⟨by simpa using hO.bnd,.inr ⟨b,_,Ai,hc,jH.set (by simp only [List.size_toArray,List.length_append,List.length_take,List.length_drop,Array.length_toList]; omega),by simpa using PZ,hcm,?_,?_⟩⟩ (h.ev ev (cq iq))
  ·simp only [List.size_toArray,List.length_append,List.length_take,List.length_drop,Array.length_toList]
   omega
  ·intro j z hz
   have hjl:j < xs.length:=by have:=(List.getElem?_eq_some_iff.1 hz).1; simpa using this
   rw [List.getElem?_set] at hz
   have UP:=dR (m:=T.n) hjl
   rw [Nat.add_mul,Nat.one_mul] at UP
   have hcl:cells.toList.length=cells.size:=Array.length_toList
   have Dm:(cells.toList.take (i * T.n+off)).length=i * T.n+off:=by simp; omega
   unfold chunk
   simp only [Nat.zero_add]
   by_cases Hx:i=j
   ·subst Hx
    rw [if_pos rfl] at hz
    split at hz
    ·cases hz
     have hx:=hR _ χ _ (by rw [WL]; exact T.mono mm Wx)
     unfold chunk at hx
     rw [Nat.zero_add] at hx
     have e:List.take T.n (List.drop (i * T.n) (cells.toList.take (i * T.n+off)++(bj ρ v).cells.toList++cells.toList.drop (i * T.n+off+(bj ρ v).cells.toList.length)))=(List.take T.n (List.drop (i * T.n) cells.toList)).take off++(bj ρ v).cells.toList++(List.take T.n (List.drop (i * T.n) cells.toList)).drop (off+m):=by
      rw [Kr]
      generalize hV:(bj ρ v).cells.toList=V at *
      apply List.ext_getElem?
      intro q
      have e1:(List.take off (List.take T.n (List.drop (i * T.n) cells.toList))).length=off:=by simp; omega
      by_cases hq:q < T.n
      ·rw [List.getElem?_take,if_pos hq,List.getElem?_drop]
       by_cases q1:q < off
       ·rw [List.append_assoc,List.getElem?_append_left (by omega),List.getElem?_take,if_pos (by omega),List.append_assoc,List.getElem?_append_left (by omega),List.getElem?_take,if_pos q1,List.getElem?_take,if_pos hq,List.getElem?_drop]
       ·by_cases q2:q < off+m
        ·rw [List.append_assoc,List.getElem?_append_right (by omega),List.getElem?_append_left (by omega),List.append_assoc,List.getElem?_append_right (by omega),List.getElem?_append_left (by omega),Dm,e1]
         congr 1; omega
        ·rw [List.getElem?_append_right (by rw [List.length_append]; omega),List.getElem?_append_right (by rw [List.length_append]; omega),List.getElem?_drop,List.getElem?_drop,List.getElem?_take,List.length_append,List.length_append,Dm,e1,if_pos (by omega),List.getElem?_drop]
         congr 1; omega
      ·rw [List.getElem?_eq_none (by rw [List.length_take]; omega),List.getElem?_eq_none]
       simp only [List.length_append,List.length_take,List.length_drop]
       omega
     show T.R _ _ (List.take T.n (List.drop (i * T.n) (cells.toList.take (i * T.n+off)++(bj ρ v).cells.toList++cells.toList.drop (i * T.n+off+(bj ρ v).cells.toList.length)))) x
     rw [e]
     exact hx
    ·omega
   ·rw [if_neg Hx] at hz
    have hx:=T.mono mm (gd j z hz)
    unfold chunk at hx
    rw [Nat.zero_add] at hx
    have:List.take T.n (List.drop (j * T.n) (cells.toList.take (i * T.n+off)++(bj ρ v).cells.toList++cells.toList.drop (i * T.n+off+(bj ρ v).cells.toList.length)))=List.take T.n (List.drop (j * T.n) cells.toList):=by
     apply List.ext_getElem?
     intro q
     rw [List.getElem?_take,List.getElem?_take]
     by_cases hq:q < T.n
     ·rw [if_pos hq,if_pos hq,List.getElem?_drop,List.getElem?_drop]
      rcases Nat.lt_or_gt_of_ne Hx with eS | hgt
      ·have h3:=Nat.mul_le_mul_right T.n eS
       rw [Nat.succ_mul] at h3
       rw [List.getElem?_append_right (by rw [List.length_append,Dm,Kr]; omega),List.length_append,Dm,Kr,List.getElem?_drop]
       congr 1
       omega
      ·have h3:=Nat.mul_le_mul_right T.n hgt
       rw [Nat.succ_mul] at h3
       rw [List.append_assoc,List.getElem?_append_left (by omega),List.getElem?_take,if_pos (by omega)]
     ·rw [if_neg hq,if_neg hq]
    show T.R _ _ (List.take T.n (List.drop (j * T.n) (cells.toList.take (i * T.n+off)++(bj ρ v).cells.toList++cells.toList.drop (i * T.n+off+(bj ρ v).cells.toList.length)))) z
    rw [this]
    exact hx
section
variable {nrm ret:Act→World→Prop} {exs:List (Nat × (Act→World→Prop))} {rg:List (Nat × SV)} {bx:List (Nat × (Nat × List SV))}
def tts (n:Nat):Array Bool:=Array.replicate n true
def edr:List Nat→List (Nat × SV)→List (Nat × SV)
 | _,[]=>[]
 | d,q :: l=>bif d.any (Nat.beq q.1) then edr d l else q :: edr (q.1 :: d) l
def ed (d:List Nat) (nw rg:List (Nat × SV)):List (Nat × SV):=nw++edr (nw.map (fun q=>q.1)++d) rg
theorem oPe {all l:List Oper} {Q:Exit→Act→World→Prop} (T:bh P tab) (h:St n ⟨rg,bx⟩ ρ a w χ) (m:Nat) (d:List Nat) (nw:List (Nat × SV)) (k:∀ a,St n ⟨ed d nw rg,bx⟩ ρ a w χ→wpList P all.toArray Q (l.drop m) a w) (sp:List Nat:=[])
  (e:run tab false sp n all (l.take m) (rks ⟨ed d nw rg,bx⟩) (rbs ⟨ed d nw rg,bx⟩) ⟨rg,bx⟩=some ⟨ed d nw rg,bx⟩:=by kernel_rfl):wpList P all.toArray Q l a w:=oP T h m _ k sp e
theorem ePe {all l:List Oper} {K:Act→World→Prop} (T:bh P tab) (h:St n ⟨rg,bx⟩ ρ a w χ) (d:List Nat) (nw:List (Nat × SV)) (k:∀ a,St n ⟨ed d nw rg,bx⟩ ρ a w χ→K a w) (sp:List Nat:=[])
  (e:run tab false sp n all l (rks ⟨ed d nw rg,bx⟩) (rbs ⟨ed d nw rg,bx⟩) ⟨rg,bx⟩=some ⟨ed d nw rg,bx⟩:=by kernel_rfl):wpList P all.toArray (qs K ret exs) l a w:=eP T h _ k sp e
theorem rPe {id:Nat} {l:List Oper} {y:Code} (T:bh P tab) (h:St n ⟨rg,bx⟩ ρ a w χ) (d:List Nat) (nw:List (Nat × SV)) (k:∀ a,St n ⟨ed d nw rg,bx⟩ ρ a w χ→y.wp P (qs nrm ret exs) a w) (sp:List Nat:=[])
  (e:run tab false sp n l l (rks ⟨ed d nw rg,bx⟩) (rbs ⟨ed d nw rg,bx⟩) ⟨rg,bx⟩=some ⟨ed d nw rg,bx⟩:=by kernel_rfl):(Code.seq (Code.region id l.toArray false) y).wp P (qs nrm ret exs) a w:=rP T h _ k sp e
theorem St.sle (h:St n ⟨rg,bx⟩ ρ a w χ) (d:List Nat) (nw:List (Nat × SV)) (e:Sv.bW (rks ⟨ed d nw rg,bx⟩) (rbs ⟨ed d nw rg,bx⟩) ⟨rg,bx⟩=⟨ed d nw rg,bx⟩:=by kernel_rfl):St n ⟨ed d nw rg,bx⟩ ρ a w χ:=h.sl _ e
theorem tke {w0:World} {χ0:Nat→Nat} {bxs:List (Nat × (Nat × List SV))} {listed:Array Bool} {m:Nat} (TT:bh P tab) (is bks:List Nat) (h:St n ⟨rg,bx⟩ ρ a w χ) (H:br w0 χ0 bxs ρ w) (listed':Array Bool) (fuel:Nat) (d:List Nat) (nw:List (Nat × SV))
  (k:∀ a',St n ⟨ed d nw rg,bx⟩ ρ a' w χ→Dr P all (qs nrm ret exs) (br w0 χ0 bxs ρ) listed' fuel a' w)
  (oe:Region.noSelect all.toArray=true:=by kernel_rfl) (hn:Nat.ble n 999=true:=by kernel_rfl) (hb:oM bks ⟨rg,bx⟩=bxs:=by kernel_rfl)
  (e:(match iV tab n all bks is listed ⟨rg,bx⟩ with | some (l,s)=>some (l,(⟨(bW (rks ⟨ed d nw rg,bx⟩) [] s).bc,bx⟩:Sy)) | none=>none)=some (listed',⟨ed d nw rg,bx⟩):=by as_aux_lemma=>kernel_rfl) (hf:m=fuel+is.length:=by rfl) :
  Dr P all (qs nrm ret exs) (br w0 χ0 bxs ρ) listed m a w:=tk TT is bks h H listed' fuel _ k oe hn hb e hf
end
section
variable {p:Nat→Bool} {w':World} {χ':Nat→Nat}
theorem RS.m1 {α:Type} {T:ct α} {a:Option Addr} {xs:List α} {c:Nat} (h:RS T w χ a xs c) (e:Ev p w χ w' χ') (hp:p 0=false:=by rfl):RS T w' χ' a xs c:=h.mv e hp
theorem At.m1 {α:Type} {T:ct α} {A:Addr} {x:α} (h:At T w χ A x) (e:Ev p w χ w' χ') (hp:p 0=false:=by rfl):At T w' χ' A x:=h.mv e hp
theorem OS.m2 {α:Type} {T:ct α} {E col:Nat} {a:Option Addr} {xs:List α} {c:Nat} (h:OS T E w χ col a xs c) (e:Ev p w χ w' χ') (hp:p col=false:=by rfl) (h0:p 0=false:=by rfl):OS T E w' χ' col a xs c:=h.mv e hp h0
theorem OM.m2 {κ α:Type} {R:nm κ} {T:ct α} {ag:Bool} {col r:Nat} {m:List (κ × α)} (h:OM R T ag w χ col r m) (e:Ev p w χ w' χ') (hp:p col=false:=by rfl) (h0:p 0=false:=by rfl):OM R T ag w' χ' col r m:=h.mv e hp h0
theorem iR.m2 {f0:Nat→Nat} {w0:World} {χc:Nat→Nat} (h:iR f0 w0 χc w χ) (e:Ev p w χ w' χ') (h0:p 0=false:=by rfl) (h1:p 1000=false:=by rfl):iR f0 w0 χc w' χ':=h.mv e h0 h1
theorem Old.m2 {w0:World} {χc:Nat→Nat} (h:Old w0 χc w χ) (e:Ev p w χ w' χ') (h0:p 0=false:=by rfl) (h1:p 1000=false:=by rfl):Old w0 χc w' χ':=h.mv e h0 h1
end
end ops
end
end Go.Sv
