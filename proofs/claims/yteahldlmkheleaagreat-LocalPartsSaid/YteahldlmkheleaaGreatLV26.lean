/- bk is sS is a MU ms. -/
import Derived.Test.YteahldlmkheleaaGreatLV25
set_option linter.all false
namespace Go.Proofs.YteahldlmkheleaaGreat
open Go Go.Sv Go.Pu
theorem rf:∀ {a b:List Int},List.Pairwise (· < ·) a→List.Pairwise (· < ·) b→(∀ x,x∈a↔x∈b)→a=b
 | [],[],_,_,_=>rfl
 | [],y :: b,_,_,h=>by have:=(h y).2 (List.mem_cons_self ..); cases this
 | x :: a,[],_,_,h=>by have:=(h x).1 (List.mem_cons_self ..); cases this
 | x :: a,y :: b,ha,hb,h=>by
  rw [List.pairwise_cons] at ha hb
  have e:x=y:=by
   rcases List.mem_cons.1 ((h x).1 (List.mem_cons_self ..)) with e | e
   ·exact e
   ·rcases List.mem_cons.1 ((h y).2 (List.mem_cons_self ..)) with e2 | e2
    ·exact e2.symm
    ·have:=hb.1 x e; have:=ha.1 y e2; omega
  subst e
  rw [rf ha.2 hb.2 (fun z=>?_)]
  constructor
  ·intro hz
   rcases List.mem_cons.1 ((h z).1 (List.mem_cons_of_mem _ hz)) with e | e
   ·subst e; have:=ha.1 z hz; omega
   ·exact e
  ·intro hz
   rcases List.mem_cons.1 ((h z).2 (List.mem_cons_of_mem _ hz)) with e | e
   ·subst e; have:=hb.1 z hz; omega
   ·exact e
section joined
variable {h:ak} (hc:(aB h).2=0) (h20:(bp h).length≤20) (hok:∀ j,j < h.ae.length→gZ (bp h) (ofH h) h.ae j)
def cS (h:ak):List (List aa):=fc (bp h) (ofH h) h.ae h.ae.length
def mc (h:ak):List Int:=(jG (bp h) (cS h)).1
def kK (h:ak):List aa:=(mc h).map (gi (cS h).flatten)
include hc h20 hok
theorem lZ:(mc h).length=(cS h).flatten.length∧(∀ x∈mc h,0≤x∧x < (cS h).flatten.length)∧(mc h).Nodup∧rB ((cS h).flatten.length:Nat) (b9 (bp h) (cS h)).2 (mc h):=by
 have:=re (n:=(cS h).flatten.length) (pairs:=(b9 (bp h) (cS h)).2) (xy hc h20 hok)
 exact ⟨this.1,this.2.2.1,this.2.2.2.1,this.2.2.2.2⟩
theorem xr {a:Nat} (ha:a < (cS h).flatten.length):(a:Int)∈mc h:=by
 obtain ⟨h1,h2,h3,_⟩:=lZ hc h20 hok
 refine Classical.byContradiction (fun hn=>?_)
 have hd:((a:Int) :: mc h).Nodup:=by
  rw [List.nodup_cons]; exact ⟨hn,h3⟩
 have:=lO (b:=(List.range (cS h).flatten.length).map fun i:Nat=>(i:Int)) hd (fun x hx=>by
  rcases List.mem_cons.1 hx with rfl | hx
  ·exact List.mem_map.2 ⟨a,List.mem_range.2 ha,rfl⟩
  ·have:=h2 x hx
   exact List.mem_map.2 ⟨x.toNat,List.mem_range.2 (by omega),by omega⟩)
 rw [List.length_cons,List.length_map,List.length_range,h1] at this
 omega
omit hc h20 hok in
theorem hK (h:ak):(cS h).length=h.ae.length:=pN _ _ _ _
omit hc h20 hok in
theorem tQ {r:Nat} (hr:r < h.ae.length):gi (cS h) (r:Int)=(nU h r).map (fR (aP (ofH h) (r:Int))):=by
 unfold cS; rw [si hr]; rfl
omit hc h20 in
theorem BM {r o:Nat} (hr:r < h.ae.length) (ho:o < (gi (cS h) (r:Int)).length):gi (ofH h) (gi (cS h).flatten ((base (cS h) r+o:Nat):Int)).Oper=(r:Int)∧0≤(gi (cS h).flatten ((base (cS h) r+o:Nat):Int)).Oper∧(gi (cS h).flatten ((base (cS h) r+o:Nat):Int)).Oper < (bp h).length:=by
 rw [qG (by rw [hK]; exact hr) ho]
 have hm:gi (gi (cS h) (r:Int)) (o:Int)∈gi (cS h) (r:Int):=dq (by omega) (by omega)
 unfold cS at hm ⊢
 rw [si hr] at hm ⊢
 have:=kX (nX (eA h) (hok r hr) hm)
 have hl:=eA h
 exact ⟨this.2.2,this.1,by omega⟩
theorem chain {r:Nat} (hr:r < h.ae.length):∀ o:Nat,o < (gi (cS h) (r:Int)).length→∀ i:Nat,i < (mc h).length→gi (mc h) (i:Int)=((base (cS h) r+o:Nat):Int)→∀ u:Nat,u < o→∃ j:Nat,j < i∧gi (mc h) (j:Int)=((base (cS h) r+u:Nat):Int)
 | 0,_,i,_,_,u,hu=>by omega
 | o+1,ho,i,hi,he,u,hu=>by
  obtain ⟨h1,h2,h3,h4⟩:=lZ hc h20 hok
  have Ck:r < (cS h).length:=by rw [hK]; exact hr
  have qo:(((base (cS h) r+o:Nat):Int),((base (cS h) r+o+1:Nat):Int))∈(b9 (bp h) (cS h)).2:=by
   have:=(ko (rows:=cS h) (p:=(((base (cS h) r+o:Nat):Int),((base (cS h) r+o+1:Nat):Int))) (cS h).length (Nat.le_refl _)).2 ⟨r,o,Ck,ho,rfl⟩
   rw [List.take_length] at this
   exact List.mem_append.2 (.inl this)
  have hb1:=jr Ck (by omega:o < _)
  have hb2:=jr Ck ho
  obtain ⟨j,hj,hg⟩:=h4 _ qo (by unfold dR; rw [decide_eq_true_eq]; dsimp only; omega) i hi (by rw [he]; rfl)
  dsimp only at hg
  by_cases e:u=o
  ·subst e; exact ⟨j,hj,hg⟩
  ·obtain ⟨j2,h5,h6⟩:=chain hr o (by omega) j (by omega) hg u (by omega)
   exact ⟨j2,by omega,h6⟩
theorem wi {r:Nat} (hr:r < h.ae.length):gv (ofH h) (r:Int) (kK h)=gi (cS h) (r:Int):=by
 obtain ⟨h1,h2,h3,h4⟩:=lZ hc h20 hok
 have Ck:r < (cS h).length:=by rw [hK]; exact hr
 unfold gv kK
 rw [List.filter_map]
 have vo:∀ x∈mc h,((fun p:aa=>gi (ofH h) p.Oper == (r:Int)) ∘ gi (cS h).flatten) x=true↔∃ o:Nat,o < (gi (cS h) (r:Int)).length∧x=((base (cS h) r+o:Nat):Int):=fun x hx=>by
  obtain ⟨x0,x1⟩:=h2 x hx
  obtain ⟨n,rfl⟩:=Int.eq_ofNat_of_zero_le x0
  obtain ⟨s,o,s1,s2,rfl⟩:=lW (rows:=cS h) (a:=n) (by omega)
  have hs:s < h.ae.length:=by rw [hK] at s1; exact s1
  have:=BM hok hs s2
  show (gi (ofH h) (gi (cS h).flatten ((base (cS h) s+o:Nat):Int)).Oper == (r:Int))=true↔_
  rw [this.1,beq_iff_eq]
  constructor
  ·intro e
   have e:s=r:=by omega
   subst e
   exact ⟨o,s2,rfl⟩
  ·rintro ⟨o',o1,o2⟩
   rw [(rV s1 s2 Ck o1 (by omega)).1]
 have hs:(mc h).filter ((fun p:aa=>gi (ofH h) p.Oper == (r:Int)) ∘ gi (cS h).flatten)=(List.range (gi (cS h) (r:Int)).length).map fun o:Nat=>((base (cS h) r+o:Nat):Int):=by
  refine rf ?_ ?_ (fun x=>?_)
  ·rw [List.pairwise_filter]
   rw [List.pairwise_iff_getElem]
   intro i j hi hj wq pi pj
   obtain ⟨a,a1,a2⟩:=(vo _ (List.getElem_mem hi)).1 pi
   obtain ⟨b,b1,b2⟩:=(vo _ (List.getElem_mem hj)).1 pj
   rw [a2,b2]
   rcases Nat.lt_trichotomy a b with hl | hl | hl
   ·omega
   ·subst hl
    exact absurd (qd h3 hi hj (by rw [bS _ _ hi,bS _ _ hj,a2,b2])) (by omega)
   ·obtain ⟨m,m1,m2⟩:=chain hc h20 hok hr a a1 i hi (by rw [bS _ _ hi,a2]) b hl
    have:=qd h3 (i:=m) (j:=j) (by omega) hj (by rw [m2,bS _ _ hj,b2])
    omega
  ·rw [List.pairwise_map]
   exact List.Pairwise.imp (fun {a b} Rv=>by omega) (List.pairwise_lt_range)
  ·rw [List.mem_filter,List.mem_map]
   constructor
   ·rintro ⟨hx,hp⟩
    obtain ⟨o,o1,o2⟩:=(vo x hx).1 hp
    exact ⟨o,List.mem_range.2 o1,o2.symm⟩
   ·rintro ⟨o,o1,rfl⟩
    have o1:=List.mem_range.1 o1
    have hm:=xr hc h20 hok (jr Ck o1)
    exact ⟨hm,(vo _ hm).2 ⟨o,o1,rfl⟩⟩
 rw [hs,List.map_map]
 refine List.ext_getElem (by simp) (fun i i1 i2=>?_)
 rw [List.getElem_map,List.getElem_range]
 show gi (cS h).flatten ((base (cS h) r+i:Nat):Int)=_
 rw [qG Ck i2,bS _ _ i2]
theorem xo {k:Nat} (hk:k < (bp h).length) (he:(gi (bp h) (k:Int)).End≠-1):∃ a:Nat,a < (cS h).flatten.length∧(gi (cS h).flatten (a:Int)).Oper=(k:Int):=by
 have hl:=eA h
 have hin:=xu hc (gi (ofH h) (k:Int)) (dq (by omega) (by omega))
 obtain ⟨r,hr⟩:=Int.eq_ofNat_of_zero_le hin.1
 rw [hr] at hin
 have K2:r < h.ae.length:=by omega
 have hm:(k:Int)∈aP (ofH h) (r:Int):=by rw [fZ]; exact n6.2 ⟨by omega,by omega,hr⟩
 obtain ⟨i,hi,e⟩:=List.getElem_of_mem hm
 have hN:=p9 h (r:Int)
 have hg:gi (aP (ofH h) (r:Int)) (i:Int)=(k:Int):=by rw [bS _ _ hi,e]
 have hA:=(hN.2.1 i (by rw [hN.1]; exact hi)).1
 rw [hg] at hA
 have qo:=ye (pJ (hok r K2)) (k:=i) (by rw [hN.1]; exact hi) (by rw [hA]; exact he)
 obtain ⟨q,hq,OH⟩:=ny.1 qo
 obtain ⟨o,ho,e2⟩:=List.getElem_of_mem hq
 have jX:=tQ K2
 have Ck:r < (cS h).length:=by rw [hK]; exact K2
 have hlen:o < (gi (cS h) (r:Int)).length:=by rw [jX,List.length_map]; exact ho
 refine ⟨base (cS h) r+o,jr Ck hlen,?_⟩
 rw [qG Ck hlen,jX,kp _ (by omega) (by omega),bS _ _ ho,e2]
 show gi (aP (ofH h) (r:Int)) q.Oper=_
 rw [OH,hg]
theorem yV:k4 h (kK h):=by
 obtain ⟨h1,h2,h3,h4⟩:=lZ hc h20 hok
 have hH:nQ (bN h) (bp h):=ph (je hc).1
 have A3:(kK h).length=(cS h).flatten.length:=by unfold kK; rw [List.length_map,h1]
 have M5:∀ y:Nat,y < (cS h).flatten.length→gi (kK h) (y:Int)=gi (cS h).flatten (gi (mc h) (y:Int)):=fun y hy=>by
  unfold kK; exact kp _ (by omega) (by omega)
 have hin:∀ x∈mc h,0≤(gi (cS h).flatten x).Oper∧(gi (cS h).flatten x).Oper < (bp h).length:=fun x hx=>by
  obtain ⟨x0,x1⟩:=h2 x hx
  obtain ⟨n,rfl⟩:=Int.eq_ofNat_of_zero_le x0
  obtain ⟨s,o,s1,s2,rfl⟩:=lW (rows:=cS h) (a:=n) (by omega)
  exact (BM hok (by rw [hK] at s1; exact s1) s2).2
 have ended:∀ k:Nat,k < (bp h).length→(gi (bp h) (k:Int)).End≠-1→(k:Int)∈opers (kK h):=fun k hk he=>by
  obtain ⟨a,ha,PC⟩:=xo hc h20 hok hk he
  refine ny.2 ⟨gi (cS h).flatten (a:Int),?_,PC⟩
  unfold kK
  exact List.mem_map.2 ⟨_,xr hc h20 hok ha,rfl⟩
 refine ⟨fun q hq=>?_,fun k hk=>?_,fun y hy=>tj (fun k hk ⟨ha,hn⟩=>?_),fun m hm=>?_⟩
 ·unfold kK at hq
  obtain ⟨x,hx,rfl⟩:=List.mem_map.1 hq
  exact hin x hx
 ·rw [wi hc h20 hok hk,tQ hk,oF (p9 h (k:Int)) (nc (hok k hk)).2]
  exact (n8.1 (pJ (hok k hk))).2.2.1
 ·rw [A3] at hy
  rw [M5 y hy] at ha
  have OT:gi (mc h) (y:Int)∈mc h:=dq (by omega) (by omega)
  obtain ⟨y0,y1⟩:=h2 _ OT
  obtain ⟨b,hb⟩:=Int.eq_ofNat_of_zero_le y0
  rw [hb] at ha y1
  have LD:=ha
  unfold bh at LD
  rw [Bool.and_eq_true,decide_eq_true_eq,decide_eq_true_eq] at LD
  obtain ⟨a,PE,LE⟩:=xo hc h20 hok hk (by omega)
  have qo:((a:Int),(b:Int))∈(b9 (bp h) (cS h)).2:=List.mem_append.2 (.inr (mu.2 ⟨a,b,PE,by omega,by unfold lG; rw [LE]; exact ha,rfl⟩))
  have hne:a≠b:=by
   rintro rfl
   rw [LE] at LD
   have:=fo (hH.one k hk).1
   omega
  obtain ⟨j,hj,hg⟩:=h4 _ qo (by unfold dR; rw [decide_eq_true_eq]; dsimp only; omega) y (by omega) (by rw [hb])
  dsimp only at hg
  refine hn ?_
  rw [mK]
  refine ns.2 ⟨j,hj,by rw [gg]; omega,?_⟩
  rw [kF (by omega),M5 j (by omega),hg,LE]
 ·obtain ⟨m0,m1,m2,m3⟩:=hU.1 hm
  obtain ⟨n,rfl⟩:=Int.eq_ofNat_of_zero_le m0
  exact m3 (ended n (by omega) m2)
theorem Da:cG h=(kK h,0):=by
 have Di:cd h=(bp h,ofH h,0):=by
  unfold cd; rw [if_neg (by omega),if_neg (by omega)]
 have OJ:cz h (bp h) (ofH h)=(cS h,0):=by
  rcases lK h (bp h) (ofH h) with ⟨j,j1,_,j3,_⟩ | ⟨_,e⟩
  ·exact absurd (hok j j1) j3
  ·exact e
 unfold cG
 rw [Di,OJ]
 dsimp only
 have hj:(jG (bp h) (cS h)).2=true:=xy hc h20 hok
 rw [if_neg (by decide),if_neg (by decide),if_neg (by rw [hj]; decide)]
 rfl
end joined
theorem wk (h:ak):((aB h).2≠0∧cG h=([],(aB h).2))∨((aB h).2=0∧(bp h).length > 20∧cG h=([],3))∨((aB h).2=0∧(bp h).length≤20∧(∃ j,j < h.ae.length∧¬ gZ (bp h) (ofH h) h.ae j)∧cG h=([],41))∨((aB h).2=0∧(bp h).length≤20∧(∀ j,j < h.ae.length→gZ (bp h) (ofH h) h.ae j)∧cG h=(kK h,0)):=by
 by_cases hc:(aB h).2=0
 ·by_cases h20:(bp h).length≤20
  ·have Di:cd h=(bp h,ofH h,0):=by
    unfold cd; rw [if_neg (by omega),if_neg (by omega)]
   rcases lK h (bp h) (ofH h) with ⟨j,j1,j2,j3,j4⟩ | ⟨j1,j2⟩
   ·refine .inr (.inr (.inl ⟨hc,h20,⟨j,j1,j3⟩,?_⟩))
    have:=(AJ hc h20 j1 j3).1
    unfold cG
    rw [Di,j4,this]
    dsimp only
    rw [if_neg (by decide),if_pos (by decide)]
   ·exact .inr (.inr (.inr ⟨hc,h20,j1,Da hc h20 j1⟩))
  ·refine .inr (.inl ⟨hc,by omega,?_⟩)
   have Di:cd h=([],[],3):=by
    unfold cd; rw [if_neg (by omega),if_pos (by omega)]
   unfold cG
   rw [Di]
   dsimp only
   rw [if_pos (by decide)]
 ·refine .inl ⟨hc,?_⟩
  have Di:cd h=([],[],(aB h).2):=by
   unfold cd; rw [if_pos hc]
  unfold cG
  rw [Di]
  dsimp only
  rw [if_pos hc]
end Go.Proofs.YteahldlmkheleaaGreat
