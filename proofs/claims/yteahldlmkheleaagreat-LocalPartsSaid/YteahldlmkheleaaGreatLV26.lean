/- What is joined is a joint linearization. -/
import Derived.Test.YteahldlmkheleaaGreatLV25
set_option linter.all false
namespace Go.Proofs.YteahldlmkheleaaGreat
open Go Go.Sv Go.Pu
theorem sh:∀ {a b:List Int},List.Pairwise (· < ·) a→List.Pairwise (· < ·) b→(∀ x,x∈a↔x∈b)→a=b
 | [],[],_,_,_=>rfl
 | [],y :: b,_,_,h=>by have:=(h y).2 (List.mem_cons_self ..); cases this
 | x :: a,[],_,_,h=>by have:=(h x).1 (List.mem_cons_self ..); cases this
 | x :: a,y :: b,ha,hb,h=>by
  rw [List.pairwise_cons] at ha hb
  have e:x=y:=by
   rcases List.mem_cons.1 ((h x).1 (List.mem_cons_self ..)) with e | e
   ·exact e
   ·rcases List.mem_cons.1 ((h y).2 (List.mem_cons_self ..)) with e2 | e2
    ·exact e2.symm
    ·have:=hb.1 x e; have:=ha.1 y e2; omega
  subst e
  rw [sh ha.2 hb.2 (fun z=>?_)]
  constructor
  ·intro hz
   rcases List.mem_cons.1 ((h z).1 (List.mem_cons_of_mem _ hz)) with e | e
   ·subst e; have:=ha.1 z hz; omega
   ·exact e
  ·intro hz
   rcases List.mem_cons.1 ((h z).2 (List.mem_cons_of_mem _ hz)) with e | e
   ·subst e; have:=hb.1 z hz; omega
   ·exact e
section joined
variable {h:al} (hc:(aE h).2=0) (h20:(bz h).length≤20) (hok:∀ j,j < h.ae.length→iw (bz h) (ofH h) h.ae j)
def c8 (h:al):List (List aa):=fC (bz h) (ofH h) h.ae h.ae.length
def mW (h:al):List Int:=(km (bz h) (c8 h)).1
def ly (h:al):List aa:=(mW h).map (gi (c8 h).flatten)
include hc h20 hok
theorem mL:(mW h).length=(c8 h).flatten.length∧(∀ x∈mW h,0≤x∧x < (c8 h).flatten.length)∧(mW h).Nodup∧sE ((c8 h).flatten.length:Nat) (cj (bz h) (c8 h)).2 (mW h):=by
 have:=sg (n:=(c8 h).flatten.length) (pairs:=(cj (bz h) (c8 h)).2) (yQ hc h20 hok)
 exact ⟨this.1,this.2.2.1,this.2.2.2.1,this.2.2.2.2⟩
theorem yK {a:Nat} (ha:a < (c8 h).flatten.length):(a:Int)∈mW h:=by
 obtain ⟨h1,h2,h3,_⟩:=mL hc h20 hok
 refine Classical.byContradiction (fun hn=>?_)
 have hd:((a:Int) :: mW h).Nodup:=by
  rw [List.nodup_cons]; exact ⟨hn,h3⟩
 have:=mA (b:=(List.range (c8 h).flatten.length).map fun i:Nat=>(i:Int)) hd (fun x hx=>by
  rcases List.mem_cons.1 hx with rfl | hx
  ·exact List.mem_map.2 ⟨a,List.mem_range.2 ha,rfl⟩
  ·have:=h2 x hx
   exact List.mem_map.2 ⟨x.toNat,List.mem_range.2 (by omega),by omega⟩)
 rw [List.length_cons,List.length_map,List.length_range,h1] at this
 omega
omit hc h20 hok in
theorem iC (h:al):(c8 h).length=h.ae.length:=qE _ _ _ _
omit hc h20 hok in
theorem uX {r:Nat} (hr:r < h.ae.length):gi (c8 h) (r:Int)=(oR h r).map (gm (aS (ofH h) (r:Int))):=by
 unfold c8; rw [tx hr]; rfl
omit hc h20 in
theorem CZ {r o:Nat} (hr:r < h.ae.length) (ho:o < (gi (c8 h) (r:Int)).length):gi (ofH h) (gi (c8 h).flatten ((base (c8 h) r+o:Nat):Int)).Oper=(r:Int)∧0≤(gi (c8 h).flatten ((base (c8 h) r+o:Nat):Int)).Oper∧(gi (c8 h).flatten ((base (c8 h) r+o:Nat):Int)).Oper < (bz h).length:=by
 rw [rH (by rw [iC]; exact hr) ho]
 have hm:gi (gi (c8 h) (r:Int)) (o:Int)∈gi (c8 h) (r:Int):=dB (by omega) (by omega)
 unfold c8 at hm ⊢
 rw [tx hr] at hm ⊢
 have:=lL (oU (eR h) (hok r hr) hm)
 have hl:=eR h
 exact ⟨this.2.2,this.1,by omega⟩
theorem chain {r:Nat} (hr:r < h.ae.length):∀ o:Nat,o < (gi (c8 h) (r:Int)).length→∀ i:Nat,i < (mW h).length→gi (mW h) (i:Int)=((base (c8 h) r+o:Nat):Int)→∀ u:Nat,u < o→∃ j:Nat,j < i∧gi (mW h) (j:Int)=((base (c8 h) r+u:Nat):Int)
 | 0,_,i,_,_,u,hu=>by omega
 | o+1,ho,i,hi,he,u,hu=>by
  obtain ⟨h1,h2,h3,h4⟩:=mL hc h20 hok
  have DB:r < (c8 h).length:=by rw [iC]; exact hr
  have rk:(((base (c8 h) r+o:Nat):Int),((base (c8 h) r+o+1:Nat):Int))∈(cj (bz h) (c8 h)).2:=by
   have:=(lb (rows:=c8 h) (p:=(((base (c8 h) r+o:Nat):Int),((base (c8 h) r+o+1:Nat):Int))) (c8 h).length (Nat.le_refl _)).2 ⟨r,o,DB,ho,rfl⟩
   rw [List.take_length] at this
   exact List.mem_append.2 (.inl this)
  have hb1:=jW DB (by omega:o < _)
  have hb2:=jW DB ho
  obtain ⟨j,hj,hg⟩:=h4 _ rk (by unfold ec; rw [decide_eq_true_eq]; dsimp only; omega) i hi (by rw [he]; rfl)
  dsimp only at hg
  by_cases e:u=o
  ·subst e; exact ⟨j,hj,hg⟩
  ·obtain ⟨j2,h5,h6⟩:=chain hr o (by omega) j (by omega) hg u (by omega)
   exact ⟨j2,by omega,h6⟩
theorem xD {r:Nat} (hr:r < h.ae.length):gT (ofH h) (r:Int) (ly h)=gi (c8 h) (r:Int):=by
 obtain ⟨h1,h2,h3,h4⟩:=mL hc h20 hok
 have DB:r < (c8 h).length:=by rw [iC]; exact hr
 unfold gT ly
 rw [List.filter_map]
 have wH:∀ x∈mW h,((fun p:aa=>gi (ofH h) p.Oper == (r:Int)) ∘ gi (c8 h).flatten) x=true↔∃ o:Nat,o < (gi (c8 h) (r:Int)).length∧x=((base (c8 h) r+o:Nat):Int):=fun x hx=>by
  obtain ⟨x0,x1⟩:=h2 x hx
  obtain ⟨n,rfl⟩:=Int.eq_ofNat_of_zero_le x0
  obtain ⟨s,o,s1,s2,rfl⟩:=mI (rows:=c8 h) (a:=n) (by omega)
  have hs:s < h.ae.length:=by rw [iC] at s1; exact s1
  have:=CZ hok hs s2
  show (gi (ofH h) (gi (c8 h).flatten ((base (c8 h) s+o:Nat):Int)).Oper == (r:Int))=true↔_
  rw [this.1,beq_iff_eq]
  constructor
  ·intro e
   have e:s=r:=by omega
   subst e
   exact ⟨o,s2,rfl⟩
  ·rintro ⟨o',o1,o2⟩
   rw [(td s1 s2 DB o1 (by omega)).1]
 have hs:(mW h).filter ((fun p:aa=>gi (ofH h) p.Oper == (r:Int)) ∘ gi (c8 h).flatten)=(List.range (gi (c8 h) (r:Int)).length).map fun o:Nat=>((base (c8 h) r+o:Nat):Int):=by
  refine sh ?_ ?_ (fun x=>?_)
  ·rw [List.pairwise_filter]
   rw [List.pairwise_iff_getElem]
   intro i j hi hj xK pi pj
   obtain ⟨a,a1,a2⟩:=(wH _ (List.getElem_mem hi)).1 pi
   obtain ⟨b,b1,b2⟩:=(wH _ (List.getElem_mem hj)).1 pj
   rw [a2,b2]
   rcases Nat.lt_trichotomy a b with hl | hl | hl
   ·omega
   ·subst hl
    exact absurd (q6 h3 hi hj (by rw [bZ _ _ hi,bZ _ _ hj,a2,b2])) (by omega)
   ·obtain ⟨m,m1,m2⟩:=chain hc h20 hok hr a a1 i hi (by rw [bZ _ _ hi,a2]) b hl
    have:=q6 h3 (i:=m) (j:=j) (by omega) hj (by rw [m2,bZ _ _ hj,b2])
    omega
  ·rw [List.pairwise_map]
   exact List.Pairwise.imp (fun {a b} Tc=>by omega) (List.pairwise_lt_range)
  ·rw [List.mem_filter,List.mem_map]
   constructor
   ·rintro ⟨hx,hp⟩
    obtain ⟨o,o1,o2⟩:=(wH x hx).1 hp
    exact ⟨o,List.mem_range.2 o1,o2.symm⟩
   ·rintro ⟨o,o1,rfl⟩
    have o1:=List.mem_range.1 o1
    have hm:=yK hc h20 hok (jW DB o1)
    exact ⟨hm,(wH _ hm).2 ⟨o,o1,rfl⟩⟩
 rw [hs,List.map_map]
 refine List.ext_getElem (by simp) (fun i i1 i2=>?_)
 rw [List.getElem_map,List.getElem_range]
 show gi (c8 h).flatten ((base (c8 h) r+i:Nat):Int)=_
 rw [rH DB i2,bZ _ _ i2]
theorem yH {k:Nat} (hk:k < (bz h).length) (he:(gi (bz h) (k:Int)).End≠-1):∃ a:Nat,a < (c8 h).flatten.length∧(gi (c8 h).flatten (a:Int)).Oper=(k:Int):=by
 have hl:=eR h
 have hin:=yM hc (gi (ofH h) (k:Int)) (dB (by omega) (by omega))
 obtain ⟨r,hr⟩:=Int.eq_ofNat_of_zero_le hin.1
 rw [hr] at hin
 have Mr:r < h.ae.length:=by omega
 have hm:(k:Int)∈aS (ofH h) (r:Int):=by rw [gx]; exact oZ.2 ⟨by omega,by omega,hr⟩
 obtain ⟨i,hi,e⟩:=List.getElem_of_mem hm
 have hN:=qX h (r:Int)
 have hg:gi (aS (ofH h) (r:Int)) (i:Int)=(k:Int):=by rw [bZ _ _ hi,e]
 have hA:=(hN.2.1 i (by rw [hN.1]; exact hi)).1
 rw [hg] at hA
 have rk:=zE (qA (hok r Mr)) (k:=i) (by rw [hN.1]; exact hi) (by rw [hA]; exact he)
 obtain ⟨q,hq,Qd⟩:=oq.1 rk
 obtain ⟨o,ho,e2⟩:=List.getElem_of_mem hq
 have kM:=uX Mr
 have DB:r < (c8 h).length:=by rw [iC]; exact Mr
 have hlen:o < (gi (c8 h) (r:Int)).length:=by rw [kM,List.length_map]; exact ho
 refine ⟨base (c8 h) r+o,jW DB hlen,?_⟩
 rw [rH DB hlen,kM,ld _ (by omega) (by omega),bZ _ _ ho,e2]
 show gi (aS (ofH h) (r:Int)) q.Oper=_
 rw [Qd,hg]
theorem Al:lP h (ly h):=by
 obtain ⟨h1,h2,h3,h4⟩:=mL hc h20 hok
 have hH:oM (bT h) (bz h):=qd (jJ hc).1
 have Ci:(ly h).length=(c8 h).flatten.length:=by unfold ly; rw [List.length_map,h1]
 have Oy:∀ y:Nat,y < (c8 h).flatten.length→gi (ly h) (y:Int)=gi (c8 h).flatten (gi (mW h) (y:Int)):=fun y hy=>by
  unfold ly; exact ld _ (by omega) (by omega)
 have hin:∀ x∈mW h,0≤(gi (c8 h).flatten x).Oper∧(gi (c8 h).flatten x).Oper < (bz h).length:=fun x hx=>by
  obtain ⟨x0,x1⟩:=h2 x hx
  obtain ⟨n,rfl⟩:=Int.eq_ofNat_of_zero_le x0
  obtain ⟨s,o,s1,s2,rfl⟩:=mI (rows:=c8 h) (a:=n) (by omega)
  exact (CZ hok (by rw [iC] at s1; exact s1) s2).2
 have ended:∀ k:Nat,k < (bz h).length→(gi (bz h) (k:Int)).End≠-1→(k:Int)∈opers (ly h):=fun k hk he=>by
  obtain ⟨a,ha,Q4⟩:=yH hc h20 hok hk he
  refine oq.2 ⟨gi (c8 h).flatten (a:Int),?_,Q4⟩
  unfold ly
  exact List.mem_map.2 ⟨_,yK hc h20 hok ha,rfl⟩
 refine ⟨fun q hq=>?_,fun k hk=>?_,fun y hy=>uv (fun k hk ⟨ha,hn⟩=>?_),fun m hm=>?_⟩
 ·unfold ly at hq
  obtain ⟨x,hx,rfl⟩:=List.mem_map.1 hq
  exact hin x hx
 ·rw [xD hc h20 hok hk,uX hk,pD (qX h (k:Int)) (n4 (hok k hk)).2]
  exact (o4.1 (qA (hok k hk))).2.2.1
 ·rw [Ci] at hy
  rw [Oy y hy] at ha
  have Qn:gi (mW h) (y:Int)∈mW h:=dB (by omega) (by omega)
  obtain ⟨y0,y1⟩:=h2 _ Qn
  obtain ⟨b,hb⟩:=Int.eq_ofNat_of_zero_le y0
  rw [hb] at ha y1
  have M5:=ha
  unfold bl at M5
  rw [Bool.and_eq_true,decide_eq_true_eq,decide_eq_true_eq] at M5
  obtain ⟨a,Q6,M6⟩:=yH hc h20 hok hk (by omega)
  have rk:((a:Int),(b:Int))∈(cj (bz h) (c8 h)).2:=List.mem_append.2 (.inr (nj.2 ⟨a,b,Q6,by omega,by unfold mq; rw [M6]; exact ha,rfl⟩))
  have hne:a≠b:=by
   rintro rfl
   rw [M6] at M5
   have:=fK (hH.one k hk).1
   omega
  obtain ⟨j,hj,hg⟩:=h4 _ rk (by unfold ec; rw [decide_eq_true_eq]; dsimp only; omega) y (by omega) (by rw [hb])
  dsimp only at hg
  refine hn ?_
  rw [nF]
  refine og.2 ⟨j,hj,by rw [gD]; omega,?_⟩
  rw [lr (by omega),Oy j (by omega),hg,M6]
 ·obtain ⟨m0,m1,m2,m3⟩:=iD.1 hm
  obtain ⟨n,rfl⟩:=Int.eq_ofNat_of_zero_le m0
  exact m3 (ended n (by omega) m2)
theorem Eo:cV h=(ly h,0):=by
 have Ey:cq h=(bz h,ofH h,0):=by
  unfold cq; rw [if_neg (by omega),if_neg (by omega)]
 have Qf:cM h (bz h) (ofH h)=(c8 h,0):=by
  rcases mx h (bz h) (ofH h) with ⟨j,j1,_,j3,_⟩ | ⟨_,e⟩
  ·exact absurd (hok j j1) j3
  ·exact e
 unfold cV
 rw [Ey,Qf]
 dsimp only
 have hj:(km (bz h) (c8 h)).2=true:=yQ hc h20 hok
 rw [if_neg (by decide),if_neg (by decide),if_neg (by rw [hj]; decide)]
 rfl
end joined
theorem xF (h:al):((aE h).2≠0∧cV h=([],(aE h).2))∨((aE h).2=0∧(bz h).length > 20∧cV h=([],3))∨((aE h).2=0∧(bz h).length≤20∧(∃ j,j < h.ae.length∧¬ iw (bz h) (ofH h) h.ae j)∧cV h=([],41))∨((aE h).2=0∧(bz h).length≤20∧(∀ j,j < h.ae.length→iw (bz h) (ofH h) h.ae j)∧cV h=(ly h,0)):=by
 by_cases hc:(aE h).2=0
 ·by_cases h20:(bz h).length≤20
  ·have Ey:cq h=(bz h,ofH h,0):=by
    unfold cq; rw [if_neg (by omega),if_neg (by omega)]
   rcases mx h (bz h) (ofH h) with ⟨j,j1,j2,j3,j4⟩ | ⟨j1,j2⟩
   ·refine .inr (.inr (.inl ⟨hc,h20,⟨j,j1,j3⟩,?_⟩))
    have:=(BX hc h20 j1 j3).1
    unfold cV
    rw [Ey,j4,this]
    dsimp only
    rw [if_neg (by decide),if_pos (by decide)]
   ·exact .inr (.inr (.inr ⟨hc,h20,j1,Eo hc h20 j1⟩))
  ·refine .inr (.inl ⟨hc,by omega,?_⟩)
   have Ey:cq h=([],[],3):=by
    unfold cq; rw [if_neg (by omega),if_pos (by omega)]
   unfold cV
   rw [Ey]
   dsimp only
   rw [if_pos (by decide)]
 ·refine .inl ⟨hc,?_⟩
  have Ey:cq h=([],[],(aE h).2):=by
   unfold cq; rw [if_pos hc]
  unfold cV
  rw [Ey]
  dsimp only
  rw [if_pos hc]
end Go.Proofs.YteahldlmkheleaaGreat
