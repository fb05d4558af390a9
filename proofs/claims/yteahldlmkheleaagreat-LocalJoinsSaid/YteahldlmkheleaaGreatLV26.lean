/- What is joined is a joint linearization. -/
import Derived.Test.YteahldlmkheleaaGreatLV25
set_option linter.all false
namespace Go.Proofs.YteahldlmkheleaaGreat
open Go Go.Sv Go.Pu
theorem sq:∀ {a b:List Int},List.Pairwise (· < ·) a→List.Pairwise (· < ·) b→(∀ x,x∈a↔x∈b)→a=b
 | [],[],_,_,_=>rfl
 | [],y :: b,_,_,h=>by have:=(h y).2 (List.mem_cons_self ..); cases this
 | x :: a,[],_,_,h=>by have:=(h x).1 (List.mem_cons_self ..); cases this
 | x :: a,y :: b,ha,hb,h=>by
  rw [List.pairwise_cons] at ha hb
  have e:x=y:=by
   rcases List.mem_cons.1 ((h x).1 (List.mem_cons_self ..)) with e | e
   ·exact e
   ·rcases List.mem_cons.1 ((h y).2 (List.mem_cons_self ..)) with e2 | e2
    ·exact e2.symm
    ·have:=hb.1 x e; have:=ha.1 y e2; omega
  subst e
  rw [sq ha.2 hb.2 (fun z=>?_)]
  constructor
  ·intro hz
   rcases List.mem_cons.1 ((h z).1 (List.mem_cons_of_mem _ hz)) with e | e
   ·subst e; have:=ha.1 z hz; omega
   ·exact e
  ·intro hz
   rcases List.mem_cons.1 ((h z).2 (List.mem_cons_of_mem _ hz)) with e | e
   ·subst e; have:=hb.1 z hz; omega
   ·exact e
section joined
variable {h:ak} (hc:(aD h).2=0) (h20:(bw h).length≤20) (hok:∀ j,j < h.ae.length→jc (bw h) (ofH h) h.ae j)
def cX (h:ak):List (List aa):=fI (bw h) (ofH h) h.ae h.ae.length
def mY (h:ak):List Int:=(ki (bw h) (cX h)).1
def g7 (h:ak):List aa:=(mY h).map (gi (cX h).flatten)
include hc h20 hok
theorem lp:(mY h).length=(cX h).flatten.length∧(∀ x∈mY h,0≤x∧x < (cX h).flatten.length)∧(mY h).Nodup∧sQ ((cX h).flatten.length:Nat) (cg (bw h) (cX h)).2 (mY h):=by
 have:=sk (n:=(cX h).flatten.length) (pairs:=(cg (bw h) (cX h)).2) (zk hc h20 hok)
 exact ⟨this.1,this.2.2.1,this.2.2.2.1,this.2.2.2.2⟩
theorem zh {a:Nat} (ha:a < (cX h).flatten.length):(a:Int)∈mY h:=by
 obtain ⟨h1,h2,h3,_⟩:=lp hc h20 hok
 refine Classical.byContradiction (fun hn=>?_)
 have hd:((a:Int) :: mY h).Nodup:=by
  rw [List.nodup_cons]; exact ⟨hn,h3⟩
 have:=mA (b:=(List.range (cX h).flatten.length).map fun i:Nat=>(i:Int)) hd (fun x hx=>by
  rcases List.mem_cons.1 hx with rfl | hx
  ·exact List.mem_map.2 ⟨a,List.mem_range.2 ha,rfl⟩
  ·have:=h2 x hx
   exact List.mem_map.2 ⟨x.toNat,List.mem_range.2 (by omega),by omega⟩)
 rw [List.length_cons,List.length_map,List.length_range,h1] at this
 omega
omit hc h20 hok in
theorem iH (h:ak):(cX h).length=h.ae.length:=qC _ _ _ _
omit hc h20 hok in
theorem qD {r:Nat} (hr:r < h.ae.length):gi (cX h) (r:Int)=(mW h r).map (gk (aW (ofH h) (r:Int))):=by
 unfold cX; rw [tG hr]; rfl
omit hc h20 in
theorem CY {r o:Nat} (hr:r < h.ae.length) (ho:o < (gi (cX h) (r:Int)).length):gi (ofH h) (gi (cX h).flatten ((base (cX h) r+o:Nat):Int)).Oper=(r:Int)∧0≤(gi (cX h).flatten ((base (cX h) r+o:Nat):Int)).Oper∧(gi (cX h).flatten ((base (cX h) r+o:Nat):Int)).Oper < (bw h).length:=by
 rw [rK (by rw [iH]; exact hr) ho]
 have hm:gi (gi (cX h) (r:Int)) (o:Int)∈gi (cX h) (r:Int):=eJ (by omega) (by omega)
 unfold cX at hm ⊢
 rw [tG hr] at hm ⊢
 have:=nK (o3 (ff h) (hok r hr) hm)
 have hl:=ff h
 exact ⟨this.2.2,this.1,by omega⟩
theorem chain {r:Nat} (hr:r < h.ae.length):∀ o:Nat,o < (gi (cX h) (r:Int)).length→∀ i:Nat,i < (mY h).length→gi (mY h) (i:Int)=((base (cX h) r+o:Nat):Int)→∀ u:Nat,u < o→∃ j:Nat,j < i∧gi (mY h) (j:Int)=((base (cX h) r+u:Nat):Int)
 | 0,_,i,_,_,u,hu=>by omega
 | o+1,ho,i,hi,he,u,hu=>by
  obtain ⟨h1,h2,h3,h4⟩:=lp hc h20 hok
  have Dv:r < (cX h).length:=by rw [iH]; exact hr
  have x7:(((base (cX h) r+o:Nat):Int),((base (cX h) r+o+1:Nat):Int))∈(cg (bw h) (cX h)).2:=by
   have:=(lb (rows:=cX h) (p:=(((base (cX h) r+o:Nat):Int),((base (cX h) r+o+1:Nat):Int))) (cX h).length (Nat.le_refl _)).2 ⟨r,o,Dv,ho,rfl⟩
   rw [List.take_length] at this
   exact List.mem_append.2 (.inl this)
  have hb1:=jR Dv (by omega:o < _)
  have hb2:=jR Dv ho
  obtain ⟨j,hj,hg⟩:=h4 _ x7 (by unfold dT; rw [decide_eq_true_eq]; dsimp only; omega) i hi (by rw [he]; rfl)
  dsimp only at hg
  by_cases e:u=o
  ·subst e; exact ⟨j,hj,hg⟩
  ·obtain ⟨j2,h5,h6⟩:=chain hr o (by omega) j (by omega) hg u (by omega)
   exact ⟨j2,by omega,h6⟩
theorem ri {r:Nat} (hr:r < h.ae.length):kH (ofH h) (r:Int) (g7 h)=gi (cX h) (r:Int):=by
 obtain ⟨h1,h2,h3,h4⟩:=lp hc h20 hok
 have Dv:r < (cX h).length:=by rw [iH]; exact hr
 unfold kH g7
 rw [List.filter_map]
 have wZ:∀ x∈mY h,((fun p:aa=>gi (ofH h) p.Oper == (r:Int)) ∘ gi (cX h).flatten) x=true↔∃ o:Nat,o < (gi (cX h) (r:Int)).length∧x=((base (cX h) r+o:Nat):Int):=fun x hx=>by
  obtain ⟨x0,x1⟩:=h2 x hx
  obtain ⟨n,rfl⟩:=Int.eq_ofNat_of_zero_le x0
  obtain ⟨s,o,s1,s2,rfl⟩:=mL (rows:=cX h) (a:=n) (by omega)
  have hs:s < h.ae.length:=by rw [iH] at s1; exact s1
  have:=CY hok hs s2
  show (gi (ofH h) (gi (cX h).flatten ((base (cX h) s+o:Nat):Int)).Oper == (r:Int))=true↔_
  rw [this.1,beq_iff_eq]
  constructor
  ·intro e
   have e:s=r:=by omega
   subst e
   exact ⟨o,s2,rfl⟩
  ·rintro ⟨o',o1,o2⟩
   rw [(tl s1 s2 Dv o1 (by omega)).1]
 have hs:(mY h).filter ((fun p:aa=>gi (ofH h) p.Oper == (r:Int)) ∘ gi (cX h).flatten)=(List.range (gi (cX h) (r:Int)).length).map fun o:Nat=>((base (cX h) r+o:Nat):Int):=by
  refine sq ?_ ?_ (fun x=>?_)
  ·rw [List.pairwise_filter]
   rw [List.pairwise_iff_getElem]
   intro i j hi hj w7 pi pj
   obtain ⟨a,a1,a2⟩:=(wZ _ (List.getElem_mem hi)).1 pi
   obtain ⟨b,b1,b2⟩:=(wZ _ (List.getElem_mem hj)).1 pj
   rw [a2,b2]
   rcases Nat.lt_trichotomy a b with hl | hl | hl
   ·omega
   ·subst hl
    exact absurd (q5 h3 hi hj (by rw [cq _ _ hi,cq _ _ hj,a2,b2])) (by omega)
   ·obtain ⟨m,m1,m2⟩:=chain hc h20 hok hr a a1 i hi (by rw [cq _ _ hi,a2]) b hl
    have:=q5 h3 (i:=m) (j:=j) (by omega) hj (by rw [m2,cq _ _ hj,b2])
    omega
  ·rw [List.pairwise_map]
   exact List.Pairwise.imp (fun {a b} SF=>by omega) (List.pairwise_lt_range)
  ·rw [List.mem_filter,List.mem_map]
   constructor
   ·rintro ⟨hx,hp⟩
    obtain ⟨o,o1,o2⟩:=(wZ x hx).1 hp
    exact ⟨o,List.mem_range.2 o1,o2.symm⟩
   ·rintro ⟨o,o1,rfl⟩
    have o1:=List.mem_range.1 o1
    have hm:=zh hc h20 hok (jR Dv o1)
    exact ⟨hm,(wZ _ hm).2 ⟨o,o1,rfl⟩⟩
 rw [hs,List.map_map]
 refine List.ext_getElem (by simp) (fun i i1 i2=>?_)
 rw [List.getElem_map,List.getElem_range]
 show gi (cX h).flatten ((base (cX h) r+i:Nat):Int)=_
 rw [rK Dv i2,cq _ _ i2]
theorem ze {k:Nat} (hk:k < (bw h).length) (he:(gi (bw h) (k:Int)).End≠-1):∃ a:Nat,a < (cX h).flatten.length∧(gi (cX h).flatten (a:Int)).Oper=(k:Int):=by
 have hl:=ff h
 have kF:=Il hc (gi (ofH h) (k:Int)) (eJ (by omega) (by omega))
 obtain ⟨r,hr⟩:=Int.eq_ofNat_of_zero_le kF.1
 rw [hr] at kF
 have LU:r < h.ae.length:=by omega
 have hm:(k:Int)∈aW (ofH h) (r:Int):=by rw [gz]; exact mQ.2 ⟨by omega,by omega,hr⟩
 obtain ⟨i,hi,e⟩:=List.getElem_of_mem hm
 have hN:=qW h (r:Int)
 have hg:gi (aW (ofH h) (r:Int)) (i:Int)=(k:Int):=by rw [cq _ _ hi,e]
 have hA:=(hN.2.1 i (by rw [hN.1]; exact hi)).1
 rw [hg] at hA
 have x7:=zW (ob (hok r LU)) (k:=i) (by rw [hN.1]; exact hi) (by rw [hA]; exact he)
 obtain ⟨q,hq,PI⟩:=xQ.1 x7
 obtain ⟨o,ho,e2⟩:=List.getElem_of_mem hq
 have kL:=qD LU
 have Dv:r < (cX h).length:=by rw [iH]; exact LU
 have hlen:o < (gi (cX h) (r:Int)).length:=by rw [kL,List.length_map]; exact ho
 refine ⟨base (cX h) r+o,jR Dv hlen,?_⟩
 rw [rK Dv hlen,kL,jA _ (by omega) (by omega),cq _ _ ho,e2]
 show gi (aW (ofH h) (r:Int)) q.Oper=_
 rw [PI,hg]
theorem sX:oy h (g7 h):=by
 obtain ⟨h1,h2,h3,h4⟩:=lp hc h20 hok
 have hH:nv (bo h) (bw h):=mP (iG hc).1
 have Cl:(g7 h).length=(cX h).flatten.length:=by unfold g7; rw [List.length_map,h1]
 have NT:∀ y:Nat,y < (cX h).flatten.length→gi (g7 h) (y:Int)=gi (cX h).flatten (gi (mY h) (y:Int)):=fun y hy=>by
  unfold g7; exact jA _ (by omega) (by omega)
 have kF:∀ x∈mY h,0≤(gi (cX h).flatten x).Oper∧(gi (cX h).flatten x).Oper < (bw h).length:=fun x hx=>by
  obtain ⟨x0,x1⟩:=h2 x hx
  obtain ⟨n,rfl⟩:=Int.eq_ofNat_of_zero_le x0
  obtain ⟨s,o,s1,s2,rfl⟩:=mL (rows:=cX h) (a:=n) (by omega)
  exact (CY hok (by rw [iH] at s1; exact s1) s2).2
 have ended:∀ k:Nat,k < (bw h).length→(gi (bw h) (k:Int)).End≠-1→(k:Int)∈opers (g7 h):=fun k hk he=>by
  obtain ⟨a,ha,Qy⟩:=ze hc h20 hok hk he
  refine xQ.2 ⟨gi (cX h).flatten (a:Int),?_,Qy⟩
  unfold g7
  exact List.mem_map.2 ⟨_,zh hc h20 hok ha,rfl⟩
 refine ⟨fun q hq=>?_,fun k hk=>?_,fun y hy=>uF (fun k hk ⟨ha,hn⟩=>?_),fun m hm=>?_⟩
 ·unfold g7 at hq
  obtain ⟨x,hx,rfl⟩:=List.mem_map.1 hq
  exact kF x hx
 ·rw [ri hc h20 hok hk,qD hk,vy (qW h (k:Int)) (mM (hok k hk)).2]
  exact (nN.1 (ob (hok k hk))).2.2.1
 ·rw [Cl] at hy
  rw [NT y hy] at ha
  have PQ:gi (mY h) (y:Int)∈mY h:=eJ (by omega) (by omega)
  obtain ⟨y0,y1⟩:=h2 _ PQ
  obtain ⟨b,hb⟩:=Int.eq_ofNat_of_zero_le y0
  rw [hb] at ha y1
  have Mt:=ha
  unfold bf at Mt
  rw [Bool.and_eq_true,decide_eq_true_eq,decide_eq_true_eq] at Mt
  obtain ⟨a,QA,Mu⟩:=ze hc h20 hok hk (by omega)
  have x7:((a:Int),(b:Int))∈(cg (bw h) (cX h)).2:=List.mem_append.2 (.inr (nq.2 ⟨a,b,QA,by omega,by unfold mn; rw [Mu]; exact ha,rfl⟩))
  have hne:a≠b:=by
   rintro rfl
   rw [Mu] at Mt
   have:=eI (hH.one k hk).1
   omega
  obtain ⟨j,hj,hg⟩:=h4 _ x7 (by unfold dT; rw [decide_eq_true_eq]; dsimp only; omega) y (by omega) (by rw [hb])
  dsimp only at hg
  refine hn ?_
  rw [nI]
  refine ou.2 ⟨j,hj,by rw [jn]; omega,?_⟩
  rw [oo (by omega),NT j (by omega),hg,Mu]
 ·obtain ⟨m0,m1,m2,m3⟩:=iI.1 hm
  obtain ⟨n,rfl⟩:=Int.eq_ofNat_of_zero_le m0
  exact m3 (ended n (by omega) m2)
theorem Ef:bV h=(g7 h,0):=by
 have En:cm h=(bw h,ofH h,0):=by
  unfold cm; rw [if_neg (by omega),if_neg (by omega)]
 have LW:cG h (bw h) (ofH h)=(cX h,0):=by
  rcases mx h (bw h) (ofH h) with ⟨j,j1,_,j3,_⟩ | ⟨_,e⟩
  ·exact absurd (hok j j1) j3
  ·exact e
 unfold bV
 rw [En,LW]
 dsimp only
 have hj:(ki (bw h) (cX h)).2=true:=zk hc h20 hok
 rw [if_neg (by decide),if_neg (by decide),if_neg (by rw [hj]; decide)]
 rfl
end joined
theorem rj (h:ak):((aD h).2≠0∧bV h=([],(aD h).2))∨((aD h).2=0∧(bw h).length > 20∧bV h=([],3))∨((aD h).2=0∧(bw h).length≤20∧(∃ j,j < h.ae.length∧¬ jc (bw h) (ofH h) h.ae j)∧bV h=([],41))∨((aD h).2=0∧(bw h).length≤20∧(∀ j,j < h.ae.length→jc (bw h) (ofH h) h.ae j)∧bV h=(g7 h,0)):=by
 by_cases hc:(aD h).2=0
 ·by_cases h20:(bw h).length≤20
  ·have En:cm h=(bw h,ofH h,0):=by
    unfold cm; rw [if_neg (by omega),if_neg (by omega)]
   rcases mx h (bw h) (ofH h) with ⟨j,j1,j2,j3,j4⟩ | ⟨j1,j2⟩
   ·refine .inr (.inr (.inl ⟨hc,h20,⟨j,j1,j3⟩,?_⟩))
    have:=(Gi hc h20 j1 j3).1
    unfold bV
    rw [En,j4,this]
    dsimp only
    rw [if_neg (by decide),if_pos (by decide)]
   ·exact .inr (.inr (.inr ⟨hc,h20,j1,Ef hc h20 j1⟩))
  ·refine .inr (.inl ⟨hc,by omega,?_⟩)
   have En:cm h=([],[],3):=by
    unfold cm; rw [if_neg (by omega),if_pos (by omega)]
   unfold bV
   rw [En]
   dsimp only
   rw [if_pos (by decide)]
 ·refine .inl ⟨hc,?_⟩
  have En:cm h=([],[],(aD h).2):=by
   unfold cm; rw [if_pos hc]
  unfold bV
  rw [En]
  dsimp only
  rw [if_pos hc]
end Go.Proofs.YteahldlmkheleaaGreat
