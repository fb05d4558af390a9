/- bh is td is a Ml ms. -/
import Derived.Test.YteahldlmkheleaaGreatLV25
set_option linter.all false
namespace Go.Proofs.YteahldlmkheleaaGreat
open Go Go.Sv Go.Pu
theorem rl:∀ {a b:List Int},List.Pairwise (· < ·) a→List.Pairwise (· < ·) b→(∀ x,x∈a↔x∈b)→a=b
 | [],[],_,_,_=>rfl
 | [],y :: b,_,_,h=>by have:=(h y).2 (List.mem_cons_self ..); cases this
 | x :: a,[],_,_,h=>by have:=(h x).1 (List.mem_cons_self ..); cases this
 | x :: a,y :: b,ha,hb,h=>by
  rw [List.pairwise_cons] at ha hb
  have e:x=y:=by
   rcases List.mem_cons.1 ((h x).1 (List.mem_cons_self ..)) with e | e
   ·exact e
   ·rcases List.mem_cons.1 ((h y).2 (List.mem_cons_self ..)) with e2 | e2
    ·exact e2.symm
    ·have:=hb.1 x e; have:=ha.1 y e2; omega
  subst e
  rw [rl ha.2 hb.2 (fun z=>?_)]
  constructor
  ·intro hz
   rcases List.mem_cons.1 ((h z).1 (List.mem_cons_of_mem _ hz)) with e | e
   ·subst e; have:=ha.1 z hz; omega
   ·exact e
  ·intro hz
   rcases List.mem_cons.1 ((h z).2 (List.mem_cons_of_mem _ hz)) with e | e
   ·subst e; have:=hb.1 z hz; omega
   ·exact e
section joined
variable {h:aj} (hc:(aA h).2=0) (h20:(bo h).length≤20) (hok:∀ j,j < h.ae.length→iA (bo h) (ofH h) h.ae j)
def cI (h:aj):List (List aa):=fk (bo h) (ofH h) h.ae h.ae.length
def mf (h:aj):List Int:=(jF (bo h) (cI h)).1
def gD (h:aj):List aa:=(mf h).map (gi (cI h).flatten)
include hc h20 hok
theorem kE:(mf h).length=(cI h).flatten.length∧(∀ x∈mf h,0≤x∧x < (cI h).flatten.length)∧(mf h).Nodup∧rL ((cI h).flatten.length:Nat) (b8 (bo h) (cI h)).2 (mf h):=by
 have:=rj (n:=(cI h).flatten.length) (pairs:=(b8 (bo h) (cI h)).2) (xQ hc h20 hok)
 exact ⟨this.1,this.2.2.1,this.2.2.2.1,this.2.2.2.2⟩
theorem xN {a:Nat} (ha:a < (cI h).flatten.length):(a:Int)∈mf h:=by
 obtain ⟨h1,h2,h3,_⟩:=kE hc h20 hok
 refine Classical.byContradiction (fun hn=>?_)
 have hd:((a:Int) :: mf h).Nodup:=by
  rw [List.nodup_cons]; exact ⟨hn,h3⟩
 have:=lP (b:=(List.range (cI h).flatten.length).map fun i:Nat=>(i:Int)) hd (fun x hx=>by
  rcases List.mem_cons.1 hx with rfl | hx
  ·exact List.mem_map.2 ⟨a,List.mem_range.2 ha,rfl⟩
  ·have:=h2 x hx
   exact List.mem_map.2 ⟨x.toNat,List.mem_range.2 (by omega),by omega⟩)
 rw [List.length_cons,List.length_map,List.length_range,h1] at this
 omega
omit hc h20 hok in
theorem hZ (h:aj):(cI h).length=h.ae.length:=pM _ _ _ _
omit hc h20 hok in
theorem pN {r:Nat} (hr:r < h.ae.length):gi (cI h) (r:Int)=(me h r).map (fP (aS (ofH h) (r:Int))):=by
 unfold cI; rw [sx hr]; rfl
omit hc h20 in
theorem BK {r o:Nat} (hr:r < h.ae.length) (ho:o < (gi (cI h) (r:Int)).length):gi (ofH h) (gi (cI h).flatten ((base (cI h) r+o:Nat):Int)).Oper=(r:Int)∧0≤(gi (cI h).flatten ((base (cI h) r+o:Nat):Int)).Oper∧(gi (cI h).flatten ((base (cI h) r+o:Nat):Int)).Oper < (bo h).length:=by
 rw [qK (by rw [hZ]; exact hr) ho]
 have hm:gi (gi (cI h) (r:Int)) (o:Int)∈gi (cI h) (r:Int):=ep (by omega) (by omega)
 unfold cI at hm ⊢
 rw [sx hr] at hm ⊢
 have:=mR (n8 (eR h) (hok r hr) hm)
 have hl:=eR h
 exact ⟨this.2.2,this.1,by omega⟩
theorem chain {r:Nat} (hr:r < h.ae.length):∀ o:Nat,o < (gi (cI h) (r:Int)).length→∀ i:Nat,i < (mf h).length→gi (mf h) (i:Int)=((base (cI h) r+o:Nat):Int)→∀ u:Nat,u < o→∃ j:Nat,j < i∧gi (mf h) (j:Int)=((base (cI h) r+u:Nat):Int)
 | 0,_,i,_,_,u,hu=>by omega
 | o+1,ho,i,hi,he,u,hu=>by
  obtain ⟨h1,h2,h3,h4⟩:=kE hc h20 hok
  have Ce:r < (cI h).length:=by rw [hZ]; exact hr
  have wI:(((base (cI h) r+o:Nat):Int),((base (cI h) r+o+1:Nat):Int))∈(b8 (bo h) (cI h)).2:=by
   have:=(kp (rows:=cI h) (p:=(((base (cI h) r+o:Nat):Int),((base (cI h) r+o+1:Nat):Int))) (cI h).length (Nat.le_refl _)).2 ⟨r,o,Ce,ho,rfl⟩
   rw [List.take_length] at this
   exact List.mem_append.2 (.inl this)
  have hb1:=jm Ce (by omega:o < _)
  have hb2:=jm Ce ho
  obtain ⟨j,hj,hg⟩:=h4 _ wI (by unfold dI; rw [decide_eq_true_eq]; dsimp only; omega) i hi (by rw [he]; rfl)
  dsimp only at hg
  by_cases e:u=o
  ·subst e; exact ⟨j,hj,hg⟩
  ·obtain ⟨j2,h5,h6⟩:=chain hr o (by omega) j (by omega) hg u (by omega)
   exact ⟨j2,by omega,h6⟩
theorem qn {r:Nat} (hr:r < h.ae.length):jU (ofH h) (r:Int) (gD h)=gi (cI h) (r:Int):=by
 obtain ⟨h1,h2,h3,h4⟩:=kE hc h20 hok
 have Ce:r < (cI h).length:=by rw [hZ]; exact hr
 unfold jU gD
 rw [List.filter_map]
 have vG:∀ x∈mf h,((fun p:aa=>gi (ofH h) p.Oper == (r:Int)) ∘ gi (cI h).flatten) x=true↔∃ o:Nat,o < (gi (cI h) (r:Int)).length∧x=((base (cI h) r+o:Nat):Int):=fun x hx=>by
  obtain ⟨x0,x1⟩:=h2 x hx
  obtain ⟨n,rfl⟩:=Int.eq_ofNat_of_zero_le x0
  obtain ⟨s,o,s1,s2,rfl⟩:=l0 (rows:=cI h) (a:=n) (by omega)
  have hs:s < h.ae.length:=by rw [hZ] at s1; exact s1
  have:=BK hok hs s2
  show (gi (ofH h) (gi (cI h).flatten ((base (cI h) s+o:Nat):Int)).Oper == (r:Int))=true↔_
  rw [this.1,beq_iff_eq]
  constructor
  ·intro e
   have e:s=r:=by omega
   subst e
   exact ⟨o,s2,rfl⟩
  ·rintro ⟨o',o1,o2⟩
   rw [(r9 s1 s2 Ce o1 (by omega)).1]
 have hs:(mf h).filter ((fun p:aa=>gi (ofH h) p.Oper == (r:Int)) ∘ gi (cI h).flatten)=(List.range (gi (cI h) (r:Int)).length).map fun o:Nat=>((base (cI h) r+o:Nat):Int):=by
  refine rl ?_ ?_ (fun x=>?_)
  ·rw [List.pairwise_filter]
   rw [List.pairwise_iff_getElem]
   intro i j hi hj vI pi pj
   obtain ⟨a,a1,a2⟩:=(vG _ (List.getElem_mem hi)).1 pi
   obtain ⟨b,b1,b2⟩:=(vG _ (List.getElem_mem hj)).1 pj
   rw [a2,b2]
   rcases Nat.lt_trichotomy a b with hl | hl | hl
   ·omega
   ·subst hl
    exact absurd (qd h3 hi hj (by rw [cd _ _ hi,cd _ _ hj,a2,b2])) (by omega)
   ·obtain ⟨m,m1,m2⟩:=chain hc h20 hok hr a a1 i hi (by rw [cd _ _ hi,a2]) b hl
    have:=qd h3 (i:=m) (j:=j) (by omega) hj (by rw [m2,cd _ _ hj,b2])
    omega
  ·rw [List.pairwise_map]
   exact List.Pairwise.imp (fun {a b} Q5=>by omega) (List.pairwise_lt_range)
  ·rw [List.mem_filter,List.mem_map]
   constructor
   ·rintro ⟨hx,hp⟩
    obtain ⟨o,o1,o2⟩:=(vG x hx).1 hp
    exact ⟨o,List.mem_range.2 o1,o2.symm⟩
   ·rintro ⟨o,o1,rfl⟩
    have o1:=List.mem_range.1 o1
    have hm:=xN hc h20 hok (jm Ce o1)
    exact ⟨hm,(vG _ hm).2 ⟨o,o1,rfl⟩⟩
 rw [hs,List.map_map]
 refine List.ext_getElem (by simp) (fun i i1 i2=>?_)
 rw [List.getElem_map,List.getElem_range]
 show gi (cI h).flatten ((base (cI h) r+i:Nat):Int)=_
 rw [qK Ce i2,cd _ _ i2]
theorem xK {k:Nat} (hk:k < (bo h).length) (he:(gi (bo h) (k:Int)).End≠-1):∃ a:Nat,a < (cI h).flatten.length∧(gi (cI h).flatten (a:Int)).Oper=(k:Int):=by
 have hl:=eR h
 have jS:=G0 hc (gi (ofH h) (k:Int)) (ep (by omega) (by omega))
 obtain ⟨r,hr⟩:=Int.eq_ofNat_of_zero_le jS.1
 rw [hr] at jS
 have Kx:r < h.ae.length:=by omega
 have hm:(k:Int)∈aS (ofH h) (r:Int):=by rw [gb]; exact l7.2 ⟨by omega,by omega,hr⟩
 obtain ⟨i,hi,e⟩:=List.getElem_of_mem hm
 have hN:=p9 h (r:Int)
 have hg:gi (aS (ofH h) (r:Int)) (i:Int)=(k:Int):=by rw [cd _ _ hi,e]
 have hA:=(hN.2.1 i (by rw [hN.1]; exact hi)).1
 rw [hg] at hA
 have wI:=yy (ns (hok r Kx)) (k:=i) (by rw [hN.1]; exact hi) (by rw [hA]; exact he)
 obtain ⟨q,hq,Ob⟩:=wA.1 wI
 obtain ⟨o,ho,e2⟩:=List.getElem_of_mem hq
 have jX:=pN Kx
 have Ce:r < (cI h).length:=by rw [hZ]; exact Kx
 have hlen:o < (gi (cI h) (r:Int)).length:=by rw [jX,List.length_map]; exact ho
 refine ⟨base (cI h) r+o,jm Ce hlen,?_⟩
 rw [qK Ce hlen,jX,iZ _ (by omega) (by omega),cd _ _ ho,e2]
 show gi (aS (ofH h) (r:Int)) q.Oper=_
 rw [Ob,hg]
theorem rT:nG h (gD h):=by
 obtain ⟨h1,h2,h3,h4⟩:=kE hc h20 hok
 have hH:mD (bk h) (bo h):=l6 (hY hc).1
 have A6:(gD h).length=(cI h).flatten.length:=by unfold gD; rw [List.length_map,h1]
 have Ms:∀ y:Nat,y < (cI h).flatten.length→gi (gD h) (y:Int)=gi (cI h).flatten (gi (mf h) (y:Int)):=fun y hy=>by
  unfold gD; exact iZ _ (by omega) (by omega)
 have jS:∀ x∈mf h,0≤(gi (cI h).flatten x).Oper∧(gi (cI h).flatten x).Oper < (bo h).length:=fun x hx=>by
  obtain ⟨x0,x1⟩:=h2 x hx
  obtain ⟨n,rfl⟩:=Int.eq_ofNat_of_zero_le x0
  obtain ⟨s,o,s1,s2,rfl⟩:=l0 (rows:=cI h) (a:=n) (by omega)
  exact (BK hok (by rw [hZ] at s1; exact s1) s2).2
 have ended:∀ k:Nat,k < (bo h).length→(gi (bo h) (k:Int)).End≠-1→(k:Int)∈opers (gD h):=fun k hk he=>by
  obtain ⟨a,ha,O4⟩:=xK hc h20 hok hk he
  refine wA.2 ⟨gi (cI h).flatten (a:Int),?_,O4⟩
  unfold gD
  exact List.mem_map.2 ⟨_,xN hc h20 hok ha,rfl⟩
 refine ⟨fun q hq=>?_,fun k hk=>?_,fun y hy=>tx (fun k hk ⟨ha,hn⟩=>?_),fun m hm=>?_⟩
 ·unfold gD at hq
  obtain ⟨x,hx,rfl⟩:=List.mem_map.1 hq
  exact jS x hx
 ·rw [qn hc h20 hok hk,pN hk,uv (p9 h (k:Int)) (l3 (hok k hk)).2]
  exact (mU.1 (ns (hok k hk))).2.2.1
 ·rw [A6] at hy
  rw [Ms y hy] at ha
  have Oi:gi (mf h) (y:Int)∈mf h:=ep (by omega) (by omega)
  obtain ⟨y0,y1⟩:=h2 _ Oi
  obtain ⟨b,hb⟩:=Int.eq_ofNat_of_zero_le y0
  rw [hb] at ha y1
  have K6:=ha
  unfold bb at K6
  rw [Bool.and_eq_true,decide_eq_true_eq,decide_eq_true_eq] at K6
  obtain ⟨a,O6,K7⟩:=xK hc h20 hok hk (by omega)
  have wI:((a:Int),(b:Int))∈(b8 (bo h) (cI h)).2:=List.mem_append.2 (.inr (mA.2 ⟨a,b,O6,by omega,by unfold lF; rw [K7]; exact ha,rfl⟩))
  have hne:a≠b:=by
   rintro rfl
   rw [K7] at K6
   have:=en (hH.one k hk).1
   omega
  obtain ⟨j,hj,hg⟩:=h4 _ wI (by unfold dI; rw [decide_eq_true_eq]; dsimp only; omega) y (by omega) (by rw [hb])
  dsimp only at hg
  refine hn ?_
  rw [mP]
  refine nC.2 ⟨j,hj,by rw [iM]; omega,?_⟩
  rw [nz (by omega),Ms j (by omega),hg,K7]
 ·obtain ⟨m0,m1,m2,m3⟩:=ia.1 hm
  obtain ⟨n,rfl⟩:=Int.eq_ofNat_of_zero_le m0
  exact m3 (ended n (by omega) m2)
theorem CX:bP h=(gD h,0):=by
 have C5:cb h=(bo h,ofH h,0):=by
  unfold cb; rw [if_neg (by omega),if_neg (by omega)]
 have Kz:cv h (bo h) (ofH h)=(cI h,0):=by
  rcases lL h (bo h) (ofH h) with ⟨j,j1,_,j3,_⟩ | ⟨_,e⟩
  ·exact absurd (hok j j1) j3
  ·exact e
 unfold bP
 rw [C5,Kz]
 dsimp only
 have hj:(jF (bo h) (cI h)).2=true:=xQ hc h20 hok
 rw [if_neg (by decide),if_neg (by decide),if_neg (by rw [hj]; decide)]
 rfl
end joined
theorem qo (h:aj):((aA h).2≠0∧bP h=([],(aA h).2))∨((aA h).2=0∧(bo h).length > 20∧bP h=([],3))∨((aA h).2=0∧(bo h).length≤20∧(∃ j,j < h.ae.length∧¬ iA (bo h) (ofH h) h.ae j)∧bP h=([],41))∨((aA h).2=0∧(bo h).length≤20∧(∀ j,j < h.ae.length→iA (bo h) (ofH h) h.ae j)∧bP h=(gD h,0)):=by
 by_cases hc:(aA h).2=0
 ·by_cases h20:(bo h).length≤20
  ·have C5:cb h=(bo h,ofH h,0):=by
    unfold cb; rw [if_neg (by omega),if_neg (by omega)]
   rcases lL h (bo h) (ofH h) with ⟨j,j1,j2,j3,j4⟩ | ⟨j1,j2⟩
   ·refine .inr (.inr (.inl ⟨hc,h20,⟨j,j1,j3⟩,?_⟩))
    have:=(EZ hc h20 j1 j3).1
    unfold bP
    rw [C5,j4,this]
    dsimp only
    rw [if_neg (by decide),if_pos (by decide)]
   ·exact .inr (.inr (.inr ⟨hc,h20,j1,CX hc h20 j1⟩))
  ·refine .inr (.inl ⟨hc,by omega,?_⟩)
   have C5:cb h=([],[],3):=by
    unfold cb; rw [if_neg (by omega),if_pos (by omega)]
   unfold bP
   rw [C5]
   dsimp only
   rw [if_pos (by decide)]
 ·refine .inl ⟨hc,?_⟩
  have C5:cb h=([],[],(aA h).2):=by
   unfold cb; rw [if_pos hc]
  unfold bP
  rw [C5]
  dsimp only
  rw [if_pos hc]
end Go.Proofs.YteahldlmkheleaaGreat
