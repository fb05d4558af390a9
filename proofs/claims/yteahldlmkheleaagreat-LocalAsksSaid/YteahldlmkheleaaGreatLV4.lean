/- Lemmas. -/
import Derived.Test.YteahldlmkheleaaGreatLV3
set_option linter.all false
namespace Go.Proofs.YteahldlmkheleaaGreat
open Go Go.Sv Go.Pu
def mR (order:List Int) (k:Nat):List Int:=(order.take k).reverse
theorem wS (p:List Int):mR p 0=[]:=by simp [mR]
theorem wT {p:List Int} {k:Nat} (h:k < p.length):mR p (k+1)=gi p (k:Int) :: mR p k:=by
 unfold mR
 rw [List.take_succ_eq_append_getElem h,List.reverse_append,cN _ _ h]; rfl
def px (a:List aa) (r:List aa × Int):List aa × Int:=if r.2≠0 then ([],r.2) else (a++r.1,0)
theorem Aj {o:ae} {l:List ab} {p:List Int} {k:Nat} {prev:List Int} {s:Int} (h:k < p.length) :
  fu o l prev s (p.drop k)=if (ca o l prev s (fJ o l s (gi p (k:Int)))).2≠0 then ([],(ca o l prev s (fJ o l s (gi p (k:Int)))).2) else px [fJ o l s (gi p (k:Int))] (fu o l (gi p (k:Int) :: prev) (ca o l prev s (fJ o l s (gi p (k:Int)))).1 (p.drop (k+1))):=by
 rw [fT h,fu]; rfl
theorem zT (a b:List aa) (r:List aa × Int):px a (px b r)=px (a++b) r:=by
 unfold px
 by_cases h:r.2≠0
 ·rw [if_pos h,if_pos h,if_pos h]
 ·rw [if_neg h,if_neg h,if_neg (by simp)]
  simp
theorem CC (o:ae) (l:List ab) (prev:List Int) (s:Int) (p:List Int) (hr:(fu o l prev s p).2≠0):(fu o l prev s p).1=[]:=by
 cases p with
 | nil=>exact absurd rfl hr
 | cons i is =>
  rw [fu] at hr ⊢
  split at hr
  ·rename_i h2; rw [if_pos h2]
  ·rename_i h2
   rw [if_neg h2]
   split at hr
   ·rename_i h3; rw [if_pos h3]
   ·exact absurd rfl hr
theorem BE (o:ae) (l:List ab) (prev:List Int) (s:Int) (p:List Int):px [] (fu o l prev s p)=fu o l prev s p:=by
 unfold px
 by_cases hr:(fu o l prev s p).2≠0
 ·rw [if_pos hr,← CC o l prev s p hr]
 ·rw [if_neg hr]
  have:(fu o l prev s p).2=0:=by omega
  rw [← this]; simp
theorem uC {o:ae} {l:List ab} {q:aa}:∀ {a:List aa} {prev:List Int} {s:Int},(fh o l prev s a).2.2=0 →
  fh o l prev s (a++[q])=if (ca o l ((a.map (·.Oper)).reverse++prev) (fh o l prev s a).1 q).2≠0 then (0,(a.length:Int),(ca o l ((a.map (·.Oper)).reverse++prev) (fh o l prev s a).1 q).2) else ((ca o l ((a.map (·.Oper)).reverse++prev) (fh o l prev s a).1 q).1,(a.length:Int)+1,0)
 | [],prev,s,_=>by
  simp only [List.nil_append,fh,List.map_nil,List.reverse_nil,List.length_nil]
  by_cases h:(ca o l prev s q).2≠0
  ·rw [if_pos h,if_pos h]; rfl
  ·rw [if_neg h,if_neg h]; rfl
 | p :: a,prev,s,h0=>by
  rw [fh] at h0
  by_cases he:(ca o l prev s p).2≠0
  ·rw [if_pos he] at h0; exact absurd h0 he
  ·rw [if_neg he] at h0
   dsimp only at h0
   have ih:=uC (o:=o) (l:=l) (q:=q) (a:=a) (prev:=p.Oper :: prev) (s:=(ca o l prev s p).1) h0
   rw [List.cons_append,fh,if_neg he,ih,fh,if_neg he]
   dsimp only
   have e:((p :: a).map (·.Oper)).reverse++prev=(a.map (·.Oper)).reverse++(p.Oper :: prev):=by simp
   rw [e]
   split
   ·simp
   ·simp
theorem v60 (o:ae) (l:List ab) (p:List Int) (h:xZ o l p):VC60 o l p (fun r=>r=df o l p):=by
 have hlen:p.length≤1000000:=h
 unfold VC60 df
 intro _ hl hp
 simp only [sm] at hl hp
 rintro _ rfl
 simp only [bne_iff_ne,bne_eq_false_iff_eq]
 have Oq:∀ a,eK o o.aC=0→bL o l o.aC a=fh o l [] o.aC a:=fun a hm=>by unfold bL; rw [hm,if_neg (by decide)]
 by_cases hm:eK o o.aC=0
 ·have e0:bL o l o.aC []=(o.aC,0,0):=by rw [Oq _ hm]; rfl
  have er:lf o l p=fu o l [] o.aC p:=by unfold lf; rw [hm,if_neg (by decide)]
  rw [e0,er]
  refine ⟨fun h=>absurd rfl h,fun _=>?_⟩
  simp only [decide_eq_true_eq,decide_eq_false_iff_not]
  refine ⟨fun out st i=>∃ k:Nat,i=k∧k≤p.length∧out.length=k∧out.map (·.Oper)=p.take k∧fh o l [] o.aC out=(st,(k:Int),0)∧px out (fu o l (mR p k) st (p.drop k))=fu o l [] o.aC p,fun _ _ i=>(p.length - i).toNat,⟨0,rfl,by omega,rfl,by simp,rfl,by rw [wS,List.drop_zero]; exact BE _ _ _ _ _⟩,?_⟩
  rintro out st _ ⟨k,rfl,hk,Ab,va,ky,iP⟩
  refine ⟨fun hi=>?_,fun hi=>?_⟩
  ·have hi:k < p.length:=by omega
   rw [Aj hi] at iP
   have IH:(out.map (·.Oper)).reverse++[]=mR p k:=by rw [va,List.append_nil]; rfl
   have j2:∀ x,x=(fJ o l st (gi p (k:Int))).Result→VC60_J2 o l p (fun r=>r=fu o l [] o.aC p) (fun out st i=>∃ k:Nat,i=k∧k≤p.length∧out.length=k∧out.map (·.Oper)=p.take k∧fh o l [] o.aC out=(st,(k:Int),0)∧px out (fu o l (mR p k) st (p.drop k))=fu o l [] o.aC p) (fun _ _ i=>(p.length - i).toNat) out st k out x:=by
    rintro x hx
    unfold VC60_J2
    rw [show (⟨gi p (k:Int),x⟩:aa)=fJ o l st (gi p (k:Int)) by rw [hx]; rfl]
    refine ⟨by simp only [List.length_append,List.length_cons,List.length_nil]; omega,?_⟩
    rintro _ rfl
    have Ks:=uC (o:=o) (l:=l) (q:=fJ o l st (gi p (k:Int))) (a:=out) (prev:=[]) (s:=o.aC) (by rw [ky])
    rw [IH,ky,Ab] at Ks
    dsimp only at Ks
    rw [Oq _ hm,Ks]
    simp only [bne_iff_ne,bne_eq_false_iff_eq]
    by_cases he:(ca o l (mR p k) st (fJ o l st (gi p (k:Int)))).2≠0
    ·rw [if_pos he]
     refine ⟨fun _=>?_,fun h=>absurd h he⟩
     rw [if_pos he] at iP
     rw [← iP]; unfold px; rw [if_pos he]
    ·rw [if_neg he]
     refine ⟨fun h=>absurd rfl h,fun _=>?_⟩
     rw [if_neg he,zT,← wT hi] at iP
     rw [wrp (by omega) (by omega)]
     refine ⟨⟨k+1,by simp,by omega,by simp [Ab],?_,?_,iP⟩,by omega⟩
     ·rw [List.map_append,va,List.take_succ_eq_append_getElem hi,cN _ _ hi]; rfl
     ·rw [Ks,if_neg he]; simp
   have jn:¬ (0≤gi p (k:Int)∧gi p (k:Int) < l.length)→VC60_J2 o l p (fun r=>r=fu o l [] o.aC p) (fun out st i=>∃ k:Nat,i=k∧k≤p.length∧out.length=k∧out.map (·.Oper)=p.take k∧fh o l [] o.aC out=(st,(k:Int),0)∧px out (fu o l (mR p k) st (p.drop k))=fu o l [] o.aC p) (fun _ _ i=>(p.length - i).toNat) out st k out 0:=fun h=>j2 0 (by unfold fJ; dsimp only; rw [if_neg h])
   refine ⟨⟨by omega,by omega⟩,⟨by omega,by omega⟩,fun hb=>⟨⟨by omega,by omega⟩,?_⟩,fun hb=>?_⟩
   ·unfold VC60_J3
    rw [decide_eq_true_eq,decide_eq_false_iff_not]
    refine ⟨fun hb2=>⟨⟨by omega,by omega⟩,⟨by omega,by omega⟩,?_⟩,fun hb2=>jn (by omega)⟩
    rintro _ rfl
    refine j2 _ ?_
    unfold fJ
    dsimp only
    rw [if_pos ⟨by omega,hb2⟩]
   ·unfold VC60_J3
    exact ⟨(fun h=>by cases h),fun _=>jn (by omega)⟩
  ·have:k=p.length:=by omega
   subst this
   unfold VC60_J1
   rw [← iP,List.drop_length,fu]
   unfold px; simp
 ·have e0:bL o l o.aC []=(0,-1,eK o o.aC):=by unfold bL; rw [if_pos hm]
  rw [e0]
  refine ⟨fun _=>by unfold lf; rw [if_pos hm],fun h=>absurd h hm⟩
theorem rU {o:ae}:∀ {f i:Nat},i+f=o.Rows.length→(gr o f i).2=0→∀ j:Nat,i≤j→j < o.Rows.length→ga o (j:Int)=0
 | 0,i,h,_,j,h1,h2=>by omega
 | f+1,i,h,h0,j,h1,h2=>by
  rw [gr] at h0
  by_cases he:ga o (i:Int)≠0
  ·rw [if_pos he] at h0; exact absurd h0 he
  ·rw [if_neg he] at h0
   by_cases hj:j=i
   ·subst hj; omega
   ·exact rU (f:=f) (i:=i+1) (by omega) h0 j (by omega) h2
theorem D5 {o:ae} {s k:Int} (hc:(cJ o).2=0) (h:(b9 o s k).2.2=true):0≤(b9 o s k).1∧(b9 o s k).1 < o.ar:=by
 unfold cJ at hc
 split at hc
 ·cases hc
 ·have Ag:=rU (by omega) hc
  unfold b9 at h ⊢
  cases hf:o.Rows.find? (fun r=>r.State == s && r.Kind == k) with
  | none=>rw [hf] at h; cases h
  | some r =>
   have hm:=List.mem_of_find?_eq_some hf
   obtain ⟨j,hj,rfl⟩:=List.getElem_of_mem hm
   have:=Ag j (by omega) hj
   unfold ga at this
   rw [cN _ _ hj] at this
   dsimp only
   by_cases hb:o.Rows[j].State < 0∨o.Rows[j].State≥o.ar∨o.Rows[j].Next < 0∨o.Rows[j].Next≥o.ar
   ·rw [if_pos hb] at this; cases this
   ·omega
theorem vC {o:ae} {l:List ab}:∀ {p:List aa} {prev:List Int} {s:Int},(fh o l prev s p).2.2=0→fu o l prev s (p.map (·.Oper))=(p,0)
 | [],_,_,_=>rfl
 | q :: p,prev,s,h=>by
  rw [fh] at h
  by_cases he:(ca o l prev s q).2≠0
  ·rw [if_pos he] at h; exact absurd h he
  ·rw [if_neg he] at h
   dsimp only at h
   have eq:fJ o l s q.Oper=q:=by
    unfold ca at he
    by_cases h1:q.Oper < 0∨q.Oper≥l.length
    ·rw [if_pos h1] at he; exact absurd (by decide) he
    ·rw [if_neg h1] at he
     by_cases h2:q.Oper∈prev
     ·rw [if_pos h2] at he; exact absurd (by decide) he
     ·rw [if_neg h2,(nJ _ _ _ _).1] at he
      have B6:gw o l s q=0:=by omega
      unfold gw at B6
      by_cases hh:(cX o s (gi l q.Oper).Kind q.Result).2=0∧(gi l q.Oper).End≠-1∧(gi l q.Oper).Result≠q.Result
      ·rw [if_pos hh] at B6; cases B6
      ·rw [if_neg hh] at B6
       unfold cX at B6
       unfold fJ
       rw [if_pos (by omega)]
       split at B6
       ·cases B6
       ·split at B6
        ·cases B6
        ·rename_i h4
         have:(b9 o s (gi l q.Oper).Kind).2.1=q.Result:=by
          apply Classical.byContradiction
          intro hn; exact h4 (Or.inr hn)
         rw [this]
   have ih:=vC (p:=p) h
   rw [List.map_cons,fu,eq,if_neg he,ih,if_neg (fun h=>h rfl)]
theorem uE {o:ae} {l:List ab}:∀ {is:List Int} {prev:List Int} {s:Int},(fu o l prev s is).2=0→(fh o l prev s (fu o l prev s is).1).2.2=0∧(fu o l prev s is).1.map (·.Oper)=is
 | [],_,_,_=>⟨rfl,rfl⟩
 | i :: is,prev,s,h=>by
  rw [fu] at h ⊢
  by_cases he:(ca o l prev s (fJ o l s i)).2≠0
  ·rw [if_pos he] at h; exact absurd h he
  ·rw [if_neg he] at h ⊢
   by_cases h2:(fu o l (i :: prev) (ca o l prev s (fJ o l s i)).1 is).2≠0
   ·rw [if_pos h2] at h; exact absurd h h2
   ·rw [if_neg h2] at h ⊢
    obtain ⟨g1,g2⟩:=uE (o:=o) (l:=l) (is:=is) (prev:=i :: prev) (s:=(ca o l prev s (fJ o l s i)).1) (by omega)
    dsimp only
    rw [fh,if_neg he]
    refine ⟨g1,?_⟩
    rw [List.map_cons,g2]; rfl
theorem wC {o:ae} {l:List ab}:∀ {p:List aa} {prev:List Int} {s:Int},(fh o l prev s p).2.2=0→(opers p).Nodup∧∀ x∈opers p,0≤x∧x < l.length∧x∉prev
 | [],_,_,_=>⟨List.nodup_nil,fun x hx=>by cases hx⟩
 | q :: p,prev,s,h=>by
  rw [fh] at h
  by_cases he:(ca o l prev s q).2≠0
  ·rw [if_pos he] at h; exact absurd h he
  ·rw [if_neg he] at h
   obtain ⟨i1,i2⟩:=wC (p:=p) h
   have mt:¬ (q.Oper < 0∨q.Oper≥l.length)∧q.Oper∉prev:=by
    unfold ca at he
    by_cases h1:q.Oper < 0∨q.Oper≥l.length
    ·rw [if_pos h1] at he; exact absurd (by decide) he
    ·rw [if_neg h1] at he
     refine ⟨h1,fun h2=>?_⟩
     rw [if_pos h2] at he; exact absurd (by decide) he
   have e:opers (q :: p)=q.Oper :: opers p:=rfl
   rw [e,List.nodup_cons]
   refine ⟨⟨fun hm=>?_,i1⟩,fun x hx=>?_⟩
   ·exact (i2 _ hm).2.2 (List.mem_cons_self ..)
   ·rcases List.mem_cons.mp hx with rfl | hx
    ·exact ⟨by omega,by omega,mt.2⟩
    ·obtain ⟨a,b,c⟩:=i2 x hx
     exact ⟨a,b,fun hp=>c (List.mem_cons_of_mem _ hp)⟩
theorem sk (n:Nat):∀ (S:List Int),S.Nodup→(∀ x∈S,0≤x∧x < n)→((List.range n).filter (fun i:Nat=>!decide ((i:Int)∈S))).length+S.length=n
 | [],_,_=>by simp; rw [List.filter_eq_self.mpr (fun _ _=>rfl),List.length_range]
 | a :: S,hn,hr=>by
  have ih:=sk n S (List.nodup_cons.mp hn).2 (fun x hx=>hr x (List.mem_cons_of_mem _ hx))
  obtain ⟨h0,h1⟩:=hr a (List.mem_cons_self ..)
  have hF:((List.range n).filter (fun i:Nat=>!decide ((i:Int)∈S))).Nodup:=List.Pairwise.filter _ List.nodup_range
  have hm:a.toNat∈(List.range n).filter (fun i:Nat=>!decide ((i:Int)∈S)):=by
   rw [List.mem_filter,List.mem_range]
   refine ⟨by omega,?_⟩
   have:(a.toNat:Int)=a:=by omega
   simp [this,(List.nodup_cons.mp hn).1]
  have he:(List.range n).filter (fun i:Nat=>!decide ((i:Int)∈a :: S))=((List.range n).filter (fun i:Nat=>!decide ((i:Int)∈S))).erase a.toNat:=by
   rw [hF.erase_eq_filter,List.filter_filter]
   congr 1
   funext i
   rw [Bool.eq_iff_iff]
   simp only [Bool.not_eq_true',decide_eq_false_iff_not,List.mem_cons,Bool.and_eq_true,bne_iff_ne]
   constructor
   ·intro h; exact ⟨fun h2=>h (Or.inl (by omega)),fun h2=>h (Or.inr h2)⟩
   ·rintro ⟨h2,h3⟩ (h4 | h4)
    ·exact h2 (by omega)
    ·exact h3 h4
  have GW:=List.length_pos_of_mem hm
  rw [he,List.length_erase_of_mem hm,List.length_cons]
  omega
theorem h8 {l:List ab} {p:List aa} {m:Int}:m∈b7 l p↔0≤m∧m < l.length∧(gi l m).End≠-1∧m∉opers p:=by
 unfold b7 en gv kM
 rw [List.mem_map]
 constructor
 ·rintro ⟨i,hi,rfl⟩
  rw [List.mem_filter,List.mem_range] at hi
  obtain ⟨h1,h2⟩:=hi
  simp only [Bool.and_eq_true,beq_iff_eq,beq_eq_false_iff_ne,Bool.not_eq_true',decide_eq_false_iff_not] at h2
  exact ⟨by omega,by omega,h2.1,h2.2⟩
 ·rintro ⟨h0,h1,h2,h3⟩
  refine ⟨m.toNat,?_,by omega⟩
  have e:(m.toNat:Int)=m:=by omega
  rw [List.mem_filter,List.mem_range,e]
  refine ⟨by omega,?_⟩
  simp only [Bool.and_eq_true,beq_iff_eq,beq_eq_false_iff_ne,Bool.not_eq_true',decide_eq_false_iff_not]
  exact ⟨h2,h3⟩
theorem sf {l:List ab} {p:List aa} (h:¬ cA l p≥0):∀ y:Nat,y < p.length→dP l p y=false:=by
 unfold cA pM at h
 cases hf:(List.range p.length).find? (dP l p) with
 | none =>
  rw [List.find?_eq_none] at hf
  intro y hy
  have:=hf y (List.mem_range.mpr hy)
  simpa using this
 | some x=>rw [hf] at h; exact absurd (by dsimp only; omega) h
theorem oO {o:ae} {l:List ab} {p:List aa}:c9 o l p=true↔(bp o).2=0∧(bZ l).2=0∧(cg o l p).2.2=0∧(∀ y:Nat,y < p.length→dP l p y=false)∧∀ m,m∉b7 l p:=by
 unfold c9
 rw [beq_iff_eq]
 unfold eH
 by_cases h1:(bp o).2≠0∨(bZ l).2≠0
 ·rw [if_pos h1]
  exact ⟨(fun h=>by cases h),fun h=>by omega⟩
 ·rw [if_neg h1]
  by_cases h2:(cg o l p).2.2≠0
  ·rw [if_pos h2]
   exact ⟨fun h=>absurd h h2,fun h=>absurd h.2.2.1 h2⟩
  ·rw [if_neg h2]
   by_cases h3:cA l p≥0
   ·rw [if_pos h3]
    refine ⟨(fun h=>by cases h),fun h=>?_⟩
    rw [qw h.2.2.2.1] at h3
    exact absurd h3 (by decide)
   ·rw [if_neg h3]
    by_cases h4:(b7 l p).length > 0
    ·rw [if_pos h4]
     refine ⟨(fun h=>by cases h),fun h=>?_⟩
     exact absurd (List.getElem_mem h4) (h.2.2.2.2 _)
    ·rw [if_neg h4]
     refine ⟨fun _=>⟨by omega,by omega,by omega,sf h3,fun m hm=>h4 (List.length_pos_of_mem hm)⟩,fun _=>rfl⟩
theorem ln {o:ae} {l:List ab} {p:List aa} (h:(cg o l p).2.2=0):(opers p).Nodup∧∀ x∈opers p,0≤x∧x < l.length:=by
 unfold cg bL at h
 split at h
 ·rename_i hm; exact absurd h hm
 ·have:=wC h
  exact ⟨this.1,fun x hx=>⟨(this.2 x hx).1,(this.2 x hx).2.1⟩⟩
theorem ll {p:List aa} {i:Int}:aX p i≥0↔i∈opers p:=by
 have hm:=jL (p:=p) (i:=i) (Nat.le_refl _)
 rw [List.take_length] at hm
 rcases iX p i with ⟨h1,h2⟩ | ⟨k,h1,h2,h3,_⟩
 ·rw [h1]; exact ⟨fun h=>absurd h (by decide),fun h=>absurd h h2⟩
 ·rw [h2,hm]; exact ⟨fun _=>⟨k,h1,h3⟩,fun _=>by omega⟩
theorem Av {l:List ab} (h:(bZ l).2=0) {i:Int} (h0:0≤i) (h1:i < l.length):aZ (gi l i) (gi l i)=false:=by
 have hl:=sK h
 unfold bZ at h
 rw [if_neg (by omega)] at h
 have ha:=(vH l l.length [] [] 0 (by omega) h i.toNat (by omega) (by omega)).1
 have e:(i.toNat:Int)=i:=by omega
 rw [e] at ha
 unfold cQ at ha
 unfold aZ
 split at ha
 ·cases ha
 ·split at ha
  ·cases ha
  ·split at ha
   ·cases ha
   ·rename_i _ _ he
    have he:dR (gi l i)=true:=by simpa using he
    unfold dR at he
    rw [Bool.and_eq_false_iff,decide_eq_false_iff_not,decide_eq_false_iff_not]
    split at he
    ·left; omega
    ·simp only [Bool.and_eq_true,decide_eq_true_eq] at he
     right; omega
theorem yw {o:ae} {l:List ab} {p:List aa}:ec o l p=true↔(cg o l p).2.2=0∧∀ i:Nat,i < l.length→((gi l (i:Int)).End≠-1→aX p i≥0)∧∀ k:Nat,k < l.length→aZ (gi l (i:Int)) (gi l (k:Int))=true→aX p k≥0→aX p i≥0∧aX p i≤aX p k:=by
 unfold ec
 rw [Bool.and_eq_true,decide_eq_true_eq,List.all_eq_true]
 have e:∀ i,nX l p i=true↔((gi l (i:Int)).End≠-1→aX p i≥0)∧∀ k:Nat,k < l.length→aZ (gi l (i:Int)) (gi l (k:Int))=true→aX p k≥0→aX p i≥0∧aX p i≤aX p k:=by
  intro i
  unfold nX
  rw [Bool.and_eq_true,List.all_eq_true]
  have a1:(!(((gi l (i:Int)).End != -1) && decide (aX p i < 0)))=true↔((gi l (i:Int)).End≠-1→aX p i≥0):=by
   rw [Bool.not_eq_true',Bool.and_eq_false_iff,bne_eq_false_iff_eq,decide_eq_false_iff_not]
   omega
  rw [a1]
  refine and_congr Iff.rfl ⟨fun h k hk ha hp=>?_,fun h k hk=>?_⟩
  ·have:=h k (List.mem_range.mpr hk)
   unfold kL at this
   rw [ha,Bool.not_eq_true',Bool.true_and,Bool.and_eq_false_iff,decide_eq_false_iff_not,Bool.or_eq_false_iff,decide_eq_false_iff_not,decide_eq_false_iff_not] at this
   omega
  ·unfold kL
   rw [Bool.not_eq_true',Bool.and_eq_false_iff,Bool.and_eq_false_iff,decide_eq_false_iff_not,Bool.or_eq_false_iff,decide_eq_false_iff_not,decide_eq_false_iff_not]
   cases ha:aZ (gi l (i:Int)) (gi l (k:Int)) with
   | false=>exact Or.inl (Or.inl rfl)
   | true =>
    have:=h k (List.mem_range.mp hk) ha
    by_cases hp:aX p k≥0
    ·have:=this hp; right; omega
    ·exact Or.inl (Or.inr hp)
 constructor
 ·rintro ⟨h1,h2⟩
  exact ⟨h1,fun i hi=>(e i).mp (h2 i (List.mem_range.mpr hi))⟩
 ·rintro ⟨h1,h2⟩
  exact ⟨h1,fun i hi=>(e i).mpr (h2 i (List.mem_range.mp hi))⟩
theorem GQ {o:ae} {l:List ab} {p:List aa} (hc:(bp o).2=0) (hl:(bZ l).2=0):c9 o l p=ec o l p:=by
 rw [Bool.eq_iff_iff,oO,yw]
 constructor
 ·rintro ⟨-,-,ky,Cd,Ce⟩
  refine ⟨ky,fun i hi=>⟨fun he=>?_,fun k hk ha hp=>?_⟩⟩
  ·rw [ge_iff_le,← ge_iff_le,ll]
   apply Classical.byContradiction
   intro hn
   exact Ce i (h8.mpr ⟨by omega,by omega,he,hn⟩)
  ·rcases iX p (k:Int) with ⟨h1,_⟩ | ⟨x,h1,h2,h3,_⟩
   ·omega
   ·have hb:=Cd x h1
    have G1:(i:Int)∈opers (p.take x):=by
     apply Classical.byContradiction
     intro hn
     rw [re (k:=i) (by rw [h3]; omega) hi (by rw [h3]; exact ha) hn] at hb
     cases hb
    obtain ⟨j,hj,Ch⟩:=(jL (by omega)).mp G1
    rcases iX p (i:Int) with ⟨g1,g2⟩ | ⟨y,g1,g2,g3,g4⟩
    ·exfalso
     apply g2
     have:=(jL (p:=p) (i:=(i:Int)) (Nat.le_refl _)).mpr ⟨j,by omega,Ch⟩
     rwa [List.take_length] at this
    ·have:¬ j < y:=fun h=>g4 j h Ch
     omega
 ·rintro ⟨ky,h⟩
  obtain ⟨PT,mt⟩:=ln ky
  refine ⟨hc,hl,ky,fun x hx=>tY (fun k hk hh=>?_),fun m hm=>?_⟩
  ·obtain ⟨ha,hn⟩:=hh
   have N0:(gi p (x:Int)).Oper∈opers p:=by
    have:=(jL (p:=p) (i:=(gi p (x:Int)).Oper) (Nat.le_refl _)).mpr ⟨x,hx,rfl⟩
    rwa [List.take_length] at this
   have hr:=mt _ N0
   have e:(((gi p (x:Int)).Oper.toNat:Nat):Int)=(gi p (x:Int)).Oper:=by omega
   have Cb:=ll.mpr N0
   have h2:=(h k hk).2 (gi p (x:Int)).Oper.toNat (by omega) (by rw [e]; exact ha) (by rw [e]; exact Cb)
   rw [e] at h2
   rcases iX p (gi p (x:Int)).Oper with ⟨g1,_⟩ | ⟨y,g1,g2,g3,g4⟩
   ·omega
   ·have Sb:¬ x < y:=fun hh=>g4 x hh rfl
    rcases iX p (k:Int) with ⟨f1,_⟩ | ⟨z,f1,f2,f3,f4⟩
    ·omega
    ·by_cases Pn:z < x
     ·exact hn ((jL (by omega)).mpr ⟨z,Pn,f3⟩)
     ·have:z=y:=by omega
      subst this
      rw [f3] at g3
      rw [← g3] at ha
      rw [Av hl (by omega) (by omega)] at ha
      cases ha
  ·obtain ⟨h0,h1,h2,h3⟩:=h8.mp hm
   have e:((m.toNat:Nat):Int)=m:=by omega
   have:=(h m.toNat (by omega)).1 (by rw [e]; exact h2)
   rw [e] at this
   exact h3 (ll.mp this)
end Go.Proofs.YteahldlmkheleaaGreat
