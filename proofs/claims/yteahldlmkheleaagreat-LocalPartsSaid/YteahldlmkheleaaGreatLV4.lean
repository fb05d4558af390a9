/- Orders filled; linearizations,plain. -/
import Derived.Test.YteahldlmkheleaaGreatLV3
set_option linter.all false
namespace Go.Proofs.YteahldlmkheleaaGreat
open Go Go.Sv Go.Pu
theorem rj {o:ah}:∀ {f i:Nat},i+f=o.Rows.length→(gj o f i).2=0→∀ j:Nat,i≤j→j < o.Rows.length→fK o (j:Int)=0
 | 0,i,h,_,j,h1,h2=>by omega
 | f+1,i,h,h0,j,h1,h2=>by
  rw [gj] at h0
  by_cases he:fK o (i:Int)≠0
  ·rw [if_pos he] at h0; exact absurd h0 he
  ·rw [if_neg he] at h0
   by_cases hj:j=i
   ·subst hj; omega
   ·exact rj (f:=f) (i:=i+1) (by omega) h0 j (by omega) h2
theorem CX {o:ah} {s k:Int} (hc:(cI o).2=0) (h:(bq o s k).2.2=true):0≤(bq o s k).1∧(bq o s k).1 < o.ar:=by
 unfold cI at hc
 split at hc
 ·cases hc
 ·have ze:=rj (by omega) hc
  unfold bq at h ⊢
  cases hf:o.Rows.find? (fun r=>r.State == s && r.Kind == k) with
  | none=>rw [hf] at h; cases h
  | some r =>
   have hm:=List.mem_of_find?_eq_some hf
   obtain ⟨j,hj,rfl⟩:=List.getElem_of_mem hm
   have:=ze j (by omega) hj
   unfold fK at this
   rw [bS _ _ hj] at this
   dsimp only
   by_cases hb:o.Rows[j].State < 0∨o.Rows[j].State≥o.ar∨o.Rows[j].Next < 0∨o.Rows[j].Next≥o.ar
   ·rw [if_pos hb] at this; cases this
   ·omega
theorem vI {o:ah} {l:List ab}:∀ {p:List aa} {prev:List Int} {s:Int},(gT o l prev s p).2.2=0→(opers p).Nodup∧∀ x∈opers p,0≤x∧x < l.length∧x∉prev
 | [],_,_,_=>⟨List.nodup_nil,fun x hx=>by cases hx⟩
 | q :: p,prev,s,h=>by
  rw [gT] at h
  by_cases he:(di o l prev s q).2≠0
  ·rw [if_pos he] at h; exact absurd h he
  ·rw [if_neg he] at h
   obtain ⟨i1,i2⟩:=vI (p:=p) h
   have hin:¬ (q.Oper < 0∨q.Oper≥l.length)∧q.Oper∉prev:=by
    unfold di at he
    by_cases h1:q.Oper < 0∨q.Oper≥l.length
    ·rw [if_pos h1] at he; exact absurd (by decide) he
    ·rw [if_neg h1] at he
     refine ⟨h1,fun h2=>?_⟩
     rw [if_pos h2] at he; exact absurd (by decide) he
   have e:opers (q :: p)=q.Oper :: opers p:=rfl
   rw [e,List.nodup_cons]
   refine ⟨⟨fun hm=>?_,i1⟩,fun x hx=>?_⟩
   ·exact (i2 _ hm).2.2 (List.mem_cons_self ..)
   ·rcases List.mem_cons.mp hx with rfl | hx
    ·exact ⟨by omega,by omega,hin.2⟩
    ·obtain ⟨a,b,c⟩:=i2 x hx
     exact ⟨a,b,fun hp=>c (List.mem_cons_of_mem _ hp)⟩
theorem rH (n:Nat):∀ (S:List Int),S.Nodup→(∀ x∈S,0≤x∧x < n)→((List.range n).filter (fun i:Nat=>!decide ((i:Int)∈S))).length+S.length=n
 | [],_,_=>by simp; rw [List.filter_eq_self.mpr (fun _ _=>rfl),List.length_range]
 | a :: S,hn,hr=>by
  have ih:=rH n S (List.nodup_cons.mp hn).2 (fun x hx=>hr x (List.mem_cons_of_mem _ hx))
  obtain ⟨h0,h1⟩:=hr a (List.mem_cons_self ..)
  have hF:((List.range n).filter (fun i:Nat=>!decide ((i:Int)∈S))).Nodup:=List.Pairwise.filter _ List.nodup_range
  have hm:a.toNat∈(List.range n).filter (fun i:Nat=>!decide ((i:Int)∈S)):=by
   rw [List.mem_filter,List.mem_range]
   refine ⟨by omega,?_⟩
   have:(a.toNat:Int)=a:=by omega
   simp [this,(List.nodup_cons.mp hn).1]
  have he:(List.range n).filter (fun i:Nat=>!decide ((i:Int)∈a :: S))=((List.range n).filter (fun i:Nat=>!decide ((i:Int)∈S))).erase a.toNat:=by
   rw [hF.erase_eq_filter,List.filter_filter]
   congr 1
   funext i
   rw [Bool.eq_iff_iff]
   simp only [Bool.not_eq_true',decide_eq_false_iff_not,List.mem_cons,Bool.and_eq_true,bne_iff_ne]
   constructor
   ·intro h; exact ⟨fun h2=>h (Or.inl (by omega)),fun h2=>h (Or.inr h2)⟩
   ·rintro ⟨h2,h3⟩ (h4 | h4)
    ·exact h2 (by omega)
    ·exact h3 h4
  have FR:=List.length_pos_of_mem hm
  rw [he,List.length_erase_of_mem hm,List.length_cons]
  omega
theorem hU {l:List ab} {p:List aa} {m:Int}:m∈bZ l p↔0≤m∧m < l.length∧(gi l m).End≠-1∧m∉opers p:=by
 unfold bZ dY gk kb
 rw [List.mem_map]
 constructor
 ·rintro ⟨i,hi,rfl⟩
  rw [List.mem_filter,List.mem_range] at hi
  obtain ⟨h1,h2⟩:=hi
  simp only [Bool.and_eq_true,beq_iff_eq,beq_eq_false_iff_ne,Bool.not_eq_true',decide_eq_false_iff_not] at h2
  exact ⟨by omega,by omega,h2.1,h2.2⟩
 ·rintro ⟨h0,h1,h2,h3⟩
  refine ⟨m.toNat,?_,by omega⟩
  have e:(m.toNat:Int)=m:=by omega
  rw [List.mem_filter,List.mem_range,e]
  refine ⟨by omega,?_⟩
  simp only [Bool.and_eq_true,beq_iff_eq,beq_eq_false_iff_ne,Bool.not_eq_true',decide_eq_false_iff_not]
  exact ⟨h2,h3⟩
theorem yM {l:List ab} {p:List aa} (h:¬ cH l p≥0):∀ y:Nat,y < p.length→ec l p y=false:=by
 unfold cH pg at h
 cases hf:(List.range p.length).find? (ec l p) with
 | none =>
  rw [List.find?_eq_none] at hf
  intro y hy
  have:=hf y (List.mem_range.mpr hy)
  simpa using this
 | some x=>rw [hf] at h; exact absurd (by dsimp only; omega) h
theorem n8 {o:ah} {l:List ab} {p:List aa}:dh o l p=true↔(br o).2=0∧(cQ l).2=0∧(cC o l p).2.2=0∧(∀ y:Nat,y < p.length→ec l p y=false)∧∀ m,m∉bZ l p:=by
 unfold dh
 rw [beq_iff_eq]
 unfold eE
 by_cases h1:(br o).2≠0∨(cQ l).2≠0
 ·rw [if_pos h1]
  exact ⟨(fun h=>by cases h),fun h=>by omega⟩
 ·rw [if_neg h1]
  by_cases h2:(cC o l p).2.2≠0
  ·rw [if_pos h2]
   exact ⟨fun h=>absurd h h2,fun h=>absurd h.2.2.1 h2⟩
  ·rw [if_neg h2]
   by_cases h3:cH l p≥0
   ·rw [if_pos h3]
    refine ⟨(fun h=>by cases h),fun h=>?_⟩
    rw [ug h.2.2.2.1] at h3
    exact absurd h3 (by decide)
   ·rw [if_neg h3]
    by_cases h4:(bZ l p).length > 0
    ·rw [if_pos h4]
     refine ⟨(fun h=>by cases h),fun h=>?_⟩
     exact absurd (List.getElem_mem h4) (h.2.2.2.2 _)
    ·rw [if_neg h4]
     refine ⟨fun _=>⟨by omega,by omega,by omega,yM h3,fun m hm=>h4 (List.length_pos_of_mem hm)⟩,fun _=>rfl⟩
theorem pX {o:ah} {l:List ab} {p:List aa} (h:(cC o l p).2.2=0):(opers p).Nodup∧∀ x∈opers p,0≤x∧x < l.length:=by
 unfold cC cN at h
 split at h
 ·rename_i hm; exact absurd h hm
 ·have:=vI h
  exact ⟨this.1,fun x hx=>⟨(this.2 x hx).1,(this.2 x hx).2.1⟩⟩
theorem ry {p:List aa} {i:Int}:cc p i≥0↔i∈opers p:=by
 have hm:=rI (p:=p) (i:=i) (Nat.le_refl _)
 rw [List.take_length] at hm
 rcases pW p i with ⟨h1,h2⟩ | ⟨k,h1,h2,h3,_⟩
 ·rw [h1]; exact ⟨fun h=>absurd h (by decide),fun h=>absurd h h2⟩
 ·rw [h2,hm]; exact ⟨fun _=>⟨k,h1,h3⟩,fun _=>by omega⟩
end Go.Proofs.YteahldlmkheleaaGreat
