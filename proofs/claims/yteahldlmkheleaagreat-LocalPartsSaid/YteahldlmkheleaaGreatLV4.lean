/- Lemmas. -/
import Derived.Test.YteahldlmkheleaaGreatLV3
set_option linter.all false
namespace Go.Proofs.YteahldlmkheleaaGreat
open Go Go.Sv Go.Pu
theorem sk {o:aj}:∀ {f i:Nat},i+f=o.Rows.length→(gG o f i).2=0→∀ j:Nat,i≤j→j < o.Rows.length→gd o (j:Int)=0
 | 0,i,h,_,j,h1,h2=>by omega
 | f+1,i,h,h0,j,h1,h2=>by
  rw [gG] at h0
  by_cases he:gd o (i:Int)≠0
  ·rw [if_pos he] at h0; exact absurd h0 he
  ·rw [if_neg he] at h0
   by_cases hj:j=i
   ·subst hj; omega
   ·exact sk (f:=f) (i:=i+1) (by omega) h0 j (by omega) h2
theorem Ef {o:aj} {s k:Int} (hc:(cX o).2=0) (h:(bA o s k).2.2=true):0≤(bA o s k).1∧(bA o s k).1 < o.au:=by
 unfold cX at hc
 split at hc
 ·cases hc
 ·have Av:=sk (by omega) hc
  unfold bA at h ⊢
  cases hf:o.Rows.find? (fun r=>r.State == s && r.Kind == k) with
  | none=>rw [hf] at h; cases h
  | some r =>
   have hm:=List.mem_of_find?_eq_some hf
   obtain ⟨j,hj,rfl⟩:=List.getElem_of_mem hm
   have:=Av j (by omega) hj
   unfold gd at this
   rw [bZ _ _ hj] at this
   dsimp only
   by_cases hb:o.Rows[j].State < 0∨o.Rows[j].State≥o.au∨o.Rows[j].Next < 0∨o.Rows[j].Next≥o.au
   ·rw [if_pos hb] at this; cases this
   ·omega
theorem w7 {o:aj} {l:List ab}:∀ {p:List aa} {prev:List Int} {s:Int},(il o l prev s p).2.2=0→(opers p).Nodup∧∀ x∈opers p,0≤x∧x < l.length∧x∉prev
 | [],_,_,_=>⟨List.nodup_nil,fun x hx=>by cases hx⟩
 | q :: p,prev,s,h=>by
  rw [il] at h
  by_cases he:(du o l prev s q).2≠0
  ·rw [if_pos he] at h; exact absurd h he
  ·rw [if_neg he] at h
   obtain ⟨i1,i2⟩:=w7 (p:=p) h
   have hin:¬ (q.Oper < 0∨q.Oper≥l.length)∧q.Oper∉prev:=by
    unfold du at he
    by_cases h1:q.Oper < 0∨q.Oper≥l.length
    ·rw [if_pos h1] at he; exact absurd (by decide) he
    ·rw [if_neg h1] at he
     refine ⟨h1,fun h2=>?_⟩
     rw [if_pos h2] at he; exact absurd (by decide) he
   have e:opers (q :: p)=q.Oper :: opers p:=rfl
   rw [e,List.nodup_cons]
   refine ⟨⟨fun hm=>?_,i1⟩,fun x hx=>?_⟩
   ·exact (i2 _ hm).2.2 (List.mem_cons_self ..)
   ·rcases List.mem_cons.mp hx with rfl | hx
    ·exact ⟨by omega,by omega,hin.2⟩
    ·obtain ⟨a,b,c⟩:=i2 x hx
     exact ⟨a,b,fun hp=>c (List.mem_cons_of_mem _ hp)⟩
theorem sM (n:Nat):∀ (S:List Int),S.Nodup→(∀ x∈S,0≤x∧x < n)→((List.range n).filter (fun i:Nat=>!decide ((i:Int)∈S))).length+S.length=n
 | [],_,_=>by simp; rw [List.filter_eq_self.mpr (fun _ _=>rfl),List.length_range]
 | a :: S,hn,hr=>by
  have ih:=sM n S (List.nodup_cons.mp hn).2 (fun x hx=>hr x (List.mem_cons_of_mem _ hx))
  obtain ⟨h0,h1⟩:=hr a (List.mem_cons_self ..)
  have hF:((List.range n).filter (fun i:Nat=>!decide ((i:Int)∈S))).Nodup:=List.Pairwise.filter _ List.nodup_range
  have hm:a.toNat∈(List.range n).filter (fun i:Nat=>!decide ((i:Int)∈S)):=by
   rw [List.mem_filter,List.mem_range]
   refine ⟨by omega,?_⟩
   have:(a.toNat:Int)=a:=by omega
   simp [this,(List.nodup_cons.mp hn).1]
  have he:(List.range n).filter (fun i:Nat=>!decide ((i:Int)∈a :: S))=((List.range n).filter (fun i:Nat=>!decide ((i:Int)∈S))).erase a.toNat:=by
   rw [hF.erase_eq_filter,List.filter_filter]
   congr 1
   funext i
   rw [Bool.eq_iff_iff]
   simp only [Bool.not_eq_true',decide_eq_false_iff_not,List.mem_cons,Bool.and_eq_true,bne_iff_ne]
   constructor
   ·intro h; exact ⟨fun h2=>h (Or.inl (by omega)),fun h2=>h (Or.inr h2)⟩
   ·rintro ⟨h2,h3⟩ (h4 | h4)
    ·exact h2 (by omega)
    ·exact h3 h4
  have G9:=List.length_pos_of_mem hm
  rw [he,List.length_erase_of_mem hm,List.length_cons]
  omega
theorem iD {l:List ab} {p:List aa} {m:Int}:m∈b9 l p↔0≤m∧m < l.length∧(gi l m).End≠-1∧m∉opers p:=by
 unfold b9 eC gK kU
 rw [List.mem_map]
 constructor
 ·rintro ⟨i,hi,rfl⟩
  rw [List.mem_filter,List.mem_range] at hi
  obtain ⟨h1,h2⟩:=hi
  simp only [Bool.and_eq_true,beq_iff_eq,beq_eq_false_iff_ne,Bool.not_eq_true',decide_eq_false_iff_not] at h2
  exact ⟨by omega,by omega,h2.1,h2.2⟩
 ·rintro ⟨h0,h1,h2,h3⟩
  refine ⟨m.toNat,?_,by omega⟩
  have e:(m.toNat:Int)=m:=by omega
  rw [List.mem_filter,List.mem_range,e]
  refine ⟨by omega,?_⟩
  simp only [Bool.and_eq_true,beq_iff_eq,beq_eq_false_iff_ne,Bool.not_eq_true',decide_eq_false_iff_not]
  exact ⟨h2,h3⟩
theorem Ac {l:List ab} {p:List aa} (h:¬ cW l p≥0):∀ y:Nat,y < p.length→eF l p y=false:=by
 unfold cW qc at h
 cases hf:(List.range p.length).find? (eF l p) with
 | none =>
  rw [List.find?_eq_none] at hf
  intro y hy
  have:=hf y (List.mem_range.mpr hy)
  simpa using this
 | some x=>rw [hf] at h; exact absurd (by dsimp only; omega) h
theorem o4 {o:aj} {l:List ab} {p:List aa}:dt o l p=true↔(bB o).2=0∧(c7 l).2=0∧(cS o l p).2.2=0∧(∀ y:Nat,y < p.length→eF l p y=false)∧∀ m,m∉b9 l p:=by
 unfold dt
 rw [beq_iff_eq]
 unfold eV
 by_cases h1:(bB o).2≠0∨(c7 l).2≠0
 ·rw [if_pos h1]
  exact ⟨(fun h=>by cases h),fun h=>by omega⟩
 ·rw [if_neg h1]
  by_cases h2:(cS o l p).2.2≠0
  ·rw [if_pos h2]
   exact ⟨fun h=>absurd h h2,fun h=>absurd h.2.2.1 h2⟩
  ·rw [if_neg h2]
   by_cases h3:cW l p≥0
   ·rw [if_pos h3]
    refine ⟨(fun h=>by cases h),fun h=>?_⟩
    rw [vm h.2.2.2.1] at h3
    exact absurd h3 (by decide)
   ·rw [if_neg h3]
    by_cases h4:(b9 l p).length > 0
    ·rw [if_pos h4]
     refine ⟨(fun h=>by cases h),fun h=>?_⟩
     exact absurd (List.getElem_mem h4) (h.2.2.2.2 _)
    ·rw [if_neg h4]
     refine ⟨fun _=>⟨by omega,by omega,by omega,Ac h3,fun m hm=>h4 (List.length_pos_of_mem hm)⟩,fun _=>rfl⟩
theorem qN {o:aj} {l:List ab} {p:List aa} (h:(cS o l p).2.2=0):(opers p).Nodup∧∀ x∈opers p,0≤x∧x < l.length:=by
 unfold cS c6 at h
 split at h
 ·rename_i hm; exact absurd h hm
 ·have:=w7 h
  exact ⟨this.1,fun x hx=>⟨(this.2 x hx).1,(this.2 x hx).2.1⟩⟩
theorem sB {p:List aa} {i:Int}:cn p i≥0↔i∈opers p:=by
 have hm:=sN (p:=p) (i:=i) (Nat.le_refl _)
 rw [List.take_length] at hm
 rcases qM p i with ⟨h1,h2⟩ | ⟨k,h1,h2,h3,_⟩
 ·rw [h1]; exact ⟨fun h=>absurd h (by decide),fun h=>absurd h h2⟩
 ·rw [h2,hm]; exact ⟨fun _=>⟨k,h1,h3⟩,fun _=>by omega⟩
end Go.Proofs.YteahldlmkheleaaGreat
