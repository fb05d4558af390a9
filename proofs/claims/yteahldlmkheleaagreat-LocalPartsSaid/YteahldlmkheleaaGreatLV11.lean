/- zN mQ check of jz is the LK. -/
import Derived.Test.YteahldlmkheleaaGreatLV10
set_option linter.all false
namespace Go.Proofs.YteahldlmkheleaaGreat
open Go Go.Sv Go.Pu
def sa (l:List ab) (u:List (Int × Int)) (i:Nat):Prop:=∀ t,0≤fI u t∧fI u t≤2 * i∧(fI u t > 0↔∃ k:Nat,k < i∧((gi l (k:Int)).aF=t∨((gi l (k:Int)).End≥0∧(gi l (k:Int)).End=t)))
def sQ (l:List ab) (la:List (Int × ab)) (i:Nat):Prop:=∀ p,match aC la p with
 | none=>∀ k:Nat,k < i→(gi l (k:Int)).aj≠p
 | some x=>∃ k:Nat,k < i∧(gi l (k:Int)).aj=p∧x=gi l (k:Int)∧∀ j:Nat,k < j→j < i→(gi l (j:Int)).aj≠p
def vV (l:List ab) (i:Nat):Prop:=∀ k:Nat,k < i→df (gi l (k:Int))=0∧∀ j:Nat,j < k→(gi l (j:Int)).aF < (gi l (k:Int)).aF∧((gi l (j:Int)).aj=(gi l (k:Int)).aj→bh (gi l (j:Int)) (gi l (k:Int))=true)
theorem Ai {u:List (Int × Int)} {k t:Int} (h0:0≤fI u k) (h:fI u k≤1000000):fI (use u k) t=if t=k then fI u k+1 else fI u t:=by
 unfold use
 rw [wrp (by omega) (by omega)]
 unfold fI
 rw [eV]
 split <;> rfl
theorem ym {l:List ab} {u:List (Int × Int)} {i:Nat} (h:sa l u i) (hi:i < 5000):sa l (kA l u i) (i+1):=by
 have ex:∀ P:Nat→Prop,(∃ k:Nat,k < i+1∧P k)↔(∃ k:Nat,k < i∧P k)∨P i:=fun P=>by
  constructor
  ·rintro ⟨k,hk,hp⟩
   by_cases e:k=i
   ·subst e; exact .inr hp
   ·exact .inl ⟨k,by omega,hp⟩
  ·rintro (⟨k,hk,hp⟩ | hp)
   ·exact ⟨k,by omega,hp⟩
   ·exact ⟨i,by omega,hp⟩
 intro t
 obtain ⟨a,b,c⟩:=h t
 rw [ex,← c]
 have hs:=h (gi l (i:Int)).aF
 have h1:∀ t,fI (use u (gi l (i:Int)).aF) t=if t=(gi l (i:Int)).aF then fI u (gi l (i:Int)).aF+1 else fI u t:=fun t=>Ai hs.1 (by omega)
 unfold kA
 by_cases he:(gi l (i:Int)).End≥0
 ·rw [if_pos he]
  have Rr:=h (gi l (i:Int)).End
  have hb:0≤fI (use u (gi l (i:Int)).aF) (gi l (i:Int)).End∧fI (use u (gi l (i:Int)).aF) (gi l (i:Int)).End≤2 * i+1:=by
   rw [h1]; split <;> omega
  rw [Ai hb.1 (by omega),h1,h1]
  by_cases e1:t=(gi l (i:Int)).End
  ·subst e1
   rw [if_pos rfl]
   split <;> (rename_i e2; refine ⟨by omega,by omega,fun _=>.inr (.inr ⟨he,rfl⟩),fun _=>by omega⟩)
  ·rw [if_neg e1]
   by_cases e2:t=(gi l (i:Int)).aF
   ·subst e2
    rw [if_pos rfl]
    exact ⟨by omega,by omega,fun _=>.inr (.inl rfl),fun _=>by omega⟩
   ·rw [if_neg e2]
    refine ⟨a,by omega,fun h=>.inl h,?_⟩
    rintro (h | h | h)
    ·exact h
    ·exact absurd h.symm e2
    ·exact absurd h.2.symm e1
 ·rw [if_neg he,h1]
  by_cases e2:t=(gi l (i:Int)).aF
  ·subst e2
   rw [if_pos rfl]
   exact ⟨by omega,by omega,fun _=>.inr (.inl rfl),fun _=>by omega⟩
  ·rw [if_neg e2]
   refine ⟨a,by omega,fun h=>.inl h,?_⟩
   rintro (h | h | h)
   ·exact h
   ·exact absurd h.symm e2
   ·exact absurd h.1 he
theorem yT {l:List ab} {la:List (Int × ab)} {i:Nat} (h:sQ l la i):sQ l (dj la (gi l (i:Int)).aj (gi l (i:Int))) (i+1):=by
 intro p
 have hp:=h p
 rw [eV]
 by_cases e:p=(gi l (i:Int)).aj
 ·rw [if_pos e]
  exact ⟨i,by omega,e.symm,rfl,fun j h1 h2=>by omega⟩
 ·rw [if_neg e]
  cases hm:aC la p with
  | none =>
   rw [hm] at hp
   intro k hk
   by_cases e2:k=i
   ·subst e2; exact fun h=>e h.symm
   ·exact hp k (by omega)
  | some x =>
   rw [hm] at hp
   obtain ⟨k,h1,h2,h3,h4⟩:=hp
   refine ⟨k,by omega,h2,h3,fun j Pc Cm=>?_⟩
   by_cases e2:j=i
   ·subst e2; exact fun h=>e h.symm
   ·exact h4 j Pc (by omega)
theorem fo {x:ab} (h:df x=0):0≤x.aF∧(x.End=-1∨x.End > x.aF):=by
 unfold df at h
 split at h
 ·cases h
 ·split at h
  ·cases h
  ·split at h
   ·cases h
   ·rename_i h1 _ h3
    refine ⟨by omega,?_⟩
    have h3:en x=true:=by simpa using h3
    unfold en at h3
    split at h3
    ·left; assumption
    ·right
     simp only [Bool.and_eq_true,decide_eq_true_eq] at h3
     exact h3.1.1.1
theorem l0 {a b:ab}:j9 a b=true↔a.aF=b.aF∨a.End=b.aF∨a.aF=b.End∨(a.End=b.End∧a.End≠-1):=by
 unfold j9
 simp only [Bool.or_eq_true,Bool.and_eq_true,beq_iff_eq,bne_iff_ne,or_assoc]
theorem yJ {l:List ab} {u:List (Int × Int)} {i:Nat} (hu:sa l u i) (hp:vV l i) (ha:df (gi l (i:Int))=0):nk l u i↔∃ k:Nat,k < i∧((gi l (k:Int)).aF≥(gi l (i:Int)).aF∨j9 (gi l (k:Int)) (gi l (i:Int))=true):=by
 obtain ⟨f1,f2⟩:=fo ha
 unfold nk
 rw [(hu (gi l (i:Int)).aF).2.2,(hu (gi l (i:Int)).End).2.2]
 constructor
 ·rintro (⟨h0,h1⟩ | ⟨k,hk,h⟩ | ⟨he,k,hk,h⟩)
  ·refine ⟨i - 1,by omega,.inl ?_⟩
   rw [show ((i - 1:Nat):Int)=(i:Int) - 1 by omega]; exact h1
  ·refine ⟨k,hk,.inr (l0.2 ?_)⟩
   rcases h with h | h
   ·exact .inl h
   ·exact .inr (.inl h.2)
  ·refine ⟨k,hk,.inr (l0.2 ?_)⟩
   rcases h with h | h
   ·exact .inr (.inr (.inl h))
   ·exact .inr (.inr (.inr ⟨h.2,by omega⟩))
 ·rintro ⟨k,hk,h | h⟩
  ·left
   refine ⟨by omega,?_⟩
   by_cases e:k=i - 1
   ·subst e; rw [show ((i - 1:Nat):Int)=(i:Int) - 1 by omega] at h; exact h
   ·have:=((hp (i - 1) (by omega)).2 k (by omega)).1
    rw [show ((i - 1:Nat):Int)=(i:Int) - 1 by omega] at this
    omega
  ·obtain ⟨g1,g2⟩:=fo (hp k hk).1
   rcases l0.1 h with h | h | h | h
   ·exact .inr (.inl ⟨k,hk,.inl h⟩)
   ·exact .inr (.inl ⟨k,hk,.inr ⟨by omega,h⟩⟩)
   ·exact .inr (.inr ⟨by omega,k,hk,.inl h⟩)
   ·exact .inr (.inr ⟨by omega,k,hk,.inr ⟨by omega,h.1⟩⟩)
theorem u7 {a b c:ab} (hb:df b=0) (h1:bh a b=true) (h2:bh b c=true):bh a c=true:=by
 obtain ⟨f1,f2⟩:=fo hb
 unfold bh at *
 rw [Bool.and_eq_true,decide_eq_true_eq,decide_eq_true_eq] at *
 omega
theorem yI {l:List ab} {la:List (Int × ab)} {i:Nat} (hl:sQ l la i) (hp:vV l i):p3 l la i=true↔∃ k:Nat,k < i∧(gi l (k:Int)).aj=(gi l (i:Int)).aj∧bh (gi l (k:Int)) (gi l (i:Int))=false:=by
 unfold p3
 have h:=hl (gi l (i:Int)).aj
 cases hm:aC la (gi l (i:Int)).aj with
 | none =>
  rw [hm] at h
  constructor
  ·intro h2; simp at h2
  ·rintro ⟨k,hk,h1,_⟩; exact absurd h1 (h k hk)
 | some x =>
  rw [hm] at h
  obtain ⟨k,h1,h2,h3,h4⟩:=h
  subst h3
  show (true && !bh (gi l (k:Int)) (gi l (i:Int)))=true↔_
  rw [Bool.true_and,Bool.not_eq_true']
  constructor
  ·intro h; exact ⟨k,h1,h2,h⟩
  ·rintro ⟨j,hj,e1,e2⟩
   have:j≤k:=by
    apply Classical.byContradiction
    intro hh
    exact h4 j (by omega) hj e1
   by_cases e:j=k
   ·subst e; exact e2
   ·have wo:=((hp k h1).2 j (by omega)).2 (by rw [e1,h2])
    apply Classical.byContradiction
    intro hh
    rw [Bool.not_eq_false] at hh
    rw [u7 (hp k h1).1 wo hh] at e2
    cases e2
end Go.Proofs.YteahldlmkheleaaGreat
