/- Lemmas. -/
import Derived.Test.YteahldlmkheleaaGreatLV10
set_option linter.all false
namespace Go.Proofs.YteahldlmkheleaaGreat
open Go Go.Sv Go.Pu
def tn (l:List ab) (u:List (Int × Int)) (i:Nat):Prop:=∀ t,0≤ga u t∧ga u t≤2 * i∧(ga u t > 0↔∃ k:Nat,k < i∧((gi l (k:Int)).aI=t∨((gi l (k:Int)).End≥0∧(gi l (k:Int)).End=t)))
def tX (l:List ab) (la:List (Int × ab)) (i:Nat):Prop:=∀ p,match aF la p with
 | none=>∀ k:Nat,k < i→(gi l (k:Int)).ak≠p
 | some x=>∃ k:Nat,k < i∧(gi l (k:Int)).ak=p∧x=gi l (k:Int)∧∀ j:Nat,k < j→j < i→(gi l (j:Int)).ak≠p
def xl (l:List ab) (i:Nat):Prop:=∀ k:Nat,k < i→dq (gi l (k:Int))=0∧∀ j:Nat,j < k→(gi l (j:Int)).aI < (gi l (k:Int)).aI∧((gi l (j:Int)).ak=(gi l (k:Int)).ak→bl (gi l (j:Int)) (gi l (k:Int))=true)
theorem Bv {u:List (Int × Int)} {k t:Int} (h0:0≤ga u k) (h:ga u k≤1000000):ga (use u k) t=if t=k then ga u k+1 else ga u t:=by
 unfold use
 rw [wrp (by omega) (by omega)]
 unfold ga
 rw [fm]
 split <;> rfl
theorem zM {l:List ab} {u:List (Int × Int)} {i:Nat} (h:tn l u i) (hi:i < 5000):tn l (lk l u i) (i+1):=by
 have ex:∀ P:Nat→Prop,(∃ k:Nat,k < i+1∧P k)↔(∃ k:Nat,k < i∧P k)∨P i:=fun P=>by
  constructor
  ·rintro ⟨k,hk,hp⟩
   by_cases e:k=i
   ·subst e; exact .inr hp
   ·exact .inl ⟨k,by omega,hp⟩
  ·rintro (⟨k,hk,hp⟩ | hp)
   ·exact ⟨k,by omega,hp⟩
   ·exact ⟨i,by omega,hp⟩
 intro t
 obtain ⟨a,b,c⟩:=h t
 rw [ex,← c]
 have hs:=h (gi l (i:Int)).aI
 have h1:∀ t,ga (use u (gi l (i:Int)).aI) t=if t=(gi l (i:Int)).aI then ga u (gi l (i:Int)).aI+1 else ga u t:=fun t=>Bv hs.1 (by omega)
 unfold lk
 by_cases he:(gi l (i:Int)).End≥0
 ·rw [if_pos he]
  have S4:=h (gi l (i:Int)).End
  have hb:0≤ga (use u (gi l (i:Int)).aI) (gi l (i:Int)).End∧ga (use u (gi l (i:Int)).aI) (gi l (i:Int)).End≤2 * i+1:=by
   rw [h1]; split <;> omega
  rw [Bv hb.1 (by omega),h1,h1]
  by_cases e1:t=(gi l (i:Int)).End
  ·subst e1
   rw [if_pos rfl]
   split <;> (rename_i e2; refine ⟨by omega,by omega,fun _=>.inr (.inr ⟨he,rfl⟩),fun _=>by omega⟩)
  ·rw [if_neg e1]
   by_cases e2:t=(gi l (i:Int)).aI
   ·subst e2
    rw [if_pos rfl]
    exact ⟨by omega,by omega,fun _=>.inr (.inl rfl),fun _=>by omega⟩
   ·rw [if_neg e2]
    refine ⟨a,by omega,fun h=>.inl h,?_⟩
    rintro (h | h | h)
    ·exact h
    ·exact absurd h.symm e2
    ·exact absurd h.2.symm e1
 ·rw [if_neg he,h1]
  by_cases e2:t=(gi l (i:Int)).aI
  ·subst e2
   rw [if_pos rfl]
   exact ⟨by omega,by omega,fun _=>.inr (.inl rfl),fun _=>by omega⟩
  ·rw [if_neg e2]
   refine ⟨a,by omega,fun h=>.inl h,?_⟩
   rintro (h | h | h)
   ·exact h
   ·exact absurd h.symm e2
   ·exact absurd h.1 he
theorem Aj {l:List ab} {la:List (Int × ab)} {i:Nat} (h:tX l la i):tX l (dv la (gi l (i:Int)).ak (gi l (i:Int))) (i+1):=by
 intro p
 have hp:=h p
 rw [fm]
 by_cases e:p=(gi l (i:Int)).ak
 ·rw [if_pos e]
  exact ⟨i,by omega,e.symm,rfl,fun j h1 h2=>by omega⟩
 ·rw [if_neg e]
  cases hm:aF la p with
  | none =>
   rw [hm] at hp
   intro k hk
   by_cases e2:k=i
   ·subst e2; exact fun h=>e h.symm
   ·exact hp k (by omega)
  | some x =>
   rw [hm] at hp
   obtain ⟨k,h1,h2,h3,h4⟩:=hp
   refine ⟨k,by omega,h2,h3,fun j QG DD=>?_⟩
   by_cases e2:j=i
   ·subst e2; exact fun h=>e h.symm
   ·exact h4 j QG (by omega)
theorem fK {x:ab} (h:dq x=0):0≤x.aI∧(x.End=-1∨x.End > x.aI):=by
 unfold dq at h
 split at h
 ·cases h
 ·split at h
  ·cases h
  ·split at h
   ·cases h
   ·rename_i h1 _ h3
    refine ⟨by omega,?_⟩
    have h3:eG x=true:=by simpa using h3
    unfold eG at h3
    split at h3
    ·left; assumption
    ·right
     simp only [Bool.and_eq_true,decide_eq_true_eq] at h3
     exact h3.1.1.1
theorem mM {a b:ab}:kS a b=true↔a.aI=b.aI∨a.End=b.aI∨a.aI=b.End∨(a.End=b.End∧a.End≠-1):=by
 unfold kS
 simp only [Bool.or_eq_true,Bool.and_eq_true,beq_iff_eq,bne_iff_ne,or_assoc]
theorem z9 {l:List ab} {u:List (Int × Int)} {i:Nat} (hu:tn l u i) (hp:xl l i) (ha:dq (gi l (i:Int))=0):n9 l u i↔∃ k:Nat,k < i∧((gi l (k:Int)).aI≥(gi l (i:Int)).aI∨kS (gi l (k:Int)) (gi l (i:Int))=true):=by
 obtain ⟨f1,f2⟩:=fK ha
 unfold n9
 rw [(hu (gi l (i:Int)).aI).2.2,(hu (gi l (i:Int)).End).2.2]
 constructor
 ·rintro (⟨h0,h1⟩ | ⟨k,hk,h⟩ | ⟨he,k,hk,h⟩)
  ·refine ⟨i - 1,by omega,.inl ?_⟩
   rw [show ((i - 1:Nat):Int)=(i:Int) - 1 by omega]; exact h1
  ·refine ⟨k,hk,.inr (mM.2 ?_)⟩
   rcases h with h | h
   ·exact .inl h
   ·exact .inr (.inl h.2)
  ·refine ⟨k,hk,.inr (mM.2 ?_)⟩
   rcases h with h | h
   ·exact .inr (.inr (.inl h))
   ·exact .inr (.inr (.inr ⟨h.2,by omega⟩))
 ·rintro ⟨k,hk,h | h⟩
  ·left
   refine ⟨by omega,?_⟩
   by_cases e:k=i - 1
   ·subst e; rw [show ((i - 1:Nat):Int)=(i:Int) - 1 by omega] at h; exact h
   ·have:=((hp (i - 1) (by omega)).2 k (by omega)).1
    rw [show ((i - 1:Nat):Int)=(i:Int) - 1 by omega] at this
    omega
  ·obtain ⟨g1,g2⟩:=fK (hp k hk).1
   rcases mM.1 h with h | h | h | h
   ·exact .inr (.inl ⟨k,hk,.inl h⟩)
   ·exact .inr (.inl ⟨k,hk,.inr ⟨by omega,h⟩⟩)
   ·exact .inr (.inr ⟨by omega,k,hk,.inl h⟩)
   ·exact .inr (.inr ⟨by omega,k,hk,.inr ⟨by omega,h.1⟩⟩)
theorem wk {a b c:ab} (hb:dq b=0) (h1:bl a b=true) (h2:bl b c=true):bl a c=true:=by
 obtain ⟨f1,f2⟩:=fK hb
 unfold bl at *
 rw [Bool.and_eq_true,decide_eq_true_eq,decide_eq_true_eq] at *
 omega
theorem z8 {l:List ab} {la:List (Int × ab)} {i:Nat} (hl:tX l la i) (hp:xl l i):qR l la i=true↔∃ k:Nat,k < i∧(gi l (k:Int)).ak=(gi l (i:Int)).ak∧bl (gi l (k:Int)) (gi l (i:Int))=false:=by
 unfold qR
 have h:=hl (gi l (i:Int)).ak
 cases hm:aF la (gi l (i:Int)).ak with
 | none =>
  rw [hm] at h
  constructor
  ·intro h2; simp at h2
  ·rintro ⟨k,hk,h1,_⟩; exact absurd h1 (h k hk)
 | some x =>
  rw [hm] at h
  obtain ⟨k,h1,h2,h3,h4⟩:=h
  subst h3
  show (true && !bl (gi l (k:Int)) (gi l (i:Int)))=true↔_
  rw [Bool.true_and,Bool.not_eq_true']
  constructor
  ·intro h; exact ⟨k,h1,h2,h⟩
  ·rintro ⟨j,hj,e1,e2⟩
   have:j≤k:=by
    apply Classical.byContradiction
    intro hh
    exact h4 j (by omega) hj e1
   by_cases e:j=k
   ·subst e; exact e2
   ·have xJ:=((hp k h1).2 j (by omega)).2 (by rw [e1,h2])
    apply Classical.byContradiction
    intro hh
    rw [Bool.not_eq_false] at hh
    rw [wk (hp k h1).1 xJ hh] at e2
    cases e2
end Go.Proofs.YteahldlmkheleaaGreat
