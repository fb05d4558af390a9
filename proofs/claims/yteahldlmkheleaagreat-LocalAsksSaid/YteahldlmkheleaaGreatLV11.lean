/- Lemmas. -/
import Derived.Test.YteahldlmkheleaaGreatLV10
set_option linter.all false
namespace Go.Proofs.YteahldlmkheleaaGreat
open Go Go.Sv Go.Pu
def sU (l:List ab) (u:List (Int × Int)) (i:Nat):Prop:=∀ t,0≤fm u t∧fm u t≤2 * i∧(fm u t > 0↔∃ k:Nat,k < i∧((gi l (k:Int)).aE=t∨((gi l (k:Int)).End≥0∧(gi l (k:Int)).End=t)))
def tG (l:List ab) (la:List (Int × ab)) (i:Nat):Prop:=∀ p,match aF la p with
 | none=>∀ k:Nat,k < i→(gi l (k:Int)).aj≠p
 | some x=>∃ k:Nat,k < i∧(gi l (k:Int)).aj=p∧x=gi l (k:Int)∧∀ j:Nat,k < j→j < i→(gi l (j:Int)).aj≠p
def wQ (l:List ab) (i:Nat):Prop:=∀ k:Nat,k < i→cQ (gi l (k:Int))=0∧∀ j:Nat,j < k→(gi l (j:Int)).aE < (gi l (k:Int)).aE∧((gi l (j:Int)).aj=(gi l (k:Int)).aj→aZ (gi l (j:Int)) (gi l (k:Int))=true)
theorem Bf {u:List (Int × Int)} {k t:Int} (h0:0≤fm u k) (h:fm u k≤1000000):fm (use u k) t=if t=k then fm u k+1 else fm u t:=by
 unfold use
 rw [wrp (by omega) (by omega)]
 unfold fm
 rw [eX]
 split <;> rfl
theorem zu {l:List ab} {u:List (Int × Int)} {i:Nat} (h:sU l u i) (hi:i < 5000):sU l (k5 l u i) (i+1):=by
 have ex:∀ P:Nat→Prop,(∃ k:Nat,k < i+1∧P k)↔(∃ k:Nat,k < i∧P k)∨P i:=fun P=>by
  constructor
  ·rintro ⟨k,hk,hp⟩
   by_cases e:k=i
   ·subst e; exact .inr hp
   ·exact .inl ⟨k,by omega,hp⟩
  ·rintro (⟨k,hk,hp⟩ | hp)
   ·exact ⟨k,by omega,hp⟩
   ·exact ⟨i,by omega,hp⟩
 intro t
 obtain ⟨a,b,c⟩:=h t
 rw [ex,← c]
 have hs:=h (gi l (i:Int)).aE
 have h1:∀ t,fm (use u (gi l (i:Int)).aE) t=if t=(gi l (i:Int)).aE then fm u (gi l (i:Int)).aE+1 else fm u t:=fun t=>Bf hs.1 (by omega)
 unfold k5
 by_cases he:(gi l (i:Int)).End≥0
 ·rw [if_pos he]
  have Si:=h (gi l (i:Int)).End
  have hb:0≤fm (use u (gi l (i:Int)).aE) (gi l (i:Int)).End∧fm (use u (gi l (i:Int)).aE) (gi l (i:Int)).End≤2 * i+1:=by
   rw [h1]; split <;> omega
  rw [Bf hb.1 (by omega),h1,h1]
  by_cases e1:t=(gi l (i:Int)).End
  ·subst e1
   rw [if_pos rfl]
   split <;> (rename_i e2; refine ⟨by omega,by omega,fun _=>.inr (.inr ⟨he,rfl⟩),fun _=>by omega⟩)
  ·rw [if_neg e1]
   by_cases e2:t=(gi l (i:Int)).aE
   ·subst e2
    rw [if_pos rfl]
    exact ⟨by omega,by omega,fun _=>.inr (.inl rfl),fun _=>by omega⟩
   ·rw [if_neg e2]
    refine ⟨a,by omega,fun h=>.inl h,?_⟩
    rintro (h | h | h)
    ·exact h
    ·exact absurd h.symm e2
    ·exact absurd h.2.symm e1
 ·rw [if_neg he,h1]
  by_cases e2:t=(gi l (i:Int)).aE
  ·subst e2
   rw [if_pos rfl]
   exact ⟨by omega,by omega,fun _=>.inr (.inl rfl),fun _=>by omega⟩
  ·rw [if_neg e2]
   refine ⟨a,by omega,fun h=>.inl h,?_⟩
   rintro (h | h | h)
   ·exact h
   ·exact absurd h.symm e2
   ·exact absurd h.1 he
theorem z7 {l:List ab} {la:List (Int × ab)} {i:Nat} (h:tG l la i):tG l (dk la (gi l (i:Int)).aj (gi l (i:Int))) (i+1):=by
 intro p
 have hp:=h p
 rw [eX]
 by_cases e:p=(gi l (i:Int)).aj
 ·rw [if_pos e]
  exact ⟨i,by omega,e.symm,rfl,fun j h1 h2=>by omega⟩
 ·rw [if_neg e]
  cases hm:aF la p with
  | none =>
   rw [hm] at hp
   intro k hk
   by_cases e2:k=i
   ·subst e2; exact fun h=>e h.symm
   ·exact hp k (by omega)
  | some x =>
   rw [hm] at hp
   obtain ⟨k,h1,h2,h3,h4⟩:=hp
   refine ⟨k,by omega,h2,h3,fun j P8 Dq=>?_⟩
   by_cases e2:j=i
   ·subst e2; exact fun h=>e h.symm
   ·exact h4 j P8 (by omega)
theorem eU {x:ab} (h:cQ x=0):0≤x.aE∧(x.End=-1∨x.End > x.aE):=by
 unfold cQ at h
 split at h
 ·cases h
 ·split at h
  ·cases h
  ·split at h
   ·cases h
   ·rename_i h1 _ h3
    refine ⟨by omega,?_⟩
    have h3:dR x=true:=by simpa using h3
    unfold dR at h3
    split at h3
    ·left; assumption
    ·right
     simp only [Bool.and_eq_true,decide_eq_true_eq] at h3
     exact h3.1.1.1
theorem lr {a b:ab}:kJ a b=true↔a.aE=b.aE∨a.End=b.aE∨a.aE=b.End∨(a.End=b.End∧a.End≠-1):=by
 unfold kJ
 simp only [Bool.or_eq_true,Bool.and_eq_true,beq_iff_eq,bne_iff_ne,or_assoc]
theorem zO {l:List ab} {u:List (Int × Int)} {i:Nat} (hu:sU l u i) (hp:wQ l i) (ha:cQ (gi l (i:Int))=0):mS l u i↔∃ k:Nat,k < i∧((gi l (k:Int)).aE≥(gi l (i:Int)).aE∨kJ (gi l (k:Int)) (gi l (i:Int))=true):=by
 obtain ⟨f1,f2⟩:=eU ha
 unfold mS
 rw [(hu (gi l (i:Int)).aE).2.2,(hu (gi l (i:Int)).End).2.2]
 constructor
 ·rintro (⟨h0,h1⟩ | ⟨k,hk,h⟩ | ⟨he,k,hk,h⟩)
  ·refine ⟨i - 1,by omega,.inl ?_⟩
   rw [show ((i - 1:Nat):Int)=(i:Int) - 1 by omega]; exact h1
  ·refine ⟨k,hk,.inr (lr.2 ?_)⟩
   rcases h with h | h
   ·exact .inl h
   ·exact .inr (.inl h.2)
  ·refine ⟨k,hk,.inr (lr.2 ?_)⟩
   rcases h with h | h
   ·exact .inr (.inr (.inl h))
   ·exact .inr (.inr (.inr ⟨h.2,by omega⟩))
 ·rintro ⟨k,hk,h | h⟩
  ·left
   refine ⟨by omega,?_⟩
   by_cases e:k=i - 1
   ·subst e; rw [show ((i - 1:Nat):Int)=(i:Int) - 1 by omega] at h; exact h
   ·have:=((hp (i - 1) (by omega)).2 k (by omega)).1
    rw [show ((i - 1:Nat):Int)=(i:Int) - 1 by omega] at this
    omega
  ·obtain ⟨g1,g2⟩:=eU (hp k hk).1
   rcases lr.1 h with h | h | h | h
   ·exact .inr (.inl ⟨k,hk,.inl h⟩)
   ·exact .inr (.inl ⟨k,hk,.inr ⟨by omega,h⟩⟩)
   ·exact .inr (.inr ⟨by omega,k,hk,.inl h⟩)
   ·exact .inr (.inr ⟨by omega,k,hk,.inr ⟨by omega,h.1⟩⟩)
theorem vT {a b c:ab} (hb:cQ b=0) (h1:aZ a b=true) (h2:aZ b c=true):aZ a c=true:=by
 obtain ⟨f1,f2⟩:=eU hb
 unfold aZ at *
 rw [Bool.and_eq_true,decide_eq_true_eq,decide_eq_true_eq] at *
 omega
theorem zN {l:List ab} {la:List (Int × ab)} {i:Nat} (hl:tG l la i) (hp:wQ l i):pa l la i=true↔∃ k:Nat,k < i∧(gi l (k:Int)).aj=(gi l (i:Int)).aj∧aZ (gi l (k:Int)) (gi l (i:Int))=false:=by
 unfold pa
 have h:=hl (gi l (i:Int)).aj
 cases hm:aF la (gi l (i:Int)).aj with
 | none =>
  rw [hm] at h
  constructor
  ·intro h2; simp at h2
  ·rintro ⟨k,hk,h1,_⟩; exact absurd h1 (h k hk)
 | some x =>
  rw [hm] at h
  obtain ⟨k,h1,h2,h3,h4⟩:=h
  subst h3
  show (true && !aZ (gi l (k:Int)) (gi l (i:Int)))=true↔_
  rw [Bool.true_and,Bool.not_eq_true']
  constructor
  ·intro h; exact ⟨k,h1,h2,h⟩
  ·rintro ⟨j,hj,e1,e2⟩
   have:j≤k:=by
    apply Classical.byContradiction
    intro hh
    exact h4 j (by omega) hj e1
   by_cases e:j=k
   ·subst e; exact e2
   ·have xq:=((hp k h1).2 j (by omega)).2 (by rw [e1,h2])
    apply Classical.byContradiction
    intro hh
    rw [Bool.not_eq_false] at hh
    rw [vT (hp k h1).1 xq hh] at e2
    cases e2
end Go.Proofs.YteahldlmkheleaaGreat
