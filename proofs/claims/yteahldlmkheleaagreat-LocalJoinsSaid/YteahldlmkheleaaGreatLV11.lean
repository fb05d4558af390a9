/- The document's check of operations is the code's. -/
import Derived.Test.YteahldlmkheleaaGreatLV10
set_option linter.all false
namespace Go.Proofs.YteahldlmkheleaaGreat
open Go Go.Sv Go.Pu
def tx (l:List ab) (u:List (Int × Int)) (i:Nat):Prop:=∀ t,0≤fy u t∧fy u t≤2 * i∧(fy u t > 0↔∃ k:Nat,k < i∧((gi l (k:Int)).aG=t∨((gi l (k:Int)).End≥0∧(gi l (k:Int)).End=t)))
def uh (l:List ab) (la:List (Int × ab)) (i:Nat):Prop:=∀ p,match aF la p with
 | none=>∀ k:Nat,k < i→(gi l (k:Int)).ah≠p
 | some x=>∃ k:Nat,k < i∧(gi l (k:Int)).ah=p∧x=gi l (k:Int)∧∀ j:Nat,k < j→j < i→(gi l (j:Int)).ah≠p
def xI (l:List ab) (i:Nat):Prop:=∀ k:Nat,k < i→dk (gi l (k:Int))=0∧∀ j:Nat,j < k→(gi l (j:Int)).aG < (gi l (k:Int)).aG∧((gi l (j:Int)).ah=(gi l (k:Int)).ah→bf (gi l (j:Int)) (gi l (k:Int))=true)
theorem Bw {u:List (Int × Int)} {k t:Int} (h0:0≤fy u k) (h:fy u k≤1000000):fy (use u k) t=if t=k then fy u k+1 else fy u t:=by
 unfold use
 rw [wrp (by omega) (by omega)]
 unfold fy
 rw [fc]
 split <;> rfl
theorem z7 {l:List ab} {u:List (Int × Int)} {i:Nat} (h:tx l u i) (hi:i < 5000):tx l (lh l u i) (i+1):=by
 have ex:∀ P:Nat→Prop,(∃ k:Nat,k < i+1∧P k)↔(∃ k:Nat,k < i∧P k)∨P i:=fun P=>by
  constructor
  ·rintro ⟨k,hk,hp⟩
   by_cases e:k=i
   ·subst e; exact .inr hp
   ·exact .inl ⟨k,by omega,hp⟩
  ·rintro (⟨k,hk,hp⟩ | hp)
   ·exact ⟨k,by omega,hp⟩
   ·exact ⟨i,by omega,hp⟩
 intro t
 obtain ⟨a,b,c⟩:=h t
 rw [ex,← c]
 have hs:=h (gi l (i:Int)).aG
 have h1:∀ t,fy (use u (gi l (i:Int)).aG) t=if t=(gi l (i:Int)).aG then fy u (gi l (i:Int)).aG+1 else fy u t:=fun t=>Bw hs.1 (by omega)
 unfold lh
 by_cases he:(gi l (i:Int)).End≥0
 ·rw [if_pos he]
  have SA:=h (gi l (i:Int)).End
  have hb:0≤fy (use u (gi l (i:Int)).aG) (gi l (i:Int)).End∧fy (use u (gi l (i:Int)).aG) (gi l (i:Int)).End≤2 * i+1:=by
   rw [h1]; split <;> omega
  rw [Bw hb.1 (by omega),h1,h1]
  by_cases e1:t=(gi l (i:Int)).End
  ·subst e1
   rw [if_pos rfl]
   split <;> (rename_i e2; refine ⟨by omega,by omega,fun _=>.inr (.inr ⟨he,rfl⟩),fun _=>by omega⟩)
  ·rw [if_neg e1]
   by_cases e2:t=(gi l (i:Int)).aG
   ·subst e2
    rw [if_pos rfl]
    exact ⟨by omega,by omega,fun _=>.inr (.inl rfl),fun _=>by omega⟩
   ·rw [if_neg e2]
    refine ⟨a,by omega,fun h=>.inl h,?_⟩
    rintro (h | h | h)
    ·exact h
    ·exact absurd h.symm e2
    ·exact absurd h.2.symm e1
 ·rw [if_neg he,h1]
  by_cases e2:t=(gi l (i:Int)).aG
  ·subst e2
   rw [if_pos rfl]
   exact ⟨by omega,by omega,fun _=>.inr (.inl rfl),fun _=>by omega⟩
  ·rw [if_neg e2]
   refine ⟨a,by omega,fun h=>.inl h,?_⟩
   rintro (h | h | h)
   ·exact h
   ·exact absurd h.symm e2
   ·exact absurd h.1 he
theorem AD {l:List ab} {la:List (Int × ab)} {i:Nat} (h:uh l la i):uh l (dp la (gi l (i:Int)).ah (gi l (i:Int))) (i+1):=by
 intro p
 have hp:=h p
 rw [fc]
 by_cases e:p=(gi l (i:Int)).ah
 ·rw [if_pos e]
  exact ⟨i,by omega,e.symm,rfl,fun j h1 h2=>by omega⟩
 ·rw [if_neg e]
  cases hm:aF la p with
  | none =>
   rw [hm] at hp
   intro k hk
   by_cases e2:k=i
   ·subst e2; exact fun h=>e h.symm
   ·exact hp k (by omega)
  | some x =>
   rw [hm] at hp
   obtain ⟨k,h1,h2,h3,h4⟩:=hp
   refine ⟨k,by omega,h2,h3,fun j Qa Dw=>?_⟩
   by_cases e2:j=i
   ·subst e2; exact fun h=>e h.symm
   ·exact h4 j Qa (by omega)
theorem eI {x:ab} (h:dk x=0):0≤x.aG∧(x.End=-1∨x.End > x.aG):=by
 unfold dk at h
 split at h
 ·cases h
 ·split at h
  ·cases h
  ·split at h
   ·cases h
   ·rename_i h1 _ h3
    refine ⟨by omega,?_⟩
    have h3:eu x=true:=by simpa using h3
    unfold eu at h3
    split at h3
    ·left; assumption
    ·right
     simp only [Bool.and_eq_true,decide_eq_true_eq] at h3
     exact h3.1.1.1
theorem lu {a b:ab}:kR a b=true↔a.aG=b.aG∨a.End=b.aG∨a.aG=b.End∨(a.End=b.End∧a.End≠-1):=by
 unfold kR
 simp only [Bool.or_eq_true,Bool.and_eq_true,beq_iff_eq,bne_iff_ne,or_assoc]
theorem Ar {l:List ab} {u:List (Int × Int)} {i:Nat} (hu:tx l u i) (hp:xI l i) (ha:dk (gi l (i:Int))=0):om l u i↔∃ k:Nat,k < i∧((gi l (k:Int)).aG≥(gi l (i:Int)).aG∨kR (gi l (k:Int)) (gi l (i:Int))=true):=by
 obtain ⟨f1,f2⟩:=eI ha
 unfold om
 rw [(hu (gi l (i:Int)).aG).2.2,(hu (gi l (i:Int)).End).2.2]
 constructor
 ·rintro (⟨h0,h1⟩ | ⟨k,hk,h⟩ | ⟨he,k,hk,h⟩)
  ·refine ⟨i - 1,by omega,.inl ?_⟩
   rw [show ((i - 1:Nat):Int)=(i:Int) - 1 by omega]; exact h1
  ·refine ⟨k,hk,.inr (lu.2 ?_)⟩
   rcases h with h | h
   ·exact .inl h
   ·exact .inr (.inl h.2)
  ·refine ⟨k,hk,.inr (lu.2 ?_)⟩
   rcases h with h | h
   ·exact .inr (.inr (.inl h))
   ·exact .inr (.inr (.inr ⟨h.2,by omega⟩))
 ·rintro ⟨k,hk,h | h⟩
  ·left
   refine ⟨by omega,?_⟩
   by_cases e:k=i - 1
   ·subst e; rw [show ((i - 1:Nat):Int)=(i:Int) - 1 by omega] at h; exact h
   ·have:=((hp (i - 1) (by omega)).2 k (by omega)).1
    rw [show ((i - 1:Nat):Int)=(i:Int) - 1 by omega] at this
    omega
  ·obtain ⟨g1,g2⟩:=eI (hp k hk).1
   rcases lu.1 h with h | h | h | h
   ·exact .inr (.inl ⟨k,hk,.inl h⟩)
   ·exact .inr (.inl ⟨k,hk,.inr ⟨by omega,h⟩⟩)
   ·exact .inr (.inr ⟨by omega,k,hk,.inl h⟩)
   ·exact .inr (.inr ⟨by omega,k,hk,.inr ⟨by omega,h.1⟩⟩)
theorem wG {a b c:ab} (hb:dk b=0) (h1:bf a b=true) (h2:bf b c=true):bf a c=true:=by
 obtain ⟨f1,f2⟩:=eI hb
 unfold bf at *
 rw [Bool.and_eq_true,decide_eq_true_eq,decide_eq_true_eq] at *
 omega
theorem Aq {l:List ab} {la:List (Int × ab)} {i:Nat} (hl:uh l la i) (hp:xI l i):qP l la i=true↔∃ k:Nat,k < i∧(gi l (k:Int)).ah=(gi l (i:Int)).ah∧bf (gi l (k:Int)) (gi l (i:Int))=false:=by
 unfold qP
 have h:=hl (gi l (i:Int)).ah
 cases hm:aF la (gi l (i:Int)).ah with
 | none =>
  rw [hm] at h
  constructor
  ·intro h2; simp at h2
  ·rintro ⟨k,hk,h1,_⟩; exact absurd h1 (h k hk)
 | some x =>
  rw [hm] at h
  obtain ⟨k,h1,h2,h3,h4⟩:=h
  subst h3
  show (true && !bf (gi l (k:Int)) (gi l (i:Int)))=true↔_
  rw [Bool.true_and,Bool.not_eq_true']
  constructor
  ·intro h; exact ⟨k,h1,h2,h⟩
  ·rintro ⟨j,hj,e1,e2⟩
   have:j≤k:=by
    apply Classical.byContradiction
    intro hh
    exact h4 j (by omega) hj e1
   by_cases e:j=k
   ·subst e; exact e2
   ·have ya:=((hp k h1).2 j (by omega)).2 (by rw [e1,h2])
    apply Classical.byContradiction
    intro hh
    rw [Bool.not_eq_false] at hh
    rw [wG (hp k h1).1 ya hh] at e2
    cases e2
end Go.Proofs.YteahldlmkheleaaGreat
