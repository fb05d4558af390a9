/- Lemmas. -/
import Derived.Test.YteahldlmkheleaaGreatLV9
set_option linter.all false
namespace Go.Proofs.YteahldlmkheleaaGreat
open Go Go.Sv Go.Pu
theorem v84 (x:aw):VC84 x (fun r=>r=gp x):=by
 unfold VC84 gp evE
 have b1:((x.bo != 1) && (x.bo != 2))=true↔(x.bo≠1∧x.bo≠2):=by simp
 have b2:((decide (x.ak < 1)) || (decide (x.ak > 1000)))=true↔(x.ak < 1∨x.ak > 1000):=by simp
 have b3:((x.bo == 1) && ((decide (x.N < 0)) || (decide (x.N≥64))))=true↔(x.bo=1∧(x.N < 0∨x.N≥64)):=by simp
 have b4:((x.bo == 2) && ((decide (x.N < 0)) || (decide (x.N > 1000000))))=true↔(x.bo=2∧(x.N < 0∨x.N > 1000000)):=by simp
 have ng:∀ {b:Bool} {p:Prop},(b=true↔p)→b=false→¬ p:=fun h hb hp=>by rw [h.2 hp] at hb; cases hb
 refine ⟨fun h=>by rw [if_pos (b1.1 h)],fun h1=>⟨fun h=>by rw [if_neg (ng b1 h1),if_pos (b2.1 h)],fun h2=>⟨fun h=>by rw [if_neg (ng b1 h1),if_neg (ng b2 h2),if_pos (b3.1 h)],fun h3=>⟨fun h=>by rw [if_neg (ng b1 h1),if_neg (ng b2 h2),if_neg (ng b3 h3),if_pos (b4.1 h)],fun h4=>by rw [if_neg (ng b1 h1),if_neg (ng b2 h2),if_neg (ng b3 h3),if_neg (ng b4 h4)]⟩⟩⟩⟩
theorem gy (l:List aw) (x:aw) (p:Int):fJ (l++[x]) p=if x.ak=p then x.bo else fJ l p:=by simp [fJ]
theorem II (m:List (Int × Int)) (k q v:Int):aF (dv m k v) q=if k=q then some v else aF m q:=by
 induction m with
 | nil=>simp only [dv,aF]
 | cons e m ih =>
  obtain ⟨j,x⟩:=e
  simp only [dv]
  by_cases h:j=k
  ·subst h
   rw [if_pos rfl]
   simp only [aF]
   by_cases h2:j=q
   ·rw [if_pos h2,if_pos h2]
   ·rw [if_neg h2,if_neg h2,if_neg h2]
  ·rw [if_neg h]
   simp only [aF]
   by_cases h2:j=q
   ·rw [if_pos h2,if_pos h2,if_neg (by omega)]
   ·rw [if_neg h2,if_neg h2,ih]
def B6 (m:List (Int × Int)) (l:List aw):Prop:=∀ q,(aF m q).getD 0=fJ l q
theorem Ag {m:List (Int × Int)} {l:List aw} (h:B6 m l) (x:aw):B6 (dv m x.ak x.bo) (l++[x]):=by
 intro q
 rw [II,gy]
 by_cases hq:x.ak=q
 ·rw [if_pos hq,if_pos hq]; rfl
 ·rw [if_neg hq,if_neg hq]; exact h q
theorem mO (l:List aw) (f:Nat) (i:Int):nK l (f+1) i=if evE (gi l i)≠0 then (i,evE (gi l i)) else if (fJ (l.take i.toNat) (gi l i).ak == 1) == ((gi l i).bo == 1) then (i,33) else nK l f (i+1):=rfl
theorem v55 (l:List aw):VC55 l (fun r=>r=bV l):=by
 intro _
 unfold VC55_J1 bV
 refine ⟨fun h=>by have h:=of_decide_eq_true h; rw [if_pos (by omega)],fun h=>?_⟩
 have h:=of_decide_eq_false h
 rw [if_neg (by omega)]
 refine ⟨fun m i=>0≤i∧i≤l.length∧B6 m (l.take i.toNat)∧nK l (l.length - i.toNat) i=nK l l.length 0,fun _ i=>(l.length - i).toNat,⟨by omega,by omega,fun q=>by simp [aF,fJ],rfl⟩,?_⟩
 rintro m i ⟨h0,h1,h2,h3⟩
 refine ⟨fun hi=>?_,fun hi=>?_⟩
 ·have hi:=of_decide_eq_true hi
  rw [show l.length - i.toNat=(l.length - (i+1).toNat)+1 by omega,mO,← h2] at h3
  refine ⟨⟨h0,hi⟩,?_⟩
  rintro _ rfl
  refine ⟨fun he=>?_,fun he=>?_⟩
  ·have he:evE (gi l i)≠0:=by simpa [gp] using he
   rw [if_pos he] at h3
   exact h3
  ·have he:evE (gi l i)=0:=by simpa [gp] using he
   rw [if_neg (by simpa using he)] at h3
   refine ⟨fun ho=>?_,fun ho=>?_⟩
   ·rw [if_pos ho] at h3
    exact h3
   ·rw [if_neg (by rw [ho]; simp)] at h3
    rw [wrp (n:=i+1) (by omega) (by omega)]
    refine ⟨⟨by omega,by omega,?_,h3⟩,by first | omega | (dsimp only; omega)⟩
    rw [lG h0 hi]
    exact Ag h2 _
 ·have hi:=of_decide_eq_false hi
  rw [show l.length - i.toNat=0 by omega] at h3
  rw [← h3,show i=l.length by omega]; rfl
theorem v94 (l:List aw) (p:Int):VC94 l p (fun r=>r=iv l p):=by
 intro An
 simp only [sm] at An
 unfold VC94_J1 VC94_J2 iv
 refine ⟨fun a i=>0≤i∧i≤l.length∧a=iA l p i.toNat,fun _ i=>(l.length - i).toNat,⟨by omega,by omega,rfl⟩,?_⟩
 rintro a i ⟨h0,h1,h2⟩
 refine ⟨fun hi=>?_,fun hi=>?_⟩
 ·have hi:=of_decide_eq_true hi
  have hs:iA l p (i+1).toNat=if (gi l i).ak=p then i else iA l p i.toNat:=by
   rw [show (i+1).toNat=i.toNat+1 by omega]
   show (if (gi l ((i.toNat:Nat):Int)).ak=p then ((i.toNat:Nat):Int) else _)=_
   rw [show ((i.toNat:Nat):Int)=i by omega]
  rw [wrp (n:=i+1) (by omega) (by omega)]
  refine ⟨⟨h0,hi⟩,fun hw=>⟨⟨by omega,by omega,?_⟩,by first | omega | (dsimp only; omega)⟩,fun hw=>⟨⟨by omega,by omega,?_⟩,by first | omega | (dsimp only; omega)⟩⟩
  ·have hw:(gi l i).ak=p:=by simpa using hw
   rw [hs,if_pos hw]
  ·have hw:(gi l i).ak≠p:=by simpa using hw
   rw [hs,if_neg hw,h2]
 ·have hi:=of_decide_eq_false hi
  rw [h2,show i.toNat=l.length by omega]
theorem pG (l:List aw) (p:Int):∀ n:Nat,n≤l.length→(iA l p n=-1∧fJ (l.take n) p=0)∨(0≤iA l p n∧iA l p n < n∧(gi l (iA l p n)).ak=p∧fJ (l.take n) p=(gi l (iA l p n)).bo)
 | 0,_=>.inl ⟨rfl,rfl⟩
 | n+1,h=>by
  have ht:l.take (n+1)=l.take n++[gi l (n:Int)]:=by
   have:=lG (l:=l) (i:=(n:Int)) (by omega) (by omega)
   simpa [show ((n:Int)+1).toNat=n+1 by omega] using this
  rw [ht,gy]
  show ((if (gi l (n:Int)).ak=p then (n:Int) else iA l p n)=-1∧_)∨(0≤(if (gi l (n:Int)).ak=p then (n:Int) else iA l p n)∧(if (gi l (n:Int)).ak=p then (n:Int) else iA l p n) < _∧(gi l (if (gi l (n:Int)).ak=p then (n:Int) else iA l p n)).ak=p∧_=(gi l (if (gi l (n:Int)).ak=p then (n:Int) else iA l p n)).bo)
  by_cases hp:(gi l (n:Int)).ak=p
  ·rw [if_pos hp,if_pos hp]
   exact .inr ⟨by omega,by omega,hp,rfl⟩
  ·rw [if_neg hp,if_neg hp]
   rcases pG l p n (by omega) with ⟨h1,h2⟩ | ⟨h1,h2,h3,h4⟩
   ·exact .inl ⟨h1,h2⟩
   ·exact .inr ⟨h1,by omega,h3,h4⟩
theorem v79 (l:List aw) (p:Int):VC79 l p (fun r=>r=fq l p):=by
 intro _
 rintro _ rfl
 have:=pG l p l.length (Nat.le_refl _)
 rw [List.take_length] at this
 unfold fq iv
 refine ⟨fun h=>?_,fun h=>?_⟩
 ·have h:=of_decide_eq_true h
  rcases this with ⟨h1,_⟩ | ⟨h1,h2,h3,h4⟩
  ·omega
  ·exact ⟨⟨h1,by omega⟩,by rw [h4]⟩
 ·have h:=of_decide_eq_false h
  rcases this with ⟨h1,h2⟩ | ⟨h1,_⟩
  ·rw [h2]; rfl
  ·omega
theorem v50 (l:List aw):VC50 l (fun r=>r=e6 l):=by
 intro _
 unfold VC50_J1 VC50_J2 e6 bV
 refine ⟨fun h=>by have h:=of_decide_eq_true h; rw [if_pos (by omega)],fun h=>?_⟩
 have h:=of_decide_eq_false h
 rw [if_neg (by omega)]
 refine ⟨fun i=>0≤i∧i≤l.length∧nK l (l.length - i.toNat) i=nK l l.length 0,fun i=>(l.length - i).toNat,⟨by omega,by omega,rfl⟩,?_⟩
 rintro i ⟨h0,h1,h3⟩
 refine ⟨fun hi=>?_,fun hi=>?_⟩
 ·have hi:=of_decide_eq_true hi
  rw [show l.length - i.toNat=(l.length - (i+1).toNat)+1 by omega,mO] at h3
  rw [wrp (n:=i+1) (by omega) (by omega)]
  have bad:∀ e:Int,evE (gi l i)=e→e≠0→(i,e)=nK l l.length 0:=by
   intro e he hne
   rw [if_pos (by rw [he]; exact hne),he] at h3
   exact h3
  have fin:evE (gi l i)=0→∀ x:Bool,x=((fJ (l.take i.toNat) (gi l i).ak == 1) == ((gi l i).bo == 1))→(x=true→(i,(33:Int))=nK l l.length 0)∧(x=false→(0≤i+1∧i+1≤l.length∧nK l (l.length - (i+1).toNat) (i+1)=nK l l.length 0)∧(l.length - (i+1)).toNat < (l.length - i).toNat):=by
   intro he x hx
   rw [if_neg (by simpa using he),← hx] at h3
   refine ⟨fun h=>?_,fun h=>?_⟩
   ·rw [if_pos h] at h3; exact h3
   ·rw [if_neg (by rw [h]; simp)] at h3; exact ⟨⟨by omega,by omega,h3⟩,by omega⟩
  generalize gi l i=y at *
  unfold evE at bad fin
  refine ⟨⟨h0,hi⟩,fun g1=>?_,fun g1=>⟨fun g2=>?_,fun g2=>⟨fun g3=>?_,fun g3=>⟨fun g4=>?_,fun g4=>?_⟩⟩⟩⟩
  ·have g1:y.bo≠1∧y.bo≠2:=by simpa using g1
   exact bad 8 (by rw [if_pos g1]) (by decide)
  ·have g1:¬ (y.bo≠1∧y.bo≠2):=by simp at g1 ⊢; exact g1
   have g2:y.ak < 1∨y.ak > 1000:=by simpa using g2
   exact bad 2 (by rw [if_neg g1,if_pos g2]) (by decide)
  ·have g1:¬ (y.bo≠1∧y.bo≠2):=by simp at g1 ⊢; exact g1
   have g2:¬ (y.ak < 1∨y.ak > 1000):=by simp at g2 ⊢; exact g2
   have g3:y.bo=1∧(y.N < 0∨y.N > 63):=by simpa using g3
   exact bad 31 (by rw [if_neg g1,if_neg g2,if_pos ⟨g3.1,by omega⟩]) (by decide)
  ·have g1:¬ (y.bo≠1∧y.bo≠2):=by simp at g1 ⊢; exact g1
   have g2:¬ (y.ak < 1∨y.ak > 1000):=by simp at g2 ⊢; exact g2
   have g3:¬ (y.bo=1∧(y.N < 0∨y.N≥64)):=by simp at g3 ⊢; intro a; have:=g3 a; omega
   have g4:y.bo=2∧(y.N < 0∨y.N > 1000000):=by simpa using g4
   exact bad 7 (by rw [if_neg g1,if_neg g2,if_neg g3,if_pos g4]) (by decide)
  ·have g1:¬ (y.bo≠1∧y.bo≠2):=by simp at g1 ⊢; exact g1
   have g2:¬ (y.ak < 1∨y.ak > 1000):=by simp at g2 ⊢; exact g2
   have g3:¬ (y.bo=1∧(y.N < 0∨y.N≥64)):=by simp at g3 ⊢; intro a; have:=g3 a; omega
   have g4:¬ (y.bo=2∧(y.N < 0∨y.N > 1000000)):=by simp at g4 ⊢; exact g4
   have hz:=fin (by rw [if_neg g1,if_neg g2,if_neg g3,if_neg g4])
   unfold fq
   have Am:(0:Int)≤i∧i≤l.length:=⟨h0,h1⟩
   by_cases hw:y.bo=1
   ·have e1:(y.bo == 1)=true:=by simpa using hw
    have e2:(y.bo == 2)=false:=by simp; omega
    rw [e1] at hz ⊢
    rw [e2]
    refine ⟨fun _=>⟨Am,?_⟩,fun h=>absurd h (by simp)⟩
    rintro _ rfl
    refine ⟨fun ho=>hz true (by rw [ho]; rfl),fun ho=>⟨fun h=>absurd h (by simp),fun _=>hz false (by rw [ho]; rfl)⟩⟩
   ·have G7:y.bo=2:=by omega
    have e1:(y.bo == 1)=false:=by simpa using hw
    have e2:(y.bo == 2)=true:=by simpa using G7
    rw [e1] at hz ⊢
    rw [e2]
    refine ⟨fun h=>absurd h (by simp),fun _=>⟨fun _=>⟨Am,?_⟩,fun h=>absurd h (by simp)⟩⟩
    rintro _ rfl
    exact hz _ (by cases (fJ (l.take i.toNat) y.ak == 1) <;> rfl)
 ·have hi:=of_decide_eq_false hi
  rw [show l.length - i.toNat=0 by omega] at h3
  rw [← h3,show i=l.length by omega]; rfl
theorem Gq (x y:bb):(!((x.State) == (y.State) && ((x.Kind) == (y.Kind) && ((x.Next) == (y.Next) && ((x.Result) == (y.Result) && true)))))=!decide (x=y):=by
 cases x; cases y
 congr 1
 rw [Bool.eq_iff_iff]
 simp
theorem v57 (a b:List bb):VC57 a b (fun r=>r=eE a b):=by
 unfold VC57
 intro ha hb
 simp only [sm] at ha hb
 have no:a≠b→false=eE a b:=fun h=>by simp [eE,h]
 refine ⟨fun h=>no (by rintro rfl; simp at h),fun h=>?_⟩
 have hl:a.length=b.length:=by simp at h; omega
 unfold VC57_J1
 refine ⟨fun i=>0≤i∧i≤a.length∧∀ j:Int,0≤j→j < i→gi a j=gi b j,fun i=>(a.length - i).toNat,⟨by omega,by omega,fun j h0 h1=>by omega⟩,?_⟩
 rintro i ⟨h0,h1,h2⟩
 refine ⟨fun hi=>?_,fun hi=>?_⟩
 ·have hi:=of_decide_eq_true hi
  refine ⟨⟨h0,hi⟩,⟨h0,by omega⟩,?_⟩
  rw [Gq,wrp (n:=i+1) (by omega) (by omega)]
  refine ⟨fun hne=>no (by rintro rfl; simp at hne),fun he=>⟨⟨by omega,by omega,fun j j0 j1=>?_⟩,by first | omega | (dsimp only; omega)⟩⟩
  by_cases hj:j < i
  ·exact h2 j j0 hj
  ·rw [show j=i by omega]; simpa using he
 ·have hi:=of_decide_eq_false hi
  have:a=b:=CC hl (fun j j0 j1=>h2 j j0 (by omega))
  simp [eE,this]
theorem Gz (a b:aj):decide (a=b)=(((a.au == b.au) && (a.az == b.az)) && (a.aH == b.aH) && decide (a.Rows=b.Rows)):=by
 cases a; cases b
 rw [Bool.eq_iff_iff]
 simp [and_assoc]
theorem v26 (a b:aj):VC26 a b (fun r=>r=jf a b):=by
 intro _ _
 simp only [forall_eq']
 unfold jf eE
 rw [Gz]
 exact ⟨fun h=>by rw [h,Bool.true_and],fun h=>by rw [h,Bool.false_and]⟩
theorem zr (l:List aw):∀ (f:Nat) (i:Int),(nK l f i).2=0→∀ j:Int,i≤j→j < i+f→evE (gi l j)=0∧((fJ (l.take j.toNat) (gi l j).ak == 1) == ((gi l j).bo == 1))=false
 | 0,i,_,j,h0,h1=>by omega
 | f+1,i,h,j,h0,h1=>by
  rw [mO] at h
  by_cases h2:evE (gi l i)≠0
  ·rw [if_pos h2] at h; exact absurd h h2
  rw [if_neg h2] at h
  by_cases h3:((fJ (l.take i.toNat) (gi l i).ak == 1) == ((gi l i).bo == 1))=true
  ·rw [if_pos h3] at h; exact absurd h (by simp)
  rw [if_neg h3] at h
  by_cases hj:j=i
  ·subst hj
   exact ⟨by omega,by simpa using h3⟩
  ·exact zr l f (i+1) h j (by omega) (by omega)
theorem uj {l:List aw} (h:(bV l).2=0):l.length≤10000∧∀ j:Int,0≤j→j < l.length→evE (gi l j)=0∧((fJ (l.take j.toNat) (gi l j).ak == 1) == ((gi l j).bo == 1))=false:=by
 unfold bV at h
 by_cases hl:l.length > 10000
 ·rw [if_pos hl] at h; exact absurd h (by decide)
 rw [if_neg hl] at h
 exact ⟨by omega,fun j h0 h1=>zr l l.length 0 h j h0 (by omega)⟩
theorem CH {x:aw} (h:evE x=0):(x.bo=1∨x.bo=2)∧1≤x.ak∧x.ak≤1000∧0≤x.N∧x.N≤1000000:=by
 unfold evE at h
 split at h
 ·exact absurd h (by decide)
 rename_i h1
 split at h
 ·exact absurd h (by decide)
 rename_i h2
 split at h
 ·exact absurd h (by decide)
 rename_i h3
 split at h
 ·exact absurd h (by decide)
 rename_i h4
 omega
end Go.Proofs.YteahldlmkheleaaGreat
