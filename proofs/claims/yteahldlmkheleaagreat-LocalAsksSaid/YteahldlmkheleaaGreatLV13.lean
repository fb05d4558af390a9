/- Lemmas. -/
import Derived.Test.YteahldlmkheleaaGreatLV9
set_option linter.all false
namespace Go.Proofs.YteahldlmkheleaaGreat
open Go Go.Sv Go.Pu
theorem v84 (x:au):VC84 x (fun r=>r=gh x):=by
 unfold VC84 gh evE
 have b1:((x.bh != 1) && (x.bh != 2))=true↔(x.bh≠1∧x.bh≠2):=by simp
 have b2:((decide (x.aj < 1)) || (decide (x.aj > 1000)))=true↔(x.aj < 1∨x.aj > 1000):=by simp
 have b3:((x.bh == 1) && ((decide (x.N < 0)) || (decide (x.N≥64))))=true↔(x.bh=1∧(x.N < 0∨x.N≥64)):=by simp
 have b4:((x.bh == 2) && ((decide (x.N < 0)) || (decide (x.N > 1000000))))=true↔(x.bh=2∧(x.N < 0∨x.N > 1000000)):=by simp
 have ng:∀ {b:Bool} {p:Prop},(b=true↔p)→b=false→¬ p:=fun h hb hp=>by rw [h.2 hp] at hb; cases hb
 refine ⟨fun h=>by rw [if_pos (b1.1 h)],fun h1=>⟨fun h=>by rw [if_neg (ng b1 h1),if_pos (b2.1 h)],fun h2=>⟨fun h=>by rw [if_neg (ng b1 h1),if_neg (ng b2 h2),if_pos (b3.1 h)],fun h3=>⟨fun h=>by rw [if_neg (ng b1 h1),if_neg (ng b2 h2),if_neg (ng b3 h3),if_pos (b4.1 h)],fun h4=>by rw [if_neg (ng b1 h1),if_neg (ng b2 h2),if_neg (ng b3 h3),if_neg (ng b4 h4)]⟩⟩⟩⟩
theorem e8 (l:List au) (x:au) (p:Int):eA (l++[x]) p=if x.aj=p then x.bh else eA l p:=by simp [eA]
theorem Iu (m:List (Int × Int)) (k q v:Int):aF (dk m k v) q=if k=q then some v else aF m q:=by
 induction m with
 | nil=>simp only [dk,aF]
 | cons e m ih =>
  obtain ⟨j,x⟩:=e
  simp only [dk]
  by_cases h:j=k
  ·subst h
   rw [if_pos rfl]
   simp only [aF]
   by_cases h2:j=q
   ·rw [if_pos h2,if_pos h2]
   ·rw [if_neg h2,if_neg h2,if_neg h2]
  ·rw [if_neg h]
   simp only [aF]
   by_cases h2:j=q
   ·rw [if_pos h2,if_pos h2,if_neg (by omega)]
   ·rw [if_neg h2,if_neg h2,ih]
def BW (m:List (Int × Int)) (l:List au):Prop:=∀ q,(aF m q).getD 0=eA l q
theorem z3 {m:List (Int × Int)} {l:List au} (h:BW m l) (x:au):BW (dk m x.aj x.bh) (l++[x]):=by
 intro q
 rw [Iu,e8]
 by_cases hq:x.aj=q
 ·rw [if_pos hq,if_pos hq]; rfl
 ·rw [if_neg hq,if_neg hq]; exact h q
theorem ly (l:List au) (f:Nat) (i:Int):mH l (f+1) i=if evE (gi l i)≠0 then (i,evE (gi l i)) else if (eA (l.take i.toNat) (gi l i).aj == 1) == ((gi l i).bh == 1) then (i,33) else mH l f (i+1):=rfl
theorem v55 (l:List au):VC55 l (fun r=>r=bA l):=by
 intro _
 unfold VC55_J1 bA
 refine ⟨fun h=>by have h:=of_decide_eq_true h; rw [if_pos (by omega)],fun h=>?_⟩
 have h:=of_decide_eq_false h
 rw [if_neg (by omega)]
 refine ⟨fun m i=>0≤i∧i≤l.length∧BW m (l.take i.toNat)∧mH l (l.length - i.toNat) i=mH l l.length 0,fun _ i=>(l.length - i).toNat,⟨by omega,by omega,fun q=>by simp [aF,eA],rfl⟩,?_⟩
 rintro m i ⟨h0,h1,h2,h3⟩
 refine ⟨fun hi=>?_,fun hi=>?_⟩
 ·have hi:=of_decide_eq_true hi
  rw [show l.length - i.toNat=(l.length - (i+1).toNat)+1 by omega,ly,← h2] at h3
  refine ⟨⟨h0,hi⟩,?_⟩
  rintro _ rfl
  refine ⟨fun he=>?_,fun he=>?_⟩
  ·have he:evE (gi l i)≠0:=by simpa [gh] using he
   rw [if_pos he] at h3
   exact h3
  ·have he:evE (gi l i)=0:=by simpa [gh] using he
   rw [if_neg (by simpa using he)] at h3
   refine ⟨fun ho=>?_,fun ho=>?_⟩
   ·rw [if_pos ho] at h3
    exact h3
   ·rw [if_neg (by rw [ho]; simp)] at h3
    rw [wrp (n:=i+1) (by omega) (by omega)]
    refine ⟨⟨by omega,by omega,?_,h3⟩,by first | omega | (dsimp only; omega)⟩
    rw [kE h0 hi]
    exact z3 h2 _
 ·have hi:=of_decide_eq_false hi
  rw [show l.length - i.toNat=0 by omega] at h3
  rw [← h3,show i=l.length by omega]; rfl
theorem v94 (l:List au) (p:Int):VC94 l p (fun r=>r=hU l p):=by
 intro Aa
 simp only [sm] at Aa
 unfold VC94_J1 VC94_J2 hU
 refine ⟨fun a i=>0≤i∧i≤l.length∧a=hZ l p i.toNat,fun _ i=>(l.length - i).toNat,⟨by omega,by omega,rfl⟩,?_⟩
 rintro a i ⟨h0,h1,h2⟩
 refine ⟨fun hi=>?_,fun hi=>?_⟩
 ·have hi:=of_decide_eq_true hi
  have hs:hZ l p (i+1).toNat=if (gi l i).aj=p then i else hZ l p i.toNat:=by
   rw [show (i+1).toNat=i.toNat+1 by omega]
   show (if (gi l ((i.toNat:Nat):Int)).aj=p then ((i.toNat:Nat):Int) else _)=_
   rw [show ((i.toNat:Nat):Int)=i by omega]
  rw [wrp (n:=i+1) (by omega) (by omega)]
  refine ⟨⟨h0,hi⟩,fun hw=>⟨⟨by omega,by omega,?_⟩,by first | omega | (dsimp only; omega)⟩,fun hw=>⟨⟨by omega,by omega,?_⟩,by first | omega | (dsimp only; omega)⟩⟩
  ·have hw:(gi l i).aj=p:=by simpa using hw
   rw [hs,if_pos hw]
  ·have hw:(gi l i).aj≠p:=by simpa using hw
   rw [hs,if_neg hw,h2]
 ·have hi:=of_decide_eq_false hi
  rw [h2,show i.toNat=l.length by omega]
theorem pd (l:List au) (p:Int):∀ n:Nat,n≤l.length→(hZ l p n=-1∧eA (l.take n) p=0)∨(0≤hZ l p n∧hZ l p n < n∧(gi l (hZ l p n)).aj=p∧eA (l.take n) p=(gi l (hZ l p n)).bh)
 | 0,_=>.inl ⟨rfl,rfl⟩
 | n+1,h=>by
  have ht:l.take (n+1)=l.take n++[gi l (n:Int)]:=by
   have:=kE (l:=l) (i:=(n:Int)) (by omega) (by omega)
   simpa [show ((n:Int)+1).toNat=n+1 by omega] using this
  rw [ht,e8]
  show ((if (gi l (n:Int)).aj=p then (n:Int) else hZ l p n)=-1∧_)∨(0≤(if (gi l (n:Int)).aj=p then (n:Int) else hZ l p n)∧(if (gi l (n:Int)).aj=p then (n:Int) else hZ l p n) < _∧(gi l (if (gi l (n:Int)).aj=p then (n:Int) else hZ l p n)).aj=p∧_=(gi l (if (gi l (n:Int)).aj=p then (n:Int) else hZ l p n)).bh)
  by_cases hp:(gi l (n:Int)).aj=p
  ·rw [if_pos hp,if_pos hp]
   exact .inr ⟨by omega,by omega,hp,rfl⟩
  ·rw [if_neg hp,if_neg hp]
   rcases pd l p n (by omega) with ⟨h1,h2⟩ | ⟨h1,h2,h3,h4⟩
   ·exact .inl ⟨h1,h2⟩
   ·exact .inr ⟨h1,by omega,h3,h4⟩
theorem v79 (l:List au) (p:Int):VC79 l p (fun r=>r=fo l p):=by
 intro _
 rintro _ rfl
 have:=pd l p l.length (Nat.le_refl _)
 rw [List.take_length] at this
 unfold fo hU
 refine ⟨fun h=>?_,fun h=>?_⟩
 ·have h:=of_decide_eq_true h
  rcases this with ⟨h1,_⟩ | ⟨h1,h2,h3,h4⟩
  ·omega
  ·exact ⟨⟨h1,by omega⟩,by rw [h4]⟩
 ·have h:=of_decide_eq_false h
  rcases this with ⟨h1,h2⟩ | ⟨h1,_⟩
  ·rw [h2]; rfl
  ·omega
theorem v50 (l:List au):VC50 l (fun r=>r=eR l):=by
 intro _
 unfold VC50_J1 VC50_J2 eR bA
 refine ⟨fun h=>by have h:=of_decide_eq_true h; rw [if_pos (by omega)],fun h=>?_⟩
 have h:=of_decide_eq_false h
 rw [if_neg (by omega)]
 refine ⟨fun i=>0≤i∧i≤l.length∧mH l (l.length - i.toNat) i=mH l l.length 0,fun i=>(l.length - i).toNat,⟨by omega,by omega,rfl⟩,?_⟩
 rintro i ⟨h0,h1,h3⟩
 refine ⟨fun hi=>?_,fun hi=>?_⟩
 ·have hi:=of_decide_eq_true hi
  rw [show l.length - i.toNat=(l.length - (i+1).toNat)+1 by omega,ly] at h3
  rw [wrp (n:=i+1) (by omega) (by omega)]
  have bad:∀ e:Int,evE (gi l i)=e→e≠0→(i,e)=mH l l.length 0:=by
   intro e he hne
   rw [if_pos (by rw [he]; exact hne),he] at h3
   exact h3
  have fin:evE (gi l i)=0→∀ x:Bool,x=((eA (l.take i.toNat) (gi l i).aj == 1) == ((gi l i).bh == 1))→(x=true→(i,(33:Int))=mH l l.length 0)∧(x=false→(0≤i+1∧i+1≤l.length∧mH l (l.length - (i+1).toNat) (i+1)=mH l l.length 0)∧(l.length - (i+1)).toNat < (l.length - i).toNat):=by
   intro he x hx
   rw [if_neg (by simpa using he),← hx] at h3
   refine ⟨fun h=>?_,fun h=>?_⟩
   ·rw [if_pos h] at h3; exact h3
   ·rw [if_neg (by rw [h]; simp)] at h3; exact ⟨⟨by omega,by omega,h3⟩,by omega⟩
  generalize gi l i=y at *
  unfold evE at bad fin
  refine ⟨⟨h0,hi⟩,fun g1=>?_,fun g1=>⟨fun g2=>?_,fun g2=>⟨fun g3=>?_,fun g3=>⟨fun g4=>?_,fun g4=>?_⟩⟩⟩⟩
  ·have g1:y.bh≠1∧y.bh≠2:=by simpa using g1
   exact bad 8 (by rw [if_pos g1]) (by decide)
  ·have g1:¬ (y.bh≠1∧y.bh≠2):=by simp at g1 ⊢; exact g1
   have g2:y.aj < 1∨y.aj > 1000:=by simpa using g2
   exact bad 2 (by rw [if_neg g1,if_pos g2]) (by decide)
  ·have g1:¬ (y.bh≠1∧y.bh≠2):=by simp at g1 ⊢; exact g1
   have g2:¬ (y.aj < 1∨y.aj > 1000):=by simp at g2 ⊢; exact g2
   have g3:y.bh=1∧(y.N < 0∨y.N > 63):=by simpa using g3
   exact bad 31 (by rw [if_neg g1,if_neg g2,if_pos ⟨g3.1,by omega⟩]) (by decide)
  ·have g1:¬ (y.bh≠1∧y.bh≠2):=by simp at g1 ⊢; exact g1
   have g2:¬ (y.aj < 1∨y.aj > 1000):=by simp at g2 ⊢; exact g2
   have g3:¬ (y.bh=1∧(y.N < 0∨y.N≥64)):=by simp at g3 ⊢; intro a; have:=g3 a; omega
   have g4:y.bh=2∧(y.N < 0∨y.N > 1000000):=by simpa using g4
   exact bad 7 (by rw [if_neg g1,if_neg g2,if_neg g3,if_pos g4]) (by decide)
  ·have g1:¬ (y.bh≠1∧y.bh≠2):=by simp at g1 ⊢; exact g1
   have g2:¬ (y.aj < 1∨y.aj > 1000):=by simp at g2 ⊢; exact g2
   have g3:¬ (y.bh=1∧(y.N < 0∨y.N≥64)):=by simp at g3 ⊢; intro a; have:=g3 a; omega
   have g4:¬ (y.bh=2∧(y.N < 0∨y.N > 1000000)):=by simp at g4 ⊢; exact g4
   have hz:=fin (by rw [if_neg g1,if_neg g2,if_neg g3,if_neg g4])
   unfold fo
   have oQ:(0:Int)≤i∧i≤l.length:=⟨h0,h1⟩
   by_cases hw:y.bh=1
   ·have e1:(y.bh == 1)=true:=by simpa using hw
    have e2:(y.bh == 2)=false:=by simp; omega
    rw [e1] at hz ⊢
    rw [e2]
    refine ⟨fun _=>⟨oQ,?_⟩,fun h=>absurd h (by simp)⟩
    rintro _ rfl
    refine ⟨fun ho=>hz true (by rw [ho]; rfl),fun ho=>⟨fun h=>absurd h (by simp),fun _=>hz false (by rw [ho]; rfl)⟩⟩
   ·have Eh:y.bh=2:=by omega
    have e1:(y.bh == 1)=false:=by simpa using hw
    have e2:(y.bh == 2)=true:=by simpa using Eh
    rw [e1] at hz ⊢
    rw [e2]
    refine ⟨fun h=>absurd h (by simp),fun _=>⟨fun _=>⟨oQ,?_⟩,fun h=>absurd h (by simp)⟩⟩
    rintro _ rfl
    exact hz _ (by cases (eA (l.take i.toNat) y.aj == 1) <;> rfl)
 ·have hi:=of_decide_eq_false hi
  rw [show l.length - i.toNat=0 by omega] at h3
  rw [← h3,show i=l.length by omega]; rfl
theorem Gf (x y:ba):(!((x.State) == (y.State) && ((x.Kind) == (y.Kind) && ((x.Next) == (y.Next) && ((x.Result) == (y.Result) && true)))))=!decide (x=y):=by
 cases x; cases y
 congr 1
 rw [Bool.eq_iff_iff]
 simp
theorem v57 (a b:List ba):VC57 a b (fun r=>r=ew a b):=by
 unfold VC57
 intro ha hb
 simp only [sm] at ha hb
 have no:a≠b→false=ew a b:=fun h=>by simp [ew,h]
 refine ⟨fun h=>no (by rintro rfl; simp at h),fun h=>?_⟩
 have hl:a.length=b.length:=by simp at h; omega
 unfold VC57_J1
 refine ⟨fun i=>0≤i∧i≤a.length∧∀ j:Int,0≤j→j < i→gi a j=gi b j,fun i=>(a.length - i).toNat,⟨by omega,by omega,fun j h0 h1=>by omega⟩,?_⟩
 rintro i ⟨h0,h1,h2⟩
 refine ⟨fun hi=>?_,fun hi=>?_⟩
 ·have hi:=of_decide_eq_true hi
  refine ⟨⟨h0,hi⟩,⟨h0,by omega⟩,?_⟩
  rw [Gf,wrp (n:=i+1) (by omega) (by omega)]
  refine ⟨fun hne=>no (by rintro rfl; simp at hne),fun he=>⟨⟨by omega,by omega,fun j j0 j1=>?_⟩,by first | omega | (dsimp only; omega)⟩⟩
  by_cases hj:j < i
  ·exact h2 j j0 hj
  ·rw [show j=i by omega]; simpa using he
 ·have hi:=of_decide_eq_false hi
  have:a=b:=Cx hl (fun j j0 j1=>h2 j j0 (by omega))
  simp [ew,this]
theorem Gp (a b:ae):decide (a=b)=(((a.ar == b.ar) && (a.aw == b.aw)) && (a.aC == b.aC) && decide (a.Rows=b.Rows)):=by
 cases a; cases b
 rw [Bool.eq_iff_iff]
 simp [and_assoc]
theorem v26 (a b:ae):VC26 a b (fun r=>r=iR a b):=by
 intro _ _
 simp only [forall_eq']
 unfold iR ew
 rw [Gp]
 exact ⟨fun h=>by rw [h,Bool.true_and],fun h=>by rw [h,Bool.false_and]⟩
theorem yV (l:List au):∀ (f:Nat) (i:Int),(mH l f i).2=0→∀ j:Int,i≤j→j < i+f→evE (gi l j)=0∧((eA (l.take j.toNat) (gi l j).aj == 1) == ((gi l j).bh == 1))=false
 | 0,i,_,j,h0,h1=>by omega
 | f+1,i,h,j,h0,h1=>by
  rw [ly] at h
  by_cases h2:evE (gi l i)≠0
  ·rw [if_pos h2] at h; exact absurd h h2
  rw [if_neg h2] at h
  by_cases h3:((eA (l.take i.toNat) (gi l i).aj == 1) == ((gi l i).bh == 1))=true
  ·rw [if_pos h3] at h; exact absurd h (by simp)
  rw [if_neg h3] at h
  by_cases hj:j=i
  ·subst hj
   exact ⟨by omega,by simpa using h3⟩
  ·exact yV l f (i+1) h j (by omega) (by omega)
theorem q5 {l:List au} (h:(bA l).2=0):l.length≤10000∧∀ j:Int,0≤j→j < l.length→evE (gi l j)=0∧((eA (l.take j.toNat) (gi l j).aj == 1) == ((gi l j).bh == 1))=false:=by
 unfold bA at h
 by_cases hl:l.length > 10000
 ·rw [if_pos hl] at h; exact absurd h (by decide)
 rw [if_neg hl] at h
 exact ⟨by omega,fun j h0 h1=>yV l l.length 0 h j h0 (by omega)⟩
theorem CD {x:au} (h:evE x=0):(x.bh=1∨x.bh=2)∧1≤x.aj∧x.aj≤1000∧0≤x.N∧x.N≤1000000:=by
 unfold evE at h
 split at h
 ·exact absurd h (by decide)
 rename_i h1
 split at h
 ·exact absurd h (by decide)
 rename_i h2
 split at h
 ·exact absurd h (by decide)
 rename_i h3
 split at h
 ·exact absurd h (by decide)
 rename_i h4
 omega
theorem sG (l:List au):∀ (f:Nat) (i:Int),(∀ j:Int,i≤j→j < i+f→evE (gi l j)=0∧((eA (l.take j.toNat) (gi l j).aj == 1) == ((gi l j).bh == 1))=false)→(mH l f i).2=0
 | 0,i,_=>rfl
 | f+1,i,h=>by
  obtain ⟨h1,h2⟩:=h i (Int.le_refl _) (by omega)
  rw [ly,if_neg (by omega),if_neg (by rw [h2]; simp)]
  exact sG l f (i+1) (fun j h0 h1=>h j (by omega) (by omega))
end Go.Proofs.YteahldlmkheleaaGreat
