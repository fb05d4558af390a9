/- Plain lemmas about the specification functions. Conditions: in each lemma. -/
import Derived.Test.YtobeanopikjkeaaGreatGVC
set_option linter.all false
namespace Go.Proofs.YtobeanopikjkeaaGreat
open Go Go.Sv Go.Pu
theorem tB {α:Type} [Inhabited α] {a b:List α} (hl:a.length=b.length) (h:∀ j:Int,0≤j→j < a.length→gi a j=gi b j):a=b:=by
 apply List.ext_getElem hl
 intro i h1 h2
 have:=h i (by omega) (by omega)
 rwa [cA _ _ h1,cA _ _ h2] at this
theorem iw {α:Type} [Inhabited α] {l:List α} {i:Nat} (h:i < l.length):l.drop i=gi l (i:Int) :: l.drop (i+1):=by
 rw [cA _ _ h,List.drop_eq_getElem_cons h]
theorem pT {α:Type} [Inhabited α] {l:List α} {f:α→Bool} {i:Int} (h0:0≤i) (h1:i < l.length) (h:f (gi l i)=true) (h2:∀ j:Int,0≤j→j < i→f (gi l j)=false):l.findIdx? f=some i.toNat:=by
 rw [List.findIdx?_eq_some_iff_getElem]
 refine ⟨by omega,?_,fun j hj=>?_⟩
 ·rw [pN h0 h1] at h; exact h
 ·have:=h2 j (by omega) (by omega)
  rw [cA _ _ (by omega)] at this
  simp [this]
theorem pS {α:Type} [Inhabited α] {l:List α} {f:α→Bool} (h2:∀ j:Int,0≤j→j < l.length→f (gi l j)=false):l.findIdx? f=none:=by
 rw [List.findIdx?_eq_none_iff]
 intro x hx
 obtain ⟨i,hi,rfl⟩:=List.getElem_of_mem hx
 have:=h2 i (by omega) (by omega)
 rwa [cA _ _ hi] at this
theorem yi {α:Type} [Inhabited α] {l:List α} {f:α→Bool} {i:Int} (h0:0≤i) (h1:i < l.length) (h:f (gi l i)=true) (h2:∀ j:Int,0≤j→j < i→f (gi l j)=false):l.find? f=some (gi l i):=by
 rw [List.find?_eq_some_iff_getElem]
 refine ⟨h,i.toNat,by omega,?_,fun j hj=>?_⟩
 ·rw [pN h0 h1]
 ·have:=h2 j (by omega) (by omega)
  rw [cA _ _ (by omega)] at this
  simp [this]
theorem yh {α:Type} [Inhabited α] {l:List α} {f:α→Bool} (h2:∀ j:Int,0≤j→j < l.length→f (gi l j)=false):l.find? f=none:=by
 rw [List.find?_eq_none]
 intro x hx
 obtain ⟨i,hi,rfl⟩:=List.getElem_of_mem hx
 have:=h2 i (by omega) (by omega)
 rw [cA _ _ hi] at this
 simp [this]
theorem v4 (o:ah):VC4 o (fun r=>r=ke o):=by
 intro _
 unfold ke
 rw [Bool.eq_iff_iff,decide_eq_true_eq,decide_eq_true_eq]; omega
theorem v121 (o:ah):VC121 o (fun r=>r=cE o):=by
 unfold VC121
 intro uc
 simp only [sm] at uc
 simp only [Bool.or_eq_true,decide_eq_true_eq,Bool.or_eq_false_iff,decide_eq_false_iff_not]
 refine ⟨fun h=>?_,fun h=>?_⟩
 ·unfold cE; rw [if_pos (by unfold jb; omega)]
 ·have e:cE o=gI o o.Rows.length 0:=by unfold cE; rw [if_neg (by unfold jb; omega)]
  rw [e]
  refine ⟨fun x=>∃ k f:Nat,x=k∧k+f=o.Rows.length∧gI o f k=gI o o.Rows.length 0,fun x=>(o.Rows.length - x).toNat,⟨0,o.Rows.length,rfl,by omega,rfl⟩,?_⟩
  rintro _ ⟨k,f,rfl,ZP,lk⟩
  refine ⟨fun hx=>⟨⟨by omega,hx⟩,?_⟩,fun hx=>?_⟩
  ·obtain ⟨f,rfl⟩:∃ j,f=j+1:=⟨f - 1,by omega⟩
   rw [gI] at lk
   have bad:∀ e,fV o k=e→e≠0→((k:Int),e)=gI o o.Rows.length 0:=by
    rintro e rfl he
    rw [← lk,if_pos he]
   refine ⟨fun h1=>bad 30 (by unfold fV; rw [if_pos (by omega)]) (by decide),fun h1=>⟨fun h2=>bad 31 (by unfold fV; rw [if_neg (by omega),if_pos (by omega)]) (by decide),fun h2=>⟨fun h3=>bad 7 (by unfold fV; rw [if_neg (by omega),if_neg (by omega),if_pos (by omega)]) (by decide),fun h3=>?_⟩⟩⟩
   have j2:∀ b,(b=true↔ie o k)→VC121_J2 (fun r=>r=gI o o.Rows.length 0) (fun x=>∃ k f:Nat,x=k∧k+f=o.Rows.length∧gI o f k=gI o o.Rows.length 0) (fun x=>(o.Rows.length - x).toNat) k b:=by
    intro b hb
    unfold VC121_J2
    refine ⟨fun h=>bad 32 (by unfold fV; rw [if_neg (by omega),if_neg (by omega),if_neg (by omega),if_pos (hb.mp h)]) (by decide),fun h=>?_⟩
    have hno:¬ ie o k:=fun h2=>by rw [hb.mpr h2] at h; cases h
    have h0:fV o k=0:=by unfold fV; rw [if_neg (by omega),if_neg (by omega),if_neg (by omega),if_neg hno]
    rw [if_neg (by omega)] at lk
    rw [wrp (by omega) (by omega)]
    exact ⟨⟨k+1,f,by simp,by omega,lk⟩,by dsimp only; omega⟩
   refine ⟨fun h4=>?_,fun h4=>j2 false ⟨(fun h=>by cases h),fun h=>by unfold ie at h; omega⟩⟩
   rw [wrp (n:=(k:Int) - 1) (by omega) (by omega)]
   refine ⟨⟨by omega,by omega⟩,fun h5=>j2 true ⟨fun _=>⟨h4,Or.inl h5⟩,fun _=>rfl⟩,fun h5=>⟨⟨by omega,by omega⟩,fun h6=>⟨⟨by omega,by omega⟩,j2 _ ?_⟩,fun h6=>j2 false ⟨(fun h=>by cases h),fun h=>?_⟩⟩⟩
   ·rw [beq_iff_eq] at h6
    rw [decide_eq_true_eq]
    exact ⟨fun h=>⟨h4,Or.inr ⟨h6,h⟩⟩,fun h=>by unfold ie at h; omega⟩
   ·rw [beq_eq_false_iff_ne] at h6
    unfold ie at h; omega
  ·have:f=0:=by omega
   subst this
   unfold VC121_J1
   rw [← lk,gI]
   have:k=o.Rows.length:=by omega
   rw [this]
theorem v80 (o:ah) (s k:Int):VC80 o s k (fun r=>r=aZ o s k):=by
 unfold VC80
 intro uc
 simp only [sm] at uc
 refine ⟨fun i=>0≤i∧i≤o.Rows.length∧∀ j:Int,0≤j→j < i→((gi o.Rows j).State == s && (gi o.Rows j).Kind == k)=false,fun i=>(o.Rows.length - i).toNat,⟨by omega,by omega,fun j h0 h1=>by omega⟩,?_⟩
 rintro i ⟨h0,h1,h2⟩
 have j2:i < o.Rows.length→∀ b,b=((gi o.Rows i).State == s && (gi o.Rows i).Kind == k)→VC80_J2 o (fun r=>r=aZ o s k) (fun i=>0≤i∧i≤o.Rows.length∧∀ j:Int,0≤j→j < i→((gi o.Rows j).State == s && (gi o.Rows j).Kind == k)=false) (fun i=>(o.Rows.length - i).toNat) i b:=by
  rintro hi b rfl
  unfold VC80_J2
  refine ⟨fun hb=>⟨⟨h0,hi⟩,⟨h0,hi⟩,?_⟩,fun hb=>?_⟩
  ·unfold aZ
   rw [yi (f:=fun r:cG=>r.State == s && r.Kind == k) h0 hi hb h2]
  ·rw [wrp (by omega) (by omega)]
   refine ⟨⟨by omega,by omega,fun j j0 j1=>?_⟩,by dsimp only; omega⟩
   by_cases hj:j < i
   ·exact h2 j j0 hj
   ·rw [show j=i by omega]; exact hb
 refine ⟨fun hi=>?_,fun hi=>?_⟩
 ·rw [decide_eq_true_eq] at hi
  refine ⟨⟨h0,hi⟩,fun hs=>⟨⟨h0,hi⟩,j2 hi _ (by rw [hs,Bool.true_and])⟩,fun hs=>j2 hi _ (by rw [hs,Bool.false_and])⟩
 ·rw [decide_eq_false_iff_not] at hi
  unfold VC80_J1 aZ
  rw [yh (f:=fun r:cG=>r.State == s && r.Kind == k) (fun j j0 j1=>h2 j j0 (by omega))]
theorem v87 (r:cG) (s k:Int):VC87 r s k (fun x=>x=gF r s k):=by
 unfold VC87 gF
 simp
theorem v88_87 (l:List cG) (s k:Int):VC88_87 l s k (fun r=>r=aV l s k):=by
 unfold VC88_87
 intro hl
 simp only [sm] at hl
 refine ⟨fun i=>0≤i∧i≤l.length∧∀ j:Int,0≤j→j < i→((gi l j).State == s && (gi l j).Kind == k)=false,fun i=>(l.length - i).toNat,⟨by omega,by omega,fun j h0 h1=>by omega⟩,?_⟩
 rintro i ⟨h0,h1,h2⟩
 refine ⟨fun hi=>?_,fun hi=>?_⟩
 ·rw [decide_eq_true_eq] at hi
  refine ⟨⟨h0,hi⟩,?_⟩
  rintro _ rfl
  refine ⟨fun he=>?_,fun he=>?_⟩
  ·unfold aV
   rw [pT (f:=fun r:cG=>r.State == s && r.Kind == k) h0 hi he h2]
   dsimp only; omega
  ·rw [wrp (by omega) (by omega)]
   refine ⟨⟨by omega,by omega,fun j j0 j1=>?_⟩,by dsimp only; omega⟩
   by_cases hj:j < i
   ·exact h2 j j0 hj
   ·rw [show j=i by omega]; exact he
 ·rw [decide_eq_false_iff_not] at hi
  unfold VC88_87_J1 aV
  rw [pS (f:=fun r:cG=>r.State == s && r.Kind == k) (fun j j0 j1=>h2 j j0 (by omega))]
theorem GD {α:Type} [Inhabited α] (l:List α) (f:α→Bool):l.find? f=(match l.findIdx? f with | some i=>some (gi l (i:Int)) | none=>none):=by
 cases h:l.findIdx? f with
 | none=>rw [List.findIdx?_eq_none_iff] at h; rw [List.find?_eq_none.mpr (fun x hx=>by simp [h x hx])]
 | some i =>
  rw [List.findIdx?_eq_some_iff_getElem] at h
  obtain ⟨hi,hf,eS⟩:=h
  show l.find? f=some (gi l (i:Int))
  rw [cA _ _ hi,List.find?_eq_some_iff_getElem]
  exact ⟨hf,i,hi,rfl,fun j hj=>by simpa using eS j hj⟩
theorem v38 (o:ah) (s k:Int):VC38 o s k (fun r=>r=eQ o s k):=by
 unfold VC38
 intro _
 rintro _ rfl
 unfold eQ aZ aV
 rw [GD]
 cases h:o.Rows.findIdx? (fun r=>r.State == s && r.Kind == k) with
 | none=>exact ⟨fun _=>rfl,fun h=>by simp at h⟩
 | some i =>
  rw [List.findIdx?_eq_some_iff_getElem] at h
  obtain ⟨hi,_,_⟩:=h
  dsimp only
  refine ⟨fun h=>?_,fun _=>⟨⟨by omega,by omega⟩,⟨by omega,by omega⟩,rfl⟩⟩
  rw [decide_eq_true_eq] at h; omega
theorem v122 (o:ah) (s k r:Int):VC122 o s k r (fun x=>x=db o s k r):=by
 unfold VC122
 intro _
 simp only [Bool.or_eq_true,decide_eq_true_eq,Bool.or_eq_false_iff,decide_eq_false_iff_not,Bool.not_eq_true',bne_iff_ne,bne_eq_false_iff_eq,Bool.not_eq_false']
 refine ⟨fun h=>by unfold db; rw [if_pos h],fun h=>?_⟩
 rintro _ rfl
 refine ⟨fun h2=>by unfold db; rw [if_neg (by omega),if_pos h2],fun h2=>?_⟩
 unfold db
 rw [if_neg (by omega),if_neg (by rw [h2.1,h2.2]; simp)]
theorem v268 (x:Int):VC268 x (fun r=>r=cmp_isNaN_int x):=by
 unfold VC268 cmp_isNaN_int; simp
theorem v209 (x y:Int):VC209 x y (fun r=>r=dh x y):=by
 unfold VC209
 rintro _ rfl _ rfl
 unfold cmp_isNaN_int
 refine ⟨(fun h=>by cases h),fun _=>⟨(fun h=>by cases h),fun _=>?_⟩⟩
 simp only [decide_eq_true_eq,decide_eq_false_iff_not]
 unfold dh
 refine ⟨fun h=>by rw [if_pos h],fun h=>⟨fun h2=>by rw [if_neg h,if_pos h2],fun h2=>by rw [if_neg h,if_neg h2]⟩⟩
theorem v208 (l:List Int):VC208 l (fun r=>r=gy l):=by
 unfold VC208
 intro hl
 simp only [sm] at hl
 refine ⟨fun i=>0≤i∧i≤l.length∧∀ j:Int,0≤j→j < i→(gi l j != 0)=false,fun i=>(l.length - i).toNat,⟨by omega,by omega,fun j h0 h1=>by omega⟩,?_⟩
 rintro i ⟨h0,h1,h2⟩
 refine ⟨fun hi=>?_,fun hi=>?_⟩
 ·rw [decide_eq_true_eq] at hi
  refine ⟨⟨h0,hi⟩,fun he=>?_,fun he=>?_⟩
  ·unfold gy
   rw [yi (f:=fun x=>x != 0) h0 hi he h2]; rfl
  ·rw [wrp (by omega) (by omega)]
   refine ⟨⟨by omega,by omega,fun j j0 j1=>?_⟩,by dsimp only; omega⟩
   by_cases hj:j < i
   ·exact h2 j j0 hj
   ·rw [show j=i by omega]; exact he
 ·rw [decide_eq_false_iff_not] at hi
  unfold VC208_J1 gy
  rw [yh (f:=fun x=>x != 0) (fun j j0 j1=>h2 j j0 (by omega))]; rfl
theorem v155 (a b:cG):VC155 a b (fun r=>r=gp a b):=by
 rintro _ rfl _ rfl _ rfl; rfl
theorem v113 (n t:Int):VC113 n t (fun r=>r=bH n t):=rfl
theorem within_iff (n t:Int):(bH n t=true↔0≤n∧n < t)∧(bH n t=false↔¬ (0≤n∧n < t)):=by
 unfold bH
 refine ⟨by rw [Bool.and_eq_true,decide_eq_true_eq,decide_eq_true_eq],?_⟩
 rw [Bool.and_eq_false_iff,decide_eq_false_iff_not,decide_eq_false_iff_not]; omega
theorem CY (a b:cG):gp a b≥0↔(a.State > b.State∨(a.State=b.State∧a.Kind≥b.Kind)):=by
 unfold gp gy dh
 rcases Int.lt_trichotomy a.State b.State with h | h | h
 ·rw [if_pos h]; simp; omega
 ·rw [if_neg (by omega),if_neg (by omega)]
  rcases Int.lt_trichotomy a.Kind b.Kind with h2 | h2 | h2
  ·rw [if_pos h2]; simp; omega
  ·rw [if_neg (by omega),if_neg (by omega)]; simp; omega
  ·rw [if_neg (by omega),if_pos h2]; simp; omega
 ·rw [if_neg (by omega),if_pos h]; simp; omega
theorem v114 (o:ah) (i:Int) (h:vV o i):VC114 o i (fun r=>r=iA o i):=by
 obtain ⟨h0,h1⟩:=h
 unfold VC114 iA
 intro uc
 simp only [sm] at uc
 refine ⟨⟨h0,h1⟩,?_⟩
 have j1:∀ b,(b=true↔((gi o.Rows i).State < 0∨(gi o.Rows i).State≥o.ab∨(gi o.Rows i).Next < 0∨(gi o.Rows i).Next≥o.ab))→VC114_J1 o i (fun r=>r=fV o i) b:=by
  intro b hb
  unfold VC114_J1
  refine ⟨fun h=>by unfold fV; rw [if_pos (hb.mp h)],fun h=>?_⟩
  have g1:¬ ((gi o.Rows i).State < 0∨(gi o.Rows i).State≥o.ab∨(gi o.Rows i).Next < 0∨(gi o.Rows i).Next≥o.ab):=fun h2=>by rw [hb.mpr h2] at h; cases h
  rintro _ rfl
  rw [Bool.not_eq_true',Bool.not_eq_false',(within_iff _ _).1,(within_iff _ _).2]
  refine ⟨fun h2=>by unfold fV; rw [if_neg g1,if_pos (by omega)],fun h2=>?_⟩
  rintro _ rfl
  rw [Bool.not_eq_true',Bool.not_eq_false',(within_iff _ _).1,(within_iff _ _).2]
  refine ⟨fun h3=>by unfold fV; rw [if_neg g1,if_neg (by omega),if_pos (by omega)],fun h3=>?_⟩
  have j2:∀ b,(b=true↔ie o i)→VC114_J2 (fun r=>r=fV o i) b:=by
   intro b hb
   unfold VC114_J2
   refine ⟨fun h=>by unfold fV; rw [if_neg g1,if_neg (by omega),if_neg (by omega),if_pos (hb.mp h)],fun h=>?_⟩
   have hno:¬ ie o i:=fun h2=>by rw [hb.mpr h2] at h; cases h
   unfold fV; rw [if_neg g1,if_neg (by omega),if_neg (by omega),if_neg hno]
  refine ⟨fun h4=>?_,fun h4=>j2 false ⟨(fun h=>by cases h),fun h=>by rw [decide_eq_false_iff_not] at h4; exact absurd h.1 h4⟩⟩
  rw [decide_eq_true_eq] at h4
  rw [wrp (n:=i - 1) (by omega) (by omega)]
  refine ⟨⟨by omega,by omega⟩,?_⟩
  rintro _ rfl
  refine j2 _ ?_
  rw [decide_eq_true_eq,CY]
  exact ⟨fun h=>⟨h4,h⟩,fun h=>h.2⟩
 rintro _ rfl
 rw [Bool.not_eq_true',Bool.not_eq_false',(within_iff _ _).1,(within_iff _ _).2]
 refine ⟨fun h2=>j1 true ⟨fun _=>by omega,fun _=>rfl⟩,fun h2=>?_⟩
 rintro _ rfl
 refine j1 _ ?_
 rw [Bool.not_eq_true',(within_iff _ _).2]
 omega
theorem v55 (o:ah) (h:sS o):VC55 o (fun r=>r=bq o):=by
 obtain ⟨hs,hk⟩:=h
 unfold inR at hs hk
 have m1:IntKind.min .i64=-9223372036854775808:=by decide
 have m2:IntKind.max .i64=9223372036854775807:=by decide
 rw [m1,m2] at hs hk
 unfold VC55 bq
 intro uc
 simp only [sm] at uc
 have j1:∀ b,(b=true↔jb o)→VC55_J1 o (fun r=>r=cE o) b:=by
  intro b hb
  unfold VC55_J1
  refine ⟨fun h=>by unfold cE; rw [if_pos (hb.mp h)],fun h=>?_⟩
  have hno:¬ jb o:=fun h2=>by rw [hb.mpr h2] at h; cases h
  have e:cE o=gI o o.Rows.length 0:=by unfold cE; rw [if_neg hno]
  rw [e]
  refine ⟨fun x=>∃ k f:Nat,x=k∧k+f=o.Rows.length∧gI o f k=gI o o.Rows.length 0,fun x=>(o.Rows.length - x).toNat,⟨0,o.Rows.length,rfl,by omega,rfl⟩,?_⟩
  rintro _ ⟨k,f,rfl,ZP,lk⟩
  refine ⟨fun hx=>⟨⟨by omega,by simpa using hx⟩,?_⟩,fun hx=>?_⟩
  ·rw [decide_eq_true_eq] at hx
   obtain ⟨f,rfl⟩:∃ j,f=j+1:=⟨f - 1,by omega⟩
   rw [gI] at lk
   rintro _ rfl
   unfold iA
   rw [bne_iff_ne,bne_eq_false_iff_eq]
   refine ⟨fun he=>by rw [if_pos he] at lk; exact lk,fun he=>?_⟩
   rw [if_neg (by omega)] at lk
   rw [wrp (by omega) (by omega)]
   exact ⟨⟨k+1,f,by simp,by omega,lk⟩,by dsimp only; omega⟩
  ·rw [decide_eq_false_iff_not] at hx
   have:f=0:=by omega
   subst this
   unfold VC55_J2
   rw [← lk,gI]
   have:k=o.Rows.length:=by omega
   rw [this]
 have w1:bH (IntKind.i64.wrap (o.ab - 1)) 32=true↔¬ (o.ab < 1∨o.ab > 32):=by
  rw [(within_iff _ _).1,Ll]; omega
 have w2:bH (IntKind.i64.wrap (o.aP - 1)) 64=true↔¬ (o.aP < 1∨o.aP > 64):=by
  rw [(within_iff _ _).1,Ll]; omega
 rintro _ rfl
 refine ⟨fun h=>j1 true ⟨fun _=>?_,fun _=>rfl⟩,fun h=>?_⟩
 ·rw [Bool.not_eq_true',← Bool.not_eq_true,w1] at h; unfold jb; omega
 ·rw [Bool.not_eq_false',w1] at h
  rintro _ rfl
  refine ⟨fun h2=>j1 true ⟨fun _=>?_,fun _=>rfl⟩,fun h2=>?_⟩
  ·rw [Bool.not_eq_true',← Bool.not_eq_true,w2] at h2; unfold jb; omega
  ·rw [Bool.not_eq_false',w2] at h2
   rintro _ rfl
   refine j1 _ ?_
   rw [Bool.not_eq_true',(within_iff _ _).2]
   unfold jb; omega
theorem v11 (a b:List ak):VC11 a b (fun r=>r=gk a b):=by
 unfold VC11
 intro ha hb
 simp only [sm] at ha hb
 refine ⟨fun h=>?_,fun h=>?_⟩
 ·have:a≠b:=by rintro rfl; simp at h
  simp [gk,this]
 ·have hl:a.length=b.length:=by simp at h; omega
  refine ⟨fun i=>0≤i∧i≤a.length∧∀ j:Int,0≤j→j < i→gi a j=gi b j,fun i=>(a.length - i).toNat,⟨by omega,by omega,fun j h0 h1=>by omega⟩,?_⟩
  rintro i ⟨h0,h1,h2⟩
  refine ⟨fun hi=>?_,fun hi=>?_⟩
  ·rw [decide_eq_true_eq] at hi
   refine ⟨⟨by omega,by omega⟩,⟨by omega,by omega⟩,fun hne=>?_,fun he=>?_⟩
   ·have:a≠b:=by rintro rfl; simp at hne
    simp [gk,this]
   ·rw [wrp (by omega) (by omega)]
    refine ⟨⟨by omega,by omega,fun j j0 j1=>?_⟩,by dsimp only; omega⟩
    by_cases hj:j < i
    ·exact h2 j j0 hj
    ·rw [show j=i by omega]
     simp at he
     cases ZW:gi a i; cases ZV:gi b i
     rw [ZW,ZV] at he
     simp at he
     rw [he.1,he.2]
  ·rw [decide_eq_false_iff_not] at hi
   have:a=b:=tB hl (fun j j0 j1=>h2 j j0 (by omega))
   simp [VC11_J1,gk,this]
def ko (az:List ak) (k:Nat):List Int:=((az.take k).map (·.Oper)).reverse
theorem prev_zero (p:List ak):ko p 0=[]:=by simp [ko]
theorem uG {p:List ak} {k:Nat} (h:k < p.length):ko p (k+1)=(gi p (k:Int)).Oper :: ko p k:=by
 unfold ko
 rw [List.take_succ_eq_append_getElem h,List.map_append,List.reverse_append,cA _ _ h]; rfl
theorem ti {p:List ak} {x:Int}:∀ {k:Nat},k≤p.length→(x∈ko p k↔∃ j:Nat,j < k∧(gi p (j:Int)).Oper=x)
 | 0,_=>by rw [prev_zero]; simp
 | k+1,h=>by
  rw [uG (by omega),List.mem_cons,ti (by omega)]
  constructor
  ·rintro (h2 | ⟨j,hj,h2⟩)
   ·exact ⟨k,by omega,h2.symm⟩
   ·exact ⟨j,by omega,h2⟩
  ·rintro ⟨j,hj,h2⟩
   by_cases Dn:j=k
   ·subst Dn; exact Or.inl h2.symm
   ·exact Or.inr ⟨j,by omega,h2⟩
def comb (k:Nat) (r:Int × Int × Int):Int × Int × Int:=(r.1,r.2.1+k,r.2.2)
theorem E4 {o:ah} {l:List ae} {p:List ak} {k:Nat} {prev:List Int} {s:Int} (h:k < p.length) :
  eK o l prev s (p.drop k)=if (ca o l prev s (gi p (k:Int))).2≠0 then (0,0,(ca o l prev s (gi p (k:Int))).2) else comb 1 (eK o l ((gi p (k:Int)).Oper :: prev) (ca o l prev s (gi p (k:Int))).1 (p.drop (k+1))):=by
 rw [iw h,eK]; rfl
theorem DF (a b:Nat) (r:Int × Int × Int):comb a (comb b r)=comb (a+b) r:=by
 unfold comb; simp; omega
theorem sB (o:ah) (l:List ae) (s:Int) (p:ak):(nR o l s p).2=gY o l s p∧((nR o l s p).2≠0→(nR o l s p).1=0):=by
 unfold nR
 split
 ·exact ⟨rfl,fun _=>rfl⟩
 ·rename_i h
  exact ⟨by dsimp only; omega,fun h2=>absurd rfl h2⟩
theorem v79 (o:ah) (l:List ae) (s:Int) (p:List ak):VC79 o l s p (fun r=>r=bU o l s p):=by
 unfold VC79
 intro _ hl hp
 simp only [sm] at hl hp
 rintro _ rfl
 simp only [Bool.or_eq_true,decide_eq_true_eq,Bool.or_eq_false_iff,decide_eq_false_iff_not,bne_iff_ne,bne_eq_false_iff_eq]
 refine ⟨fun h=>?_,fun h=>⟨fun h2=>?_,fun h2=>?_⟩⟩
 ·have e:gh o s=2:=by unfold gh; rw [if_pos h]
  unfold bU; rw [e,if_pos (by decide)]
 ·have e:gh o s=30:=by unfold gh; rw [if_neg (by omega),if_pos h2]
  unfold bU; rw [e,if_pos (by decide)]
 ·have e:gh o s=0:=by unfold gh; rw [if_neg (by omega),if_neg (by omega)]
  have ef:bU o l s p=eK o l [] s p:=by unfold bU; rw [e,if_neg (by decide)]
  rw [ef]
  refine ⟨fun st i=>∃ k:Nat,i=k∧k≤p.length∧comb k (eK o l (ko p k) st (p.drop k))=eK o l [] s p,fun _ i=>(p.length - i).toNat,⟨0,rfl,by omega,by rw [prev_zero]; simp [comb]⟩,?_⟩
  rintro st _ ⟨k,rfl,hk,lk⟩
  refine ⟨fun hi=>⟨⟨by omega,hi⟩,?_⟩,fun hi=>?_⟩
  ·have hi:k < p.length:=by omega
   rw [E4 hi] at lk
   have bad:∀ e:Int,(ca o l (ko p k) st (gi p (k:Int))).2=e→e≠0→((0:Int),(k:Int),e)=eK o l [] s p:=by
    rintro e rfl he
    rw [if_pos he] at lk
    rw [← lk]; unfold comb; simp
   refine ⟨fun h3=>bad 2 (by unfold ca; rw [if_pos h3]) (by decide),fun h3=>?_⟩
   refine ⟨fun j=>∃ v:Nat,j=v∧v≤k∧∀ q:Nat,q < v→(gi p (q:Int)).Oper≠(gi p (k:Int)).Oper,fun j=>(k - j).toNat,⟨0,rfl,by omega,fun q hq=>by omega⟩,?_⟩
   rintro _ ⟨v,rfl,hv,IX⟩
   refine ⟨fun eS=>⟨⟨by omega,by omega⟩,fun he=>?_,fun he=>?_⟩,fun hge=>?_⟩
   ·rw [beq_iff_eq] at he
    refine bad 21 ?_ (by decide)
    unfold ca
    rw [if_neg (by omega),if_pos ((ti hk).mpr ⟨v,by omega,he⟩)]
   ·rw [beq_eq_false_iff_ne] at he
    rw [wrp (by omega) (by omega)]
    refine ⟨⟨v+1,by simp,by omega,fun q hq=>?_⟩,by dsimp only; omega⟩
    by_cases h:q < v
    ·exact IX q h
    ·rw [show q=v by omega]; exact he
   ·have hv:v=k:=by omega
    subst hv
    have IK:(gi p (v:Int)).Oper∉ko p v:=by
     rw [ti hk]; rintro ⟨j,hj,h⟩; exact IX j hj h
    have Zp:ca o l (ko p v) st (gi p (v:Int))=nR o l st (gi p (v:Int)):=by
     unfold ca; rw [if_neg (by omega),if_neg IK]
    rw [Zp] at bad lk
    unfold VC79_J2
    refine ⟨⟨by omega,by omega⟩,?_⟩
    rintro _ rfl
    simp only [bne_iff_ne,bne_eq_false_iff_eq]
    refine ⟨fun he=>bad _ ?_ he,fun he=>⟨⟨by omega,by omega⟩,?_⟩⟩
    ·rw [(sB _ _ _ _).1]
     unfold gY
     rw [if_neg (fun h=>he h.1)]
    ·have j3:∀ b,(b=true↔((gi l (gi p (v:Int)).Oper).End≠-1∧(gi l (gi p (v:Int)).Oper).Result≠(gi p (v:Int)).Result))→VC79_J3 (fun r=>r=eK o l [] s p) (fun st i=>∃ k:Nat,i=k∧k≤p.length∧comb k (eK o l (ko p k) st (p.drop k))=eK o l [] s p) (fun _ i=>(p.length - i).toNat) st v (db o st (gi l (gi p (v:Int)).Oper).Kind (gi p (v:Int)).Result) b:=by
      intro b hb
      unfold VC79_J3
      refine ⟨fun h=>bad 40 ?_ (by decide),fun h=>?_⟩
      ·rw [(sB _ _ _ _).1]
       unfold gY
       rw [if_pos ⟨he,hb.mp h⟩]
      ·have hno:¬ ((gi l (gi p (v:Int)).Oper).End≠-1∧(gi l (gi p (v:Int)).Oper).Result≠(gi p (v:Int)).Result):=fun h2=>by rw [hb.mpr h2] at h; cases h
       have ht:nR o l st (gi p (v:Int))=((db o st (gi l (gi p (v:Int)).Oper).Kind (gi p (v:Int)).Result).1,0):=by
        have F8:gY o l st (gi p (v:Int))=0:=by
         unfold gY
         rw [if_neg (fun h=>hno h.2)]; exact he
        unfold nR
        rw [if_neg (fun h=>h F8)]
       rw [ht] at lk
       rw [if_neg (by simp),DF,← uG hi] at lk
       rw [wrp (by omega) (by omega)]
       exact ⟨⟨v+1,by simp,by omega,lk⟩,by dsimp only; omega⟩
     refine ⟨fun h4=>⟨⟨by omega,by omega⟩,j3 _ ?_⟩,fun h4=>j3 false ⟨(fun h=>by cases h),fun h=>absurd h4 h.1⟩⟩
     rw [bne_iff_ne]
     exact ⟨fun h=>⟨h4,h⟩,fun h=>h.2⟩
  ·have:k=p.length:=by omega
   subst this
   unfold VC79_J1
   rw [← lk,List.drop_length,eK]
   unfold comb; simp
theorem v156 (o:ae):VC156 o (fun r=>r=eG o):=by
 unfold VC156 eG
 simp only [beq_iff_eq,beq_eq_false_iff_ne]
 exact ⟨fun h=>by rw [if_pos h],fun h=>by rw [if_neg h]⟩
theorem v115 (o:ae):VC115 o (fun r=>r=dY o):=by
 unfold VC115 dY
 simp only [Bool.or_eq_true,decide_eq_true_eq,Bool.or_eq_false_iff,decide_eq_false_iff_not]
 refine ⟨fun h=>by rw [if_pos (by omega)],fun h=>⟨fun h2=>by rw [if_neg (by omega),if_pos h2],fun h2=>?_⟩⟩
 rintro _ rfl
 refine ⟨fun h3=>?_,fun h3=>?_⟩
 ·have h3:eG o=false:=by simpa using h3
  rw [if_neg (by omega),if_neg (by omega),if_pos h3]
 ·have h3:eG o=true:=by simpa using h3
  rw [if_neg (by omega),if_neg (by omega),if_neg (by rw [h3]; decide)]
theorem v67 (a b:ae):VC67 a b (fun r=>r=bG a b):=rfl
theorem v56 (l:List ae):VC56 l (fun r=>r=bp l):=by
 unfold VC56
 intro uc
 simp only [sm] at uc
 refine ⟨fun h=>?_,fun h=>?_⟩
 ·rw [decide_eq_true_eq] at h
  unfold bp; rw [if_pos (by omega)]
 ·rw [decide_eq_false_iff_not] at h
  have e:bp l=dK l l.length [] [] 0:=by unfold bp; rw [if_neg (by omega)]
  rw [e]
  refine ⟨fun u la x=>∃ i f:Nat,x=i∧i+f=l.length∧dK l f u la i=dK l l.length [] [] 0,fun _ _ x=>(l.length - x).toNat,⟨0,l.length,rfl,by omega,rfl⟩,?_⟩
  rintro u la _ ⟨i,f,rfl,WK,lk⟩
  refine ⟨fun hx=>⟨⟨by omega,by simpa using hx⟩,?_⟩,fun hx=>?_⟩
  ·rw [decide_eq_true_eq] at hx
   obtain ⟨f,rfl⟩:∃ k,f=k+1:=⟨f - 1,by omega⟩
   rw [dK] at lk
   rintro _ rfl
   refine ⟨fun ha=>?_,fun ha=>?_⟩
   ·rw [bne_iff_ne] at ha
    rw [← lk,if_pos ha]
   ·have ha:dY (gi l (i:Int))=0:=by simpa using ha
    rw [if_neg (by omega)] at lk
    have j2:¬ rf l u i→uK l la i=false→VC56_J2 l (fun u la x=>∃ i f:Nat,x=i∧i+f=l.length∧dK l f u la i=dK l l.length [] [] 0) (fun _ _ x=>(l.length - x).toNat) u la i (pd l u i):=by
     intro h1 h2
     rw [if_neg h1,if_neg (by rw [h2]; decide)] at lk
     unfold VC56_J2
     rw [wrp (by omega) (by omega)]
     exact ⟨⟨i+1,f,by simp,by omega,lk⟩,by dsimp only; omega⟩
    have j4:¬ rf l u i→∀ b,b=uK l la i→VC56_J4 l (fun r=>r=dK l l.length [] [] 0) (fun u la x=>∃ i f:Nat,x=i∧i+f=l.length∧dK l f u la i=dK l l.length [] [] 0) (fun _ _ x=>(l.length - x).toNat) u la i b:=by
     rintro h1 b rfl
     unfold VC56_J4
     refine ⟨fun hb=>?_,fun hb=>⟨fun he=>?_,fun he=>?_⟩⟩
     ·rw [if_neg h1,if_pos hb] at lk
      exact lk
     ·rw [decide_eq_true_eq] at he
      have:=j2 h1 hb
      unfold pd at this
      rw [if_pos he] at this
      exact this
     ·rw [decide_eq_false_iff_not] at he
      have:=j2 h1 hb
      unfold pd at this
      rw [if_neg he] at this
      exact this
    have j3:∀ b,(b=true↔rf l u i)→VC56_J3 l (fun r=>r=dK l l.length [] [] 0) (fun u la x=>∃ i f:Nat,x=i∧i+f=l.length∧dK l f u la i=dK l l.length [] [] 0) (fun _ _ x=>(l.length - x).toNat) u la i b:=by
     intro b hb
     unfold VC56_J3
     refine ⟨fun h=>?_,fun h=>?_⟩
     ·rw [if_pos (hb.mp h)] at lk
      exact lk
     ·have h1:¬ rf l u i:=fun h2=>by rw [hb.mpr h2] at h; cases h
      refine ⟨fun hs=>?_,fun hs=>j4 h1 _ ?_⟩
      ·rintro _ rfl
       refine j4 h1 _ ?_
       unfold uK
       rw [hs]; rfl
      ·unfold uK
       rw [hs]; rfl
    have m1:∀ z:Bool,(z=true↔(0 < i∧(gi l (i:Int)).aN≤(gi l ((i:Int) - 1)).aN))→z=false → 
      ((decide ((cd u (gi l (i:Int)).aN).getD 0 > 0))=true→VC56_J3 l (fun r=>r=dK l l.length [] [] 0) (fun u la x=>∃ i f:Nat,x=i∧i+f=l.length∧dK l f u la i=dK l l.length [] [] 0) (fun _ _ x=>(l.length - x).toNat) u la i true) ∧
      ((decide ((cd u (gi l (i:Int)).aN).getD 0 > 0))=false→((decide ((gi l (i:Int)).End≥0))=true→VC56_J3 l (fun r=>r=dK l l.length [] [] 0) (fun u la x=>∃ i f:Nat,x=i∧i+f=l.length∧dK l f u la i=dK l l.length [] [] 0) (fun _ _ x=>(l.length - x).toNat) u la i (decide ((cd u (gi l (i:Int)).End).getD 0 > 0)))∧((decide ((gi l (i:Int)).End≥0))=false→VC56_J3 l (fun r=>r=dK l l.length [] [] 0) (fun u la x=>∃ i f:Nat,x=i∧i+f=l.length∧dK l f u la i=dK l l.length [] [] 0) (fun _ _ x=>(l.length - x).toNat) u la i false)):=by
     intro z hz Ws
     have Hv:¬ (0 < i∧(gi l (i:Int)).aN≤(gi l ((i:Int) - 1)).aN):=fun h=>by rw [hz.mpr h] at Ws; cases Ws
     simp only [decide_eq_true_eq,decide_eq_false_iff_not]
     refine ⟨fun hu=>j3 _ ⟨fun _=>Or.inr (Or.inl hu),fun _=>rfl⟩,fun hu=>⟨fun he=>j3 _ ⟨fun h=>Or.inr (Or.inr ⟨he,by rw [decide_eq_true_eq] at h; exact h⟩),fun h=>?_⟩,fun he=>j3 _ ⟨(fun h=>by cases h),fun h=>?_⟩⟩⟩
     ·rw [decide_eq_true_eq]
      rcases h with h | h | h
      ·exact absurd h Hv
      ·exact absurd h hu
      ·exact h.2
     ·rcases h with h | h | h
      ·exact absurd h Hv
      ·exact absurd h hu
      ·exact absurd h.1 he
    refine ⟨fun h0=>?_,fun h0=>?_⟩
    ·rw [decide_eq_true_eq] at h0
     rw [wrp (n:=(i:Int) - 1) (by omega) (by omega)]
     refine ⟨⟨by omega,by omega⟩,fun hs=>?_,fun hs=>?_⟩
     ·rw [decide_eq_true_eq] at hs
      exact j3 true ⟨fun _=>Or.inl ⟨by omega,hs⟩,fun _=>rfl⟩
     ·refine m1 (decide ((gi l (i:Int)).aN≤(gi l ((i:Int) - 1)).aN)) ?_ hs
      rw [decide_eq_true_eq]
      exact ⟨fun h=>⟨by omega,h⟩,fun h=>h.2⟩
    ·rw [decide_eq_false_iff_not] at h0
     exact m1 false ⟨(fun h=>by cases h),fun h=>by omega⟩ rfl
  ·rw [decide_eq_false_iff_not] at hx
   have:f=0:=by omega
   subst this
   unfold VC56_J1
   rw [← lk]; rfl
theorem tH (l:List ae):∀ (f:Nat) (u:List (Int × Int)) (la:List (Int × ae)) (i:Nat),i+f=l.length→(dK l f u la i).2=0→∀ j:Nat,i≤j→j < l.length→dY (gi l (j:Int))=0∧(0 < j→(gi l ((j:Int) - 1)).aN < (gi l (j:Int)).aN)
 | 0,u,la,i,WK,_,j,h1,h2=>by omega
 | f+1,u,la,i,WK,h,j,h1,h2=>by
  rw [dK] at h
  by_cases ha:dY (gi l (i:Int))≠0
  ·rw [if_pos ha] at h; exact absurd h ha
  ·rw [if_neg ha] at h
   by_cases h32:rf l u i
   ·rw [if_pos h32] at h; simp at h
   ·rw [if_neg h32] at h
    by_cases h33:uK l la i=true
    ·rw [if_pos h33] at h; simp at h
    ·rw [if_neg h33] at h
     by_cases Sp:j=i
     ·subst Sp
      refine ⟨by omega,fun h0=>?_⟩
      apply Classical.byContradiction
      intro hn
      exact h32 (Or.inl ⟨h0,by omega⟩)
     ·exact tH l f _ _ (i+1) (by omega) h j (by omega) h2
theorem Fg {l:List ae} {p:List ak} (h2:∀ y:Nat,y < p.length→ik l p y=false):fK l p=-1:=by
 unfold fK vZ
 have:(List.range p.length).find? (ik l p)=none:=by
  rw [List.find?_range_eq_none]
  intro y hy
  simp [h2 y hy]
 rw [this]
theorem G4 {l:List ae} {p:List ak} {t:Nat} {k:Nat} (h:0≤(gi p (t:Int)).Oper∧(gi p (t:Int)).Oper < l.length) (hk:k < l.length) (ha:bG (gi l (k:Int)) (gi l (gi p (t:Int)).Oper)=true) (hn:(k:Int)∉opers (p.take t)):ik l p t=true:=by
 unfold ik
 rw [Bool.and_eq_true,decide_eq_true_eq,List.any_eq_true]
 exact ⟨h,k,by rw [List.mem_range]; exact hk,by rw [ha]; simp [hn]⟩
theorem G5 {l:List ae} {p:List ak} {t:Nat} (hn:∀ k:Nat,k < l.length→¬ (bG (gi l (k:Int)) (gi l (gi p (t:Int)).Oper)=true∧(k:Int)∉opers (p.take t))):ik l p t=false:=by
 unfold ik
 rw [Bool.and_eq_false_iff]
 right
 rw [List.any_eq_false]
 intro k hk
 rw [List.mem_range] at hk
 have:=hn k hk
 simpa using this
theorem DH {l:List ae} (h:(bp l).2=0):l.length≤5000:=by
 unfold bp at h
 split at h
 ·cases h
 ·omega
theorem v82 (a b:ae):VC82 a b (fun r=>r=jE a b):=rfl
theorem v81 (p:List ak) (i:Int):VC81 p i (fun r=>r=bb p i):=by
 unfold VC81 bb
 intro hs
 simp only [sm] at hs
 refine ⟨fun x=>0≤x∧x≤p.length∧∀ j:Int,0≤j→j < x→(fun q:ak=>q.Oper == i) (gi p j)=false,fun x=>(p.length - x).toNat,⟨by omega,by omega,fun j h0 h1=>by omega⟩,?_⟩
 rintro x ⟨h0,h1,h2⟩
 refine ⟨fun h=>?_,fun h=>?_⟩
 ·rw [decide_eq_true_eq] at h
  refine ⟨⟨h0,h⟩,fun he=>?_,fun he=>?_⟩
  ·rw [pT (f:=fun q:ak=>q.Oper == i) h0 h he h2]
   dsimp only; omega
  ·rw [wrp (by omega) (by omega)]
   refine ⟨⟨by omega,by omega,fun j j0 j1=>?_⟩,by dsimp only; omega⟩
   by_cases hj:j < x
   ·exact h2 j j0 hj
   ·rw [show j=x by omega]; exact he
 ·rw [decide_eq_false_iff_not] at h
  unfold VC81_J1
  rw [pS (f:=fun q:ak=>q.Oper == i) (fun j j0 j1=>h2 j j0 (by omega))]
theorem kq (p:List ak) (i:Int):(bb p i=-1∧i∉opers p)∨∃ k:Nat,k < p.length∧bb p i=k∧(gi p (k:Int)).Oper=i∧∀ j:Nat,j < k→(gi p (j:Int)).Oper≠i:=by
 unfold bb
 cases h:p.findIdx? (fun q=>q.Oper == i) with
 | none =>
  left
  refine ⟨rfl,?_⟩
  rw [List.findIdx?_eq_none_iff] at h
  unfold opers
  rw [List.mem_map]
  rintro ⟨q,hq,rfl⟩
  have:=h q hq
  simp at this
 | some k =>
  right
  rw [List.findIdx?_eq_some_iff_getElem] at h
  obtain ⟨hk,he,hj⟩:=h
  refine ⟨k,hk,rfl,?_,fun j Dn=>?_⟩
  ·rw [cA _ _ hk]; simpa using he
  ·rw [cA _ _ (by omega)]; simpa using hj j Dn
theorem lH {p:List ak} {i:Int} {t:Nat} (ht:t≤p.length):i∈opers (p.take t)↔∃ k:Nat,k < t∧(gi p (k:Int)).Oper=i:=by
 unfold opers
 rw [List.mem_map]
 constructor
 ·rintro ⟨q,hq,rfl⟩
  obtain ⟨k,hk,rfl⟩:=List.getElem_of_mem hq
  rw [List.length_take] at hk
  exact ⟨k,by omega,by rw [cA _ _ (by omega),List.getElem_take]⟩
 ·rintro ⟨k,hk,rfl⟩
  refine ⟨gi p (k:Int),?_,rfl⟩
  rw [cA _ _ (by omega),List.mem_take_iff_getElem]
  exact ⟨k,by omega,rfl⟩
theorem uS {o:ah} {l:List ae} {p:List ak} {t:Nat} (ht:t < l.length) (h:pI l p t=false):dN o l p=false:=by
 unfold dN
 rw [Bool.and_eq_false_iff]; right
 rw [List.all_eq_false]
 exact ⟨t,by rw [List.mem_range]; exact ht,by rw [h]; decide⟩
theorem v30 (o:ah) (l:List ae) (p:List ak):VC30 o l p (fun r=>r=dN o l p):=by
 unfold VC30
 intro _ hl _
 simp only [sm] at hl
 rintro _ rfl
 refine ⟨fun h=>?_,fun h=>?_⟩
 ·rw [bne_iff_ne] at h
  unfold dN
  rw [Bool.false_eq,Bool.and_eq_false_iff]; left
  rw [decide_eq_false_iff_not]; exact h
 ·rw [bne_eq_false_iff_eq] at h
  refine ⟨fun x=>∃ t:Nat,x=t∧t≤l.length∧∀ y:Nat,y < t→pI l p y=true,fun x=>(l.length - x).toNat,⟨0,rfl,by omega,fun y hy=>by omega⟩,?_⟩
  rintro _ ⟨t,rfl,ht,hy⟩
  refine ⟨fun h2=>?_,fun h2=>?_⟩
  ·rw [decide_eq_true_eq] at h2
   refine ⟨⟨by omega,by omega⟩,?_⟩
   have hw:IntKind.i64.wrap ((t:Int)+1)=((t+1:Nat):Int):=by rw [wrp (by omega) (by omega)]; rfl
   have j3:∀ z,z=(((gi l (t:Int)).End != -1) && decide (bb p t < 0))→VC30_J3 l p (fun r=>r=dN o l p) (fun x=>∃ t:Nat,x=t∧t≤l.length∧∀ y:Nat,y < t→pI l p y=true) (fun x=>(l.length - x).toNat) t z:=by
    intro z hz
    unfold VC30_J3
    refine ⟨fun Pr=>?_,fun Hv=>?_⟩
    ·refine (uS (t:=t) (by omega) ?_).symm
     unfold pI
     rw [← hz,Pr]; rfl
    ·refine ⟨fun x=>∃ u:Nat,x=u∧u≤l.length∧∀ k:Nat,k < u→kT l p t k=true,fun x=>(l.length - x).toNat,⟨0,rfl,by omega,fun y hy=>by omega⟩,?_⟩
     rintro _ ⟨u,rfl,hu,hk⟩
     refine ⟨fun h3=>?_,fun h3=>?_⟩
     ·rw [decide_eq_true_eq] at h3
      rintro _ rfl _ rfl
      refine ⟨⟨by omega,by omega⟩,⟨by omega,by omega⟩,?_⟩
      have Sb:IntKind.i64.wrap ((u:Int)+1)=((u+1:Nat):Int):=by rw [wrp (by omega) (by omega)]; rfl
      have j4:∀ z2,z2=!kT l p t u→VC30_J4 (fun r=>r=dN o l p) (fun x=>∃ u:Nat,x=u∧u≤l.length∧∀ k:Nat,k < u→kT l p t k=true) (fun x=>(l.length - x).toNat) u z2:=by
       intro z2 Ea
       unfold VC30_J4
       refine ⟨fun h5=>?_,fun h5=>?_⟩
       ·refine (uS (t:=t) (by omega) ?_).symm
        unfold pI
        rw [Bool.and_eq_false_iff]; right
        rw [List.all_eq_false]
        refine ⟨u,by rw [List.mem_range]; omega,?_⟩
        rw [h5] at Ea
        simpa using Ea
       ·rw [Sb]
        refine ⟨⟨u+1,rfl,by omega,fun k IP=>?_⟩,by dsimp only; omega⟩
        by_cases sf:k < u
        ·exact hk k sf
        ·have:k=u:=by omega
         subst this
         rw [h5] at Ea
         simpa using Ea
      have WG:(!kT l p t u)=(bG (gi l (t:Int)) (gi l (u:Int)) && decide (bb p u≥0) && (decide (bb p t < 0) || decide (bb p t > bb p u))):=by
       unfold kT; rw [Bool.not_not]
      rintro _ rfl
      refine ⟨fun ha=>j4 _ ?_,fun ha=>j4 _ ?_⟩
      ·have ha:(bG (gi l (t:Int)) (gi l (u:Int)) && decide (bb p u≥0))=true:=ha
       rw [WG,ha]; rfl
      ·have ha:(bG (gi l (t:Int)) (gi l (u:Int)) && decide (bb p u≥0))=false:=ha
       rw [WG,ha]; rfl
     ·rw [decide_eq_false_iff_not] at h3
      have:u=l.length:=by omega
      subst this
      unfold VC30_J2
      rw [hw]
      refine ⟨⟨t+1,rfl,by omega,fun y hy1=>?_⟩,by dsimp only; omega⟩
      by_cases Zc:y < t
      ·exact hy y Zc
      ·have:y=t:=by omega
       subst this
       unfold pI
       rw [← hz,Hv,List.all_eq_true.mpr (fun k IP=>hk k (List.mem_range.mp IP))]; rfl
   refine ⟨fun he=>?_,fun he=>?_⟩
   ·rintro _ rfl
    exact j3 _ (by rw [he]; rfl)
   ·exact j3 _ (by rw [he]; rfl)
  ·rw [decide_eq_false_iff_not] at h2
   have:t=l.length:=by omega
   subst this
   unfold VC30_J1 dN
   rw [h,List.all_eq_true.mpr (fun k IP=>hy k (List.mem_range.mp IP))]; rfl
def nV (order:List Int) (k:Nat):List Int:=(order.take k).reverse
theorem zy (p:List Int):nV p 0=[]:=by simp [nV]
theorem zA {p:List Int} {k:Nat} (h:k < p.length):nV p (k+1)=gi p (k:Int) :: nV p k:=by
 unfold nV
 rw [List.take_succ_eq_append_getElem h,List.reverse_append,cA _ _ h]; rfl
def qA (a:List ak) (r:List ak × Int):List ak × Int:=if r.2≠0 then ([],r.2) else (a++r.1,0)
theorem DB {o:ah} {l:List ae} {p:List Int} {k:Nat} {prev:List Int} {s:Int} (h:k < p.length) :
  fq o l prev s (p.drop k)=if (ca o l prev s (fL o l s (gi p (k:Int)))).2≠0 then ([],(ca o l prev s (fL o l s (gi p (k:Int)))).2) else qA [fL o l s (gi p (k:Int))] (fq o l (gi p (k:Int) :: prev) (ca o l prev s (fL o l s (gi p (k:Int)))).1 (p.drop (k+1))):=by
 rw [iw h,fq]; rfl
theorem Da (a b:List ak) (r:List ak × Int):qA a (qA b r)=qA (a++b) r:=by
 unfold qA
 by_cases h:r.2≠0
 ·rw [if_pos h,if_pos h,if_pos h]
 ·rw [if_neg h,if_neg h,if_neg (by simp)]
  simp
theorem GF (o:ah) (l:List ae) (prev:List Int) (s:Int) (p:List Int) (hr:(fq o l prev s p).2≠0):(fq o l prev s p).1=[]:=by
 cases p with
 | nil=>exact absurd rfl hr
 | cons i is =>
  rw [fq] at hr ⊢
  split at hr
  ·rename_i h2; rw [if_pos h2]
  ·rename_i h2
   rw [if_neg h2]
   split at hr
   ·rename_i h3; rw [if_pos h3]
   ·exact absurd rfl hr
theorem Fl (o:ah) (l:List ae) (prev:List Int) (s:Int) (p:List Int):qA [] (fq o l prev s p)=fq o l prev s p:=by
 unfold qA
 by_cases hr:(fq o l prev s p).2≠0
 ·rw [if_pos hr,← GF o l prev s p hr]
 ·rw [if_neg hr]
  have:(fq o l prev s p).2=0:=by omega
  rw [← this]; simp
theorem xt {o:ah} {l:List ae} {q:ak}:∀ {a:List ak} {prev:List Int} {s:Int},(eK o l prev s a).2.2=0 →
  eK o l prev s (a++[q])=if (ca o l ((a.map (·.Oper)).reverse++prev) (eK o l prev s a).1 q).2≠0 then (0,(a.length:Int),(ca o l ((a.map (·.Oper)).reverse++prev) (eK o l prev s a).1 q).2) else ((ca o l ((a.map (·.Oper)).reverse++prev) (eK o l prev s a).1 q).1,(a.length:Int)+1,0)
 | [],prev,s,_=>by
  simp only [List.nil_append,eK,List.map_nil,List.reverse_nil,List.length_nil]
  by_cases h:(ca o l prev s q).2≠0
  ·rw [if_pos h,if_pos h]; rfl
  ·rw [if_neg h,if_neg h]; rfl
 | p :: a,prev,s,h0=>by
  rw [eK] at h0
  by_cases he:(ca o l prev s p).2≠0
  ·rw [if_pos he] at h0; exact absurd h0 he
  ·rw [if_neg he] at h0
   dsimp only at h0
   have ih:=xt (o:=o) (l:=l) (q:=q) (a:=a) (prev:=p.Oper :: prev) (s:=(ca o l prev s p).1) h0
   rw [List.cons_append,eK,if_neg he,ih,eK,if_neg he]
   dsimp only
   have e:((p :: a).map (·.Oper)).reverse++prev=(a.map (·.Oper)).reverse++(p.Oper :: prev):=by simp
   rw [e]
   split
   ·simp
   ·simp
theorem v29 (o:ah) (l:List ae) (p:List Int) (h:Bn o l p):VC29 o l p (fun r=>r=cV o l p):=by
 have hlen:p.length≤1000000:=h
 unfold VC29 cV
 intro _ hl hp
 simp only [sm] at hl hp
 rintro _ rfl
 simp only [bne_iff_ne,bne_eq_false_iff_eq]
 have Xb:∀ a,gh o o.aU=0→bU o l o.aU a=eK o l [] o.aU a:=fun a hm=>by unfold bU; rw [hm,if_neg (by decide)]
 by_cases hm:gh o o.aU=0
 ·have e0:bU o l o.aU []=(o.aU,0,0):=by rw [Xb _ hm]; rfl
  have er:lF o l p=fq o l [] o.aU p:=by unfold lF; rw [hm,if_neg (by decide)]
  rw [e0,er]
  refine ⟨fun h=>absurd rfl h,fun _=>?_⟩
  simp only [decide_eq_true_eq,decide_eq_false_iff_not]
  refine ⟨fun out st i=>∃ k:Nat,i=k∧k≤p.length∧out.length=k∧out.map (·.Oper)=p.take k∧eK o l [] o.aU out=(st,(k:Int),0)∧qA out (fq o l (nV p k) st (p.drop k))=fq o l [] o.aU p,fun _ _ i=>(p.length - i).toNat,⟨0,rfl,by omega,rfl,by simp,rfl,by rw [zy,List.drop_zero]; exact Fl _ _ _ _ _⟩,?_⟩
  rintro out st _ ⟨k,rfl,hk,Oi,xY,jZ,lk⟩
  refine ⟨fun hi=>?_,fun hi=>?_⟩
  ·have hi:k < p.length:=by omega
   rw [DB hi] at lk
   have PG:(out.map (·.Oper)).reverse++[]=nV p k:=by rw [xY,List.append_nil]; rfl
   have j2:∀ x,x=(fL o l st (gi p (k:Int))).Result→VC29_J2 o l p (fun r=>r=fq o l [] o.aU p) (fun out st i=>∃ k:Nat,i=k∧k≤p.length∧out.length=k∧out.map (·.Oper)=p.take k∧eK o l [] o.aU out=(st,(k:Int),0)∧qA out (fq o l (nV p k) st (p.drop k))=fq o l [] o.aU p) (fun _ _ i=>(p.length - i).toNat) out st k out x:=by
    rintro x hx
    unfold VC29_J2
    rw [show (⟨gi p (k:Int),x⟩:ak)=fL o l st (gi p (k:Int)) by rw [hx]; rfl]
    refine ⟨by simp only [List.length_append,List.length_cons,List.length_nil]; omega,?_⟩
    rintro _ rfl
    have MJ:=xt (o:=o) (l:=l) (q:=fL o l st (gi p (k:Int))) (a:=out) (prev:=[]) (s:=o.aU) (by rw [jZ])
    rw [PG,jZ,Oi] at MJ
    dsimp only at MJ
    rw [Xb _ hm,MJ]
    simp only [bne_iff_ne,bne_eq_false_iff_eq]
    by_cases he:(ca o l (nV p k) st (fL o l st (gi p (k:Int)))).2≠0
    ·rw [if_pos he]
     refine ⟨fun _=>?_,fun h=>absurd h he⟩
     rw [if_pos he] at lk
     rw [← lk]; unfold qA; rw [if_pos he]
    ·rw [if_neg he]
     refine ⟨fun h=>absurd rfl h,fun _=>?_⟩
     rw [if_neg he,Da,← zA hi] at lk
     rw [wrp (by omega) (by omega)]
     refine ⟨⟨k+1,by simp,by omega,by simp [Oi],?_,?_,lk⟩,by omega⟩
     ·rw [List.map_append,xY,List.take_succ_eq_append_getElem hi,cA _ _ hi]; rfl
     ·rw [MJ,if_neg he]; simp
   have jn:¬ (0≤gi p (k:Int)∧gi p (k:Int) < l.length)→VC29_J2 o l p (fun r=>r=fq o l [] o.aU p) (fun out st i=>∃ k:Nat,i=k∧k≤p.length∧out.length=k∧out.map (·.Oper)=p.take k∧eK o l [] o.aU out=(st,(k:Int),0)∧qA out (fq o l (nV p k) st (p.drop k))=fq o l [] o.aU p) (fun _ _ i=>(p.length - i).toNat) out st k out 0:=fun h=>j2 0 (by unfold fL; dsimp only; rw [if_neg h])
   refine ⟨⟨by omega,by omega⟩,⟨by omega,by omega⟩,fun hb=>⟨⟨by omega,by omega⟩,?_⟩,fun hb=>?_⟩
   ·unfold VC29_J3
    rw [decide_eq_true_eq,decide_eq_false_iff_not]
    refine ⟨fun hb2=>⟨⟨by omega,by omega⟩,⟨by omega,by omega⟩,?_⟩,fun hb2=>jn (by omega)⟩
    rintro _ rfl
    refine j2 _ ?_
    unfold fL
    dsimp only
    rw [if_pos ⟨by omega,hb2⟩]
   ·unfold VC29_J3
    exact ⟨(fun h=>by cases h),fun _=>jn (by omega)⟩
  ·have:k=p.length:=by omega
   subst this
   unfold VC29_J1
   rw [← lk,List.drop_length,fq]
   unfold qA; simp
 ·have e0:bU o l o.aU []=(0,-1,gh o o.aU):=by unfold bU; rw [if_pos hm]
  rw [e0]
  refine ⟨fun _=>by unfold lF; rw [if_pos hm],fun h=>absurd h hm⟩
theorem uB {o:ah}:∀ {f i:Nat},i+f=o.Rows.length→(gI o f i).2=0→∀ j:Nat,i≤j→j < o.Rows.length→fV o (j:Int)=0
 | 0,i,h,_,j,h1,h2=>by omega
 | f+1,i,h,h0,j,h1,h2=>by
  rw [gI] at h0
  by_cases he:fV o (i:Int)≠0
  ·rw [if_pos he] at h0; exact absurd h0 he
  ·rw [if_neg he] at h0
   by_cases hj:j=i
   ·subst hj; omega
   ·exact uB (f:=f) (i:=i+1) (by omega) h0 j (by omega) h2
theorem Iq {o:ah} {s k:Int} (hc:(cE o).2=0) (h:(aZ o s k).2.2=true):0≤(aZ o s k).1∧(aZ o s k).1 < o.ab:=by
 unfold cE at hc
 split at hc
 ·cases hc
 ·have IX:=uB (by omega) hc
  unfold aZ at h ⊢
  cases hf:o.Rows.find? (fun r=>r.State == s && r.Kind == k) with
  | none=>rw [hf] at h; cases h
  | some r =>
   have hm:=List.mem_of_find?_eq_some hf
   obtain ⟨j,hj,rfl⟩:=List.getElem_of_mem hm
   have:=IX j (by omega) hj
   unfold fV at this
   rw [cA _ _ hj] at this
   dsimp only
   by_cases hb:o.Rows[j].State < 0∨o.Rows[j].State≥o.ab∨o.Rows[j].Next < 0∨o.Rows[j].Next≥o.ab
   ·rw [if_pos hb] at this; cases this
   ·omega
theorem ym {o:ah} {l:List ae}:∀ {p:List ak} {prev:List Int} {s:Int},(eK o l prev s p).2.2=0→fq o l prev s (p.map (·.Oper))=(p,0)
 | [],_,_,_=>rfl
 | q :: p,prev,s,h=>by
  rw [eK] at h
  by_cases he:(ca o l prev s q).2≠0
  ·rw [if_pos he] at h; exact absurd h he
  ·rw [if_neg he] at h
   dsimp only at h
   have eq:fL o l s q.Oper=q:=by
    unfold ca at he
    by_cases h1:q.Oper < 0∨q.Oper≥l.length
    ·rw [if_pos h1] at he; exact absurd (by decide) he
    ·rw [if_neg h1] at he
     by_cases h2:q.Oper∈prev
     ·rw [if_pos h2] at he; exact absurd (by decide) he
     ·rw [if_neg h2,(sB _ _ _ _).1] at he
      have F8:gY o l s q=0:=by omega
      unfold gY at F8
      by_cases hh:(db o s (gi l q.Oper).Kind q.Result).2=0∧(gi l q.Oper).End≠-1∧(gi l q.Oper).Result≠q.Result
      ·rw [if_pos hh] at F8; cases F8
      ·rw [if_neg hh] at F8
       unfold db at F8
       unfold fL
       rw [if_pos (by omega)]
       split at F8
       ·cases F8
       ·split at F8
        ·cases F8
        ·rename_i h4
         have:(aZ o s (gi l q.Oper).Kind).2.1=q.Result:=by
          apply Classical.byContradiction
          intro hn; exact h4 (Or.inr hn)
         rw [this]
   have ih:=ym (p:=p) h
   rw [List.map_cons,fq,eq,if_neg he,ih,if_neg (fun h=>h rfl)]
theorem xw {o:ah} {l:List ae}:∀ {is:List Int} {prev:List Int} {s:Int},(fq o l prev s is).2=0→(eK o l prev s (fq o l prev s is).1).2.2=0∧(fq o l prev s is).1.map (·.Oper)=is
 | [],_,_,_=>⟨rfl,rfl⟩
 | i :: is,prev,s,h=>by
  rw [fq] at h ⊢
  by_cases he:(ca o l prev s (fL o l s i)).2≠0
  ·rw [if_pos he] at h; exact absurd h he
  ·rw [if_neg he] at h ⊢
   by_cases h2:(fq o l (i :: prev) (ca o l prev s (fL o l s i)).1 is).2≠0
   ·rw [if_pos h2] at h; exact absurd h h2
   ·rw [if_neg h2] at h ⊢
    obtain ⟨g1,g2⟩:=xw (o:=o) (l:=l) (is:=is) (prev:=i :: prev) (s:=(ca o l prev s (fL o l s i)).1) (by omega)
    dsimp only
    rw [eK,if_neg he]
    refine ⟨g1,?_⟩
    rw [List.map_cons,g2]; rfl
theorem E3 {o:ah} {l:List ae}:∀ {p:List ak} {prev:List Int} {s:Int},(eK o l prev s p).2.2=0→(opers p).Nodup∧∀ x∈opers p,0≤x∧x < l.length∧x∉prev
 | [],_,_,_=>⟨List.nodup_nil,fun x hx=>by cases hx⟩
 | q :: p,prev,s,h=>by
  rw [eK] at h
  by_cases he:(ca o l prev s q).2≠0
  ·rw [if_pos he] at h; exact absurd h he
  ·rw [if_neg he] at h
   obtain ⟨i1,i2⟩:=E3 (p:=p) h
   have hin:¬ (q.Oper < 0∨q.Oper≥l.length)∧q.Oper∉prev:=by
    unfold ca at he
    by_cases h1:q.Oper < 0∨q.Oper≥l.length
    ·rw [if_pos h1] at he; exact absurd (by decide) he
    ·rw [if_neg h1] at he
     refine ⟨h1,fun h2=>?_⟩
     rw [if_pos h2] at he; exact absurd (by decide) he
   have e:opers (q :: p)=q.Oper :: opers p:=rfl
   rw [e,List.nodup_cons]
   refine ⟨⟨fun hm=>?_,i1⟩,fun x hx=>?_⟩
   ·exact (i2 _ hm).2.2 (List.mem_cons_self ..)
   ·rcases List.mem_cons.mp hx with rfl | hx
    ·exact ⟨by omega,by omega,hin.2⟩
    ·obtain ⟨a,b,c⟩:=i2 x hx
     exact ⟨a,b,fun hp=>c (List.mem_cons_of_mem _ hp)⟩
theorem uO (n:Nat):∀ (S:List Int),S.Nodup→(∀ x∈S,0≤x∧x < n)→((List.range n).filter (fun i:Nat=>!decide ((i:Int)∈S))).length+S.length=n
 | [],_,_=>by simp; rw [List.filter_eq_self.mpr (fun _ _=>rfl),List.length_range]
 | a :: S,hn,hr=>by
  have ih:=uO n S (List.nodup_cons.mp hn).2 (fun x hx=>hr x (List.mem_cons_of_mem _ hx))
  obtain ⟨h0,h1⟩:=hr a (List.mem_cons_self ..)
  have hF:((List.range n).filter (fun i:Nat=>!decide ((i:Int)∈S))).Nodup:=List.Pairwise.filter _ List.nodup_range
  have hm:a.toNat∈(List.range n).filter (fun i:Nat=>!decide ((i:Int)∈S)):=by
   rw [List.mem_filter,List.mem_range]
   refine ⟨by omega,?_⟩
   have:(a.toNat:Int)=a:=by omega
   simp [this,(List.nodup_cons.mp hn).1]
  have he:(List.range n).filter (fun i:Nat=>!decide ((i:Int)∈a :: S))=((List.range n).filter (fun i:Nat=>!decide ((i:Int)∈S))).erase a.toNat:=by
   rw [hF.erase_eq_filter,List.filter_filter]
   congr 1
   funext i
   rw [Bool.eq_iff_iff]
   simp only [Bool.not_eq_true',decide_eq_false_iff_not,List.mem_cons,Bool.and_eq_true,bne_iff_ne]
   constructor
   ·intro h; exact ⟨fun h2=>h (Or.inl (by omega)),fun h2=>h (Or.inr h2)⟩
   ·rintro ⟨h2,h3⟩ (h4 | h4)
    ·exact h2 (by omega)
    ·exact h3 h4
  have ud:=List.length_pos_of_mem hm
  rw [he,List.length_erase_of_mem hm,List.length_cons]
  omega
theorem kR {l:List ae} {p:List ak} {m:Int}:m∈fD l p↔0≤m∧m < l.length∧(gi l m).End≠-1∧m∉opers p:=by
 unfold fD nP A9 BK
 rw [List.mem_map]
 constructor
 ·rintro ⟨i,hi,rfl⟩
  rw [List.mem_filter,List.mem_range] at hi
  obtain ⟨h1,h2⟩:=hi
  simp only [Bool.and_eq_true,beq_iff_eq,beq_eq_false_iff_ne,Bool.not_eq_true',decide_eq_false_iff_not] at h2
  exact ⟨by omega,by omega,h2.1,h2.2⟩
 ·rintro ⟨h0,h1,h2,h3⟩
  refine ⟨m.toNat,?_,by omega⟩
  have e:(m.toNat:Int)=m:=by omega
  rw [List.mem_filter,List.mem_range,e]
  refine ⟨by omega,?_⟩
  simp only [Bool.and_eq_true,beq_iff_eq,beq_eq_false_iff_ne,Bool.not_eq_true',decide_eq_false_iff_not]
  exact ⟨h2,h3⟩
theorem C9 {l:List ae} {p:List ak} (h:¬ fK l p≥0):∀ y:Nat,y < p.length→ik l p y=false:=by
 unfold fK vZ at h
 cases hf:(List.range p.length).find? (ik l p) with
 | none =>
  rw [List.find?_eq_none] at hf
  intro y hy
  have:=hf y (List.mem_range.mpr hy)
  simpa using this
 | some x=>rw [hf] at h; exact absurd (by dsimp only; omega) h
theorem Aa {o:ah} {l:List ae} {p:List ak}:gg o l p=true↔(bq o).2=0∧(bp l).2=0∧(fE o l p).2.2=0∧(∀ y:Nat,y < p.length→ik l p y=false)∧∀ m,m∉fD l p:=by
 unfold gg
 rw [beq_iff_eq]
 unfold nQ
 by_cases h1:(bq o).2≠0∨(bp l).2≠0
 ·rw [if_pos h1]
  exact ⟨(fun h=>by cases h),fun h=>by omega⟩
 ·rw [if_neg h1]
  by_cases h2:(fE o l p).2.2≠0
  ·rw [if_pos h2]
   exact ⟨fun h=>absurd h h2,fun h=>absurd h.2.2.1 h2⟩
  ·rw [if_neg h2]
   by_cases h3:fK l p≥0
   ·rw [if_pos h3]
    refine ⟨(fun h=>by cases h),fun h=>?_⟩
    rw [Fg h.2.2.2.1] at h3
    exact absurd h3 (by decide)
   ·rw [if_neg h3]
    by_cases h4:(fD l p).length > 0
    ·rw [if_pos h4]
     refine ⟨(fun h=>by cases h),fun h=>?_⟩
     exact absurd (List.getElem_mem h4) (h.2.2.2.2 _)
    ·rw [if_neg h4]
     refine ⟨fun _=>⟨by omega,by omega,by omega,C9 h3,fun m hm=>h4 (List.length_pos_of_mem hm)⟩,fun _=>rfl⟩
theorem sW {o:ah} {l:List ae} {p:List ak} (h:(fE o l p).2.2=0):(opers p).Nodup∧∀ x∈opers p,0≤x∧x < l.length:=by
 unfold fE bU at h
 split at h
 ·rename_i hm; exact absurd h hm
 ·have:=E3 h
  exact ⟨this.1,fun x hx=>⟨(this.2 x hx).1,(this.2 x hx).2.1⟩⟩
theorem qw {p:List ak} {i:Int}:bb p i≥0↔i∈opers p:=by
 have hm:=lH (p:=p) (i:=i) (Nat.le_refl _)
 rw [List.take_length] at hm
 rcases kq p i with ⟨h1,h2⟩ | ⟨k,h1,h2,h3,_⟩
 ·rw [h1]; exact ⟨fun h=>absurd h (by decide),fun h=>absurd h h2⟩
 ·rw [h2,hm]; exact ⟨fun _=>⟨k,h1,h3⟩,fun _=>by omega⟩
theorem DT {l:List ae} (h:(bp l).2=0) {i:Int} (h0:0≤i) (h1:i < l.length):bG (gi l i) (gi l i)=false:=by
 have hl:=DH h
 unfold bp at h
 rw [if_neg (by omega)] at h
 have ha:=(tH l l.length [] [] 0 (by omega) h i.toNat (by omega) (by omega)).1
 have e:(i.toNat:Int)=i:=by omega
 rw [e] at ha
 unfold dY at ha
 unfold bG
 split at ha
 ·cases ha
 ·split at ha
  ·cases ha
  ·split at ha
   ·cases ha
   ·rename_i _ _ he
    have he:eG (gi l i)=true:=by simpa using he
    unfold eG at he
    rw [Bool.and_eq_false_iff,decide_eq_false_iff_not,decide_eq_false_iff_not]
    split at he
    ·left; omega
    ·simp only [Bool.and_eq_true,decide_eq_true_eq] at he
     right; omega
theorem BH {o:ah} {l:List ae} {p:List ak}:dN o l p=true↔(fE o l p).2.2=0∧∀ i:Nat,i < l.length→((gi l (i:Int)).End≠-1→bb p i≥0)∧∀ k:Nat,k < l.length→bG (gi l (i:Int)) (gi l (k:Int))=true→bb p k≥0→bb p i≥0∧bb p i≤bb p k:=by
 unfold dN
 rw [Bool.and_eq_true,decide_eq_true_eq,List.all_eq_true]
 have e:∀ i,pI l p i=true↔((gi l (i:Int)).End≠-1→bb p i≥0)∧∀ k:Nat,k < l.length→bG (gi l (i:Int)) (gi l (k:Int))=true→bb p k≥0→bb p i≥0∧bb p i≤bb p k:=by
  intro i
  unfold pI
  rw [Bool.and_eq_true,List.all_eq_true]
  have a1:(!(((gi l (i:Int)).End != -1) && decide (bb p i < 0)))=true↔((gi l (i:Int)).End≠-1→bb p i≥0):=by
   rw [Bool.not_eq_true',Bool.and_eq_false_iff,bne_eq_false_iff_eq,decide_eq_false_iff_not]
   omega
  rw [a1]
  refine and_congr Iff.rfl ⟨fun h k hk ha hp=>?_,fun h k hk=>?_⟩
  ·have:=h k (List.mem_range.mpr hk)
   unfold kT at this
   rw [ha,Bool.not_eq_true',Bool.true_and,Bool.and_eq_false_iff,decide_eq_false_iff_not,Bool.or_eq_false_iff,decide_eq_false_iff_not,decide_eq_false_iff_not] at this
   omega
  ·unfold kT
   rw [Bool.not_eq_true',Bool.and_eq_false_iff,Bool.and_eq_false_iff,decide_eq_false_iff_not,Bool.or_eq_false_iff,decide_eq_false_iff_not,decide_eq_false_iff_not]
   cases ha:bG (gi l (i:Int)) (gi l (k:Int)) with
   | false=>exact Or.inl (Or.inl rfl)
   | true =>
    have:=h k (List.mem_range.mp hk) ha
    by_cases hp:bb p k≥0
    ·have:=this hp; right; omega
    ·exact Or.inl (Or.inr hp)
 constructor
 ·rintro ⟨h1,h2⟩
  exact ⟨h1,fun i hi=>(e i).mp (h2 i (List.mem_range.mpr hi))⟩
 ·rintro ⟨h1,h2⟩
  exact ⟨h1,fun i hi=>(e i).mpr (h2 i (List.mem_range.mp hi))⟩
theorem My {o:ah} {l:List ae} {p:List ak} (hc:(bq o).2=0) (hl:(bp l).2=0):gg o l p=dN o l p:=by
 rw [Bool.eq_iff_iff,Aa,BH]
 constructor
 ·rintro ⟨-,-,jZ,IJ,Uh⟩
  refine ⟨jZ,fun i hi=>⟨fun he=>?_,fun k hk ha hp=>?_⟩⟩
  ·rw [ge_iff_le,← ge_iff_le,qw]
   apply Classical.byContradiction
   intro hn
   exact Uh i (kR.mpr ⟨by omega,by omega,he,hn⟩)
  ·rcases kq p (k:Int) with ⟨h1,_⟩ | ⟨x,h1,h2,h3,_⟩
   ·omega
   ·have hb:=IJ x h1
    have Ae:(i:Int)∈opers (p.take x):=by
     apply Classical.byContradiction
     intro hn
     rw [G4 (k:=i) (by rw [h3]; omega) hi (by rw [h3]; exact ha) hn] at hb
     cases hb
    obtain ⟨j,hj,Sp⟩:=(lH (by omega)).mp Ae
    rcases kq p (i:Int) with ⟨g1,g2⟩ | ⟨y,g1,g2,g3,g4⟩
    ·exfalso
     apply g2
     have:=(lH (p:=p) (i:=(i:Int)) (Nat.le_refl _)).mpr ⟨j,by omega,Sp⟩
     rwa [List.take_length] at this
    ·have:¬ j < y:=fun h=>g4 j h Sp
     omega
 ·rintro ⟨jZ,h⟩
  obtain ⟨MM,hin⟩:=sW jZ
  refine ⟨hc,hl,jZ,fun x hx=>G5 (fun k hk hh=>?_),fun m hm=>?_⟩
  ·obtain ⟨ha,hn⟩:=hh
   have Wv:(gi p (x:Int)).Oper∈opers p:=by
    have:=(lH (p:=p) (i:=(gi p (x:Int)).Oper) (Nat.le_refl _)).mpr ⟨x,hx,rfl⟩
    rwa [List.take_length] at this
   have hr:=hin _ Wv
   have e:(((gi p (x:Int)).Oper.toNat:Nat):Int)=(gi p (x:Int)).Oper:=by omega
   have Ad:=qw.mpr Wv
   have h2:=(h k hk).2 (gi p (x:Int)).Oper.toNat (by omega) (by rw [e]; exact ha) (by rw [e]; exact Ad)
   rw [e] at h2
   rcases kq p (gi p (x:Int)).Oper with ⟨g1,_⟩ | ⟨y,g1,g2,g3,g4⟩
   ·omega
   ·have hyx:¬ x < y:=fun hh=>g4 x hh rfl
    rcases kq p (k:Int) with ⟨f1,_⟩ | ⟨z,f1,f2,f3,f4⟩
    ·omega
    ·by_cases Y9:z < x
     ·exact hn ((lH (by omega)).mpr ⟨z,Y9,f3⟩)
     ·have:z=y:=by omega
      subst this
      rw [f3] at g3
      rw [← g3] at ha
      rw [DT hl (by omega) (by omega)] at ha
      cases ha
  ·obtain ⟨h0,h1,h2,h3⟩:=kR.mp hm
   have e:((m.toNat:Nat):Int)=m:=by omega
   have:=(h m.toNat (by omega)).1 (by rw [e]; exact h2)
   rw [e] at this
   exact h3 (qw.mp this)
theorem nu {α:Type} [Inhabited α] {l:List α} {i:Int} (h0:0≤i) (h:i < l.length):l.take (i+1).toNat=l.take i.toNat++[gi l i]:=by
 obtain ⟨k,rfl⟩:=Int.eq_ofNat_of_zero_le h0
 rw [show ((k:Int)+1).toNat=k+1 by omega,show ((k:Int)).toNat=k by omega,List.take_succ]
 have hk:k < l.length:=by omega
 rw [List.getElem?_eq_getElem hk,cA l k hk]; rfl
theorem gS {α:Type} [Inhabited α] {l:List α} {i:Int} (h0:0≤i) (h:i < l.length):gi l i∈l:=by
 rw [pN h0 h]; exact List.getElem_mem _
def uN (l:List ae):List Int→List ak→Prop
 | _,[]=>True
 | prev,p :: ps=>(∀ k:Nat,k < l.length→bG (gi l (k:Int)) (gi l p.Oper)=true→(k:Int)∈prev)∧uN l (p.Oper :: prev) ps
theorem Bw {l:List ae}:∀ (ps:List ak) (prev:List Int),uN l prev ps↔∀ x:Nat,x < ps.length→∀ k:Nat,k < l.length→bG (gi l (k:Int)) (gi l (gi ps (x:Int)).Oper)=true→(k:Int)∈prev∨(k:Int)∈opers (ps.take x)
 | [],prev=>by simp [uN]
 | p :: ps,prev=>by
  unfold uN
  rw [Bw ps (p.Oper :: prev)]
  constructor
  ·rintro ⟨h1,h2⟩ x hx k hk ha
   cases x with
   | zero=>exact .inl (h1 k hk ha)
   | succ x =>
    have e:gi (p :: ps) ((x+1:Nat):Int)=gi ps (x:Int):=rfl
    rw [e] at ha
    rcases h2 x (by simpa using hx) k hk ha with h | h
    ·rcases List.mem_cons.1 h with h | h
     ·right; rw [List.take_succ_cons]; exact List.mem_cons.2 (.inl h)
     ·exact .inl h
    ·right; rw [List.take_succ_cons]; exact List.mem_cons.2 (.inr h)
  ·intro h
   refine ⟨fun k hk ha=>?_,fun x hx k hk ha=>?_⟩
   ·rcases h 0 (by simp) k hk ha with h | h
    ·exact h
    ·cases h
   ·rcases h (x+1) (by simpa using hx) k hk ha with h | h
    ·exact .inl (List.mem_cons_of_mem _ h)
    ·rw [List.take_succ_cons] at h
     rcases List.mem_cons.1 h with h | h
     ·exact .inl (List.mem_cons.2 (.inl h))
     ·exact .inr h
theorem wk {o:ah} (hc:(bq o).2=0):gh o o.aU=0∧0≤o.aU∧o.aU < o.ab:=by
 have h:0≤o.aU∧o.aU < o.ab:=by
  unfold bq cE at hc
  split at hc
  ·cases hc
  ·rename_i hh; unfold jb at hh; omega
 refine ⟨?_,h⟩
 unfold gh
 have Gt:(cE o).2=0:=hc
 simp only [hc,Gt]
 simp; omega
def lev (n:Nat):Nat→List (List Int)
 | 0=>[[]]
 | k+1=>grow n (lev n k)
theorem Dg:((List.range 6).all fun n=>(List.range 8).all fun k=>decide ((lev n k).length≤1000) && (lev n k).all fun x=>decide (x.length≤10))=true:=by decide +kernel
theorem Iw:((List.range 6).all fun n=>decide (lev n (n+1)=[]))=true:=by decide +kernel
theorem FM {n k:Nat} (hn:n≤5) (hk:k≤7):(lev n k).length≤1000∧∀ x∈lev n k,x.length≤10:=by
 have h:=Dg
 rw [List.all_eq_true] at h
 have h:=h n (List.mem_range.2 (by omega))
 rw [List.all_eq_true] at h
 have h:=h k (List.mem_range.2 (by omega))
 rw [Bool.and_eq_true,decide_eq_true_eq,List.all_eq_true] at h
 exact ⟨h.1,fun x hx=>of_decide_eq_true (h.2 x hx)⟩
theorem Iv {n:Nat} (hn:n≤5):lev n (n+1)=[]:=by
 have h:=Iw
 rw [List.all_eq_true] at h
 exact of_decide_eq_true (h n (List.mem_range.2 (by omega)))
def my (x:List Int) (k:Nat):List (List Int):=((List.range k).filter fun k:Nat=>!decide ((k:Int)∈x)).map fun k:Nat=>x++[(k:Int)]
theorem zm (x:List Int) (k:Nat):my x (k+1)=my x k++(if decide ((k:Int)∈x) then [] else [x++[(k:Int)]]):=by
 unfold my
 rw [List.range_succ,List.filter_append,List.map_append]
 congr 1
 by_cases h:(k:Int)∈x
 ·simp [h]
 ·simp [h]
theorem xx (x:List Int) (k:Nat):(my x k).length≤k:=by
 unfold my
 rw [List.length_map]
 exact Nat.le_trans (List.length_filter_le _ _) (by simp)
theorem mq {α β:Type} {f:α→List β} {c:Nat} (h:∀ x,(f x).length≤c):∀ L:List α,(L.flatMap f).length≤L.length * c
 | []=>by simp
 | x :: L=>by
  have:=mq h L
  have:=h x
  rw [List.flatMap_cons,List.length_append,List.length_cons,Nat.add_mul]
  omega
theorem ye (n:Nat) (L:List (List Int)):grow (n:Int) L=L.flatMap fun x=>my x n:=rfl
theorem v28 (n:Int) (hp:Bo n):VC28 n (fun r=>r=da n):=by
 obtain ⟨n0,n5⟩:=hp
 obtain ⟨m,rfl⟩:=Int.eq_ofNat_of_zero_le n0
 have hO:da (m:Int)=[[]]++iZ m (m+1) [[]]:=rfl
 rw [hO]
 generalize hR:[[]]++iZ (m:Int) (m+1) [[]]=R
 refine ⟨fun out last=>∃ k:Nat,k≤m+1∧last=lev m k∧out.length≤1+1000 * k∧out++iZ m (m+1 - k) last=R,fun out last=>2 * (10000 - out.length)+(if last=[] then 0 else 1),⟨0,by omega,rfl,by simp,by simpa using hR⟩,?_⟩
 rintro out last ⟨k,hk,Si,Oi,lk⟩
 obtain ⟨L1,L2⟩:=FM (n:=m) (k:=k) (by omega) (by omega)
 rw [← Si] at L1 L2
 refine ⟨fun h=>?_,fun h=>?_⟩
 ·have h:=of_decide_eq_true h
  have hne:last≠[]:=by rintro rfl; simp at h
  have hkm:k≤m:=by
   apply Classical.byContradiction
   intro hh
   have:k=m+1:=by omega
   subst this
   rw [Iv (by omega)] at Si
   exact hne Si
  refine ⟨fun o' next i=>out=o'∧0≤i∧i≤last.length∧next=(last.take i.toNat).flatMap fun x=>my x m,fun _ _ i=>(last.length - i).toNat,⟨rfl,by omega,by omega,by simp⟩,?_⟩
  rintro _ next i ⟨rfl,i0,i1,BX⟩
  refine ⟨fun hi=>?_,fun hi=>?_⟩
  ·have hi:=of_decide_eq_true hi
   have P8:=mq (f:=fun x=>my x m) (c:=5) (fun x=>Nat.le_trans (xx x m) (by omega)) (last.take i.toNat)
   rw [List.length_take] at P8
   have Zf:=L2 _ (gS i0 hi)
   have Kh:=nu i0 hi
   generalize Zd:gi last i=x at *
   refine ⟨fun o' nx k2=>out=o'∧0≤k2∧k2≤m∧nx=((last.take i.toNat).flatMap fun x=>my x m)++my x k2.toNat,fun _ _ k2=>(m - k2).toNat,⟨rfl,by omega,by omega,by rw [BX]; simp [my]⟩,?_⟩
   rintro _ nx k2 ⟨rfl,k0,k1,PR⟩
   refine ⟨fun sf=>?_,fun sf=>?_⟩
   ·have sf:=of_decide_eq_true sf
    refine ⟨fun o' n2 sh j=>out=o'∧nx=n2∧0≤j∧j≤x.length∧sh=decide (k2∈x.take j.toNat),fun _ _ _ j=>(x.length - j).toNat,⟨rfl,rfl,by omega,by omega,by simp⟩,?_⟩
    rintro _ _ sh j ⟨rfl,rfl,j0,j1,Dq⟩
    refine ⟨⟨i0,hi⟩,?_⟩
    intro _
    refine ⟨fun hj=>?_,fun hj=>?_⟩
    ·have hj:=of_decide_eq_true hj
     have Zm:=nu j0 hj
     have em:decide (k2∈x.take (j+1).toNat)=(sh || gi x j == k2):=by
      rw [Zm,Dq,Bool.eq_iff_iff]
      simp only [List.mem_append,List.mem_singleton,decide_eq_true_eq,Bool.or_eq_true,beq_iff_eq]
      constructor
      ·rintro (h | h)
       ·exact .inl h
       ·exact .inr h.symm
      ·rintro (h | h)
       ·exact .inl h
       ·exact .inr h.symm
     unfold VC28_J6
     rw [wrp (by omega) (by omega)]
     refine ⟨fun hb=>?_,fun hb=>⟨⟨i0,hi⟩,fun _=>⟨⟨j0,hj⟩,?_⟩⟩⟩
     ·exact ⟨⟨rfl,rfl,by omega,by omega,by rw [em,hb]; rfl⟩,by first | omega | (dsimp only; omega)⟩
     ·exact ⟨⟨rfl,rfl,by omega,by omega,by rw [em,hb]; rfl⟩,by first | omega | (dsimp only; omega)⟩
    ·have hj:=of_decide_eq_false hj
     rw [List.take_of_length_le (by omega)] at Dq
     obtain ⟨q,rfl⟩:=Int.eq_ofNat_of_zero_le k0
     have Sd:=zm x q
     have Zq:=xx x q
     rw [show ((q:Nat):Int).toNat=q by omega] at PR
     have ZE:nx.length≤10000:=by rw [PR,List.length_append]; omega
     unfold VC28_J5 VC28_J4
     simp only [Zd]
     rw [wrp (by omega) (by omega)]
     refine ⟨fun hb=>⟨⟨i0,hi⟩,fun _=>⟨by simp; omega,by simp; omega,by simp; omega,?_⟩⟩,fun hb=>?_⟩
     ·rw [Bool.not_eq_true'] at hb
      rw [hb] at Dq
      rw [← Dq,if_neg (by simp)] at Sd
      exact ⟨⟨trivial,by omega,by omega,by rw [show (((q:Nat):Int)+1).toNat=q+1 by omega,Sd,PR]; simp⟩,by first | omega | (dsimp only; omega)⟩
     ·rw [Bool.not_eq_false'] at hb
      rw [hb] at Dq
      rw [← Dq,if_pos rfl,List.append_nil] at Sd
      exact ⟨⟨trivial,by omega,by omega,by rw [show (((q:Nat):Int)+1).toNat=q+1 by omega,Sd,PR]⟩,by first | omega | (dsimp only; omega)⟩
   ·have sf:=of_decide_eq_false sf
    have:k2.toNat=m:=by omega
    unfold VC28_J3
    rw [wrp (by omega) (by omega)]
    exact ⟨⟨rfl,by omega,by omega,by rw [Kh,PR,this]; simp⟩,by first | omega | (dsimp only; omega)⟩
  ·have hi:=of_decide_eq_false hi
   have e:i.toNat=last.length:=by omega
   rw [e,List.take_length,← ye] at BX
   have WE:next=lev m (k+1):=by rw [BX,Si]; rfl
   obtain ⟨M1,_⟩:=FM (n:=m) (k:=k+1) (by omega) (by omega)
   rw [← WE] at M1
   have Ut:iZ (m:Int) (m+1 - k) last=next++iZ m (m+1 - (k+1)) next:=by
    rw [show m+1 - k=(m+1 - (k+1))+1 by omega]
    show (if last=[] then [] else _)=_
    rw [if_neg hne,BX]
   unfold VC28_J2
   refine ⟨by omega,⟨k+1,by omega,WE,by rw [List.length_append]; omega,by rw [List.append_assoc,← Ut]; exact lk⟩,?_⟩
   dsimp only
   rw [List.length_append,if_neg hne]
   by_cases wY:next=[]
   ·rw [if_pos wY,wY]; simp
   ·rw [if_neg wY]
    have:0 < next.length:=List.length_pos_iff.2 wY
    omega
 ·have h:=of_decide_eq_false h
  have:last=[]:=List.length_eq_zero_iff.1 (by omega)
  rw [this] at lk
  unfold VC28_J1
  rw [← lk]
  have:∀ f,iZ (m:Int) f []=[]:=fun f=>by cases f <;> simp [iZ]
  rw [this,List.append_nil]
theorem vY:((List.range 6).all fun n=>decide ((da (n:Int)).length≤1000) && (da (n:Int)).all fun x=>decide (x.length≤10))=true:=by decide +kernel
theorem uL {n:Nat} (hn:n≤5):(da (n:Int)).length≤1000∧∀ x∈da (n:Int),x.length≤10:=by
 have h:=vY
 rw [List.all_eq_true] at h
 have h:=h n (List.mem_range.2 (by omega))
 rw [Bool.and_eq_true,decide_eq_true_eq,List.all_eq_true] at h
 exact ⟨h.1,fun x hx=>of_decide_eq_true (h.2 x hx)⟩
theorem v8 (o:ah) (l:List ae) (hp:Bt o l):VC8 o l (fun r=>r=bM o l):=by
 have hp:l.length≤5:=hp
 intro _ _
 refine ⟨⟨by omega,by omega⟩,?_⟩
 rintro _ rfl
 intro _
 obtain ⟨q1,q2⟩:=uL hp
 unfold bM
 generalize da (l.length:Int)=R at *
 refine ⟨fun out i=>0≤i∧i≤R.length∧out=(R.take i.toNat).filterMap (nY o l),fun _ i=>(R.length - i).toNat,⟨by omega,by omega,by simp⟩,?_⟩
 rintro out i ⟨i0,i1,ho⟩
 refine ⟨fun hi=>?_,fun hi=>?_⟩
 ·have hi:=of_decide_eq_true hi
  have hx:=q2 _ (gS i0 hi)
  have Kh:=nu i0 hi
  have Oi:out.length≤1000:=by
   rw [ho]; refine Nat.le_trans (List.length_filterMap_le _ _) ?_
   rw [List.length_take]; omega
  refine ⟨⟨i0,hi⟩,fun _=>⟨by show (gi R i).length≤1000000; omega,?_⟩⟩
  rintro _ rfl
  intro _
  have fin:∀ b,b=decide ((cV o l (gi R i)).2=0∧dN o l (cV o l (gi R i)).1=true)→VC8_J3 (fun out i=>0≤i∧i≤R.length∧out=(R.take i.toNat).filterMap (nY o l)) (fun _ i=>(R.length - i).toNat) out i (cV o l (gi R i)) out b:=by
   intro b hb
   unfold VC8_J3 VC8_J2
   rw [wrp (by omega) (by omega)]
   refine ⟨fun h=>⟨by simp; omega,⟨by omega,by omega,?_⟩,by first | omega | (dsimp only; omega)⟩,fun h=>⟨⟨by omega,by omega,?_⟩,by first | omega | (dsimp only; omega)⟩⟩
   ·rw [h] at hb
    have hb:=of_decide_eq_true hb.symm
    have e:nY o l (gi R i)=some (cV o l (gi R i)).1:=by unfold nY; rw [if_pos hb]
    rw [Kh,List.filterMap_append,ho]
    congr 1
    rw [List.filterMap_cons_some e]; rfl
   ·rw [h] at hb
    have hb:=of_decide_eq_false hb.symm
    have e:nY o l (gi R i)=none:=by unfold nY; rw [if_neg hb]
    rw [Kh,List.filterMap_append,ho,List.filterMap_cons_none e]; simp
  refine ⟨fun h=>?_,fun h=>?_⟩
  ·rintro _ rfl
   refine fin _ ?_
   have h:(cV o l (gi R i)).2=0:=by simpa using h
   simp [h]
  ·refine fin _ ?_
   have h:¬ (cV o l (gi R i)).2=0:=by simpa using h
   simp [h]
 ·have hi:=of_decide_eq_false hi
  rw [List.take_of_length_le (by omega)] at ho
  exact ho
theorem GB {n:Nat} {L:List (List Int)} {y:List Int}:y∈grow (n:Int) L↔∃ x∈L,∃ k:Nat,k < n∧(k:Int)∉x∧y=x++[(k:Int)]:=by
 rw [ye,List.mem_flatMap]
 refine exists_congr fun x=>and_congr Iff.rfl ?_
 unfold my
 rw [List.mem_map]
 constructor
 ·rintro ⟨k,hk,rfl⟩
  obtain ⟨h1,h2⟩:=List.mem_filter.1 hk
  exact ⟨k,List.mem_range.1 h1,by simpa using h2,rfl⟩
 ·rintro ⟨k,h1,h2,rfl⟩
  exact ⟨k,List.mem_filter.2 ⟨List.mem_range.2 h1,by simpa using h2⟩,rfl⟩
theorem BJ {n:Nat}:∀ (k:Nat) (y:List Int),y.length=k→y.Nodup→(∀ i∈y,0≤i∧i < n)→y∈lev n k
 | 0,y,h,_,_=>by
  obtain rfl:=List.length_eq_zero_iff.1 h
  simp [lev]
 | k+1,y,h,hn,hr=>by
  rcases List.eq_nil_or_concat y with e | ⟨x,a,e⟩
  ·subst e; simp at h
  ·rw [List.concat_eq_append] at e
   subst e
   rw [List.nodup_append] at hn
   have ih:=BJ k x (by simpa using h) hn.1 (fun i hi=>hr i (by simp [hi]))
   have ha:=hr a (by simp)
   refine GB.2 ⟨x,ih,a.toNat,by omega,?_,?_⟩
   ·rw [show ((a.toNat:Nat):Int)=a by omega]
    intro hm
    exact hn.2.2 a hm a (by simp) rfl
   ·rw [show ((a.toNat:Nat):Int)=a by omega]
theorem zG:((List.range 6).all fun n=>(List.range 6).all fun k=>(lev n k).all fun x=>(da (n:Int)).contains x)=true:=by decide +kernel
theorem zH {n:Nat} (hn:n≤5) {y:List Int} (hd:y.Nodup) (hr:∀ i∈y,0≤i∧i < n):y∈da (n:Int):=by
 have h:=zG
 rw [List.all_eq_true] at h
 have h:=h n (List.mem_range.2 (by omega))
 rw [List.all_eq_true] at h
 have hc:=uO n y hd hr
 have h:=h y.length (List.mem_range.2 (by omega))
 rw [List.all_eq_true] at h
 have:=h y (BJ y.length y rfl hd hr)
 simpa using this
theorem zN {o:ah} {l:List ae} {y:List Int} {x:List ak} (h:nY o l y=some x):opers x=y∧dN o l x=true:=by
 unfold nY at h
 split at h
 ·rename_i hh
  obtain rfl:=Option.some.inj h
  refine ⟨?_,hh.2⟩
  have h1:=hh.1
  unfold cV lF at h1 ⊢
  split at h1
  ·rename_i hm; exact absurd h1 hm
  ·rename_i hm; rw [if_neg hm]; exact (xw h1).2
 ·cases h
theorem Jw {o:ah} {l:List ae} (hc:(bq o).2=0) (hl:(bp l).2=0) (h5:l.length≤5) {x:List ak}:x∈bM o l↔gg o l x=true:=by
 unfold bM
 rw [List.mem_filterMap,My hc hl]
 constructor
 ·rintro ⟨y,_,h⟩; exact (zN h).2
 ·intro h
  obtain ⟨hm,_,_⟩:=wk hc
  have hr:=(BH.1 h).1
  obtain ⟨p1,p2⟩:=sW hr
  refine ⟨opers x,zH h5 p1 p2,?_⟩
  have er:fE o l x=eK o l [] o.aU x:=by unfold fE bU; rw [hm,if_neg (by decide)]
  rw [er] at hr
  have hf:cV o l (opers x)=(x,0):=by
   unfold cV lF
   rw [if_neg (by omega)]
   exact ym hr
  unfold nY
  rw [hf,if_pos ⟨rfl,h⟩]
theorem v59 (s:aa):VC59 s (fun r=>r=ao s):=by
 simp only [VC59,ao,kN,Bool.or_eq_true,decide_eq_true_eq,Bool.or_eq_false_iff,decide_eq_false_iff_not]
 constructor <;> intro h
 ·rw [if_pos (by omega)]
 ·rw [if_neg (by omega)]
theorem v73 (s:aa) (k:Int):VC73 s k (fun r=>r=bN s k):=by
 simp only [VC73,bN,beq_iff_eq,beq_eq_false_iff_ne]
 refine ⟨fun h=>by rw [if_pos h],fun h=>⟨fun h2=>by rw [if_neg h,if_pos h2],fun h2=>by rw [if_neg h,if_neg h2]⟩⟩
theorem fb {o s:Int} (h:kN o s=0):0≤o∧o≤64∧1≤s∧s≤32:=by
 unfold kN at h; split at h <;> omega
theorem yE {s:aa} (h:ao s=0) (k:Int):bN s k=(base s k,wide s k,tW s k):=by
 obtain ⟨h0,h1,h2,h3⟩:=fb h
 have hm:=pA h0 h1 h0 h1
 unfold bN base wide tW
 split
 ·rfl
 ·split
  ·rw [wrp (by omega) (by omega)]
  ·rw [wrp (n:=s.Ops * s.Ops) (by omega) (by omega),wrp (by omega) (by omega),wrp (by omega) (by omega)]
theorem v25 (s:aa):VC25 s (fun r=>r=aw s):=by
 unfold VC25
 intro r hr
 subst hr
 refine ⟨fun h=>?_,fun h=>?_⟩
 ·have h:ao s≠0:=by simpa using h
  simp [aw,h]
 ·have h:ao s=0:=by simpa using h
  intro r hr
  subst hr
  obtain ⟨h0,h1,h2,h3⟩:=fb h
  have hm:=pA h0 h1 h0 h1
  have hn:=pA (a:=s.ab) (b:=s.Ops+1) (by omega) h3 (by omega) (by omega:s.Ops+1≤65)
  rw [yE h]
  simp only [base,wide,tW,aw,h,if_true]
  simp only [show (3:Int)≠1 by decide,show (3:Int)≠2 by decide,if_false]
  rw [wrp (n:=s.ab * (s.Ops+1)) (by omega) (by omega),wrp (by omega) (by omega)]
theorem Lk {s:aa} (h:ao s=0) (k:Int):0≤wide s k∧wide s k≤64∧0≤tW s k∧tW s k≤65∧0≤base s k∧base s k≤4160:=by
 obtain ⟨h0,h1,h2,h3⟩:=fb h
 have hm:=pA h0 h1 h0 h1
 unfold wide tW base
 split
 ·omega
 ·split <;> omega
theorem v65 (s:aa) (n:aW):VC65 s n (fun r=>r=bd s n):=by
 unfold VC65
 intro r hr
 subst hr
 simp only [Bool.or_eq_true,decide_eq_true_eq,Bool.or_eq_false_iff,decide_eq_false_iff_not,bne_iff_ne,bne_eq_false_iff_eq]
 refine ⟨fun h=>?_,fun h=>?_⟩
 ·unfold bd; rw [if_neg]; intro hh; rcases h with (h | h) | h
  ·exact h hh.1
  ·omega
  ·omega
 ·intro r hr
  subst hr
  obtain ⟨⟨hc,hk0⟩,IP⟩:=h
  rw [yE hc]
  have hb:=Lk hc n.Kind
  refine ⟨fun h=>?_,fun h=>?_⟩
  ·unfold bd; rw [if_neg]; intro hh; simp only at h; omega
  ·simp only at h ⊢
   have hm:=pA (a:=n.A) (b:=wide s n.Kind) (A:=65) (B:=64) (by omega) (by omega) (by omega) (by omega)
   unfold bd
   rw [if_pos ⟨hc,by omega,by omega,by omega,by omega,by omega,by omega⟩]
   rw [wrp (n:=n.A * _) (by omega) (by omega),wrp (n:=_+n.A * _) (by omega) (by omega),wrp (n:=_+n.B) (by omega) (by omega),wrp (by omega) (by omega)]
theorem mZ:∀ l:List Int,(lg l).length≤l.length * l.length
 | []=>Nat.le_refl _
 | x :: r=>by
  have:=mZ r
  simp only [lg,List.length_append,List.length_map,List.length_cons,Nat.add_mul,Nat.mul_add]
  omega
theorem Ir {l:List Int} (h:iY l):(lg l).length≤1000000000000:=by
 have h1:=mZ l
 unfold iY at h
 have h2:l.length * l.length≤1000000 * 1000000:=Nat.mul_le_mul h h
 omega
theorem v62 (l:List Int) (h:iY l):VC62 l (fun r=>r=dD l):=by
 unfold VC62
 intro _
 have hb:=Ir h
 have hl:l.length≤1000000:=h
 refine ⟨fun out i=>∃ x:Nat,i=x∧x≤l.length∧out++lg (l.drop x)=lg l,fun _ i=>(l.length - i).toNat,⟨0,rfl,by omega,by simp⟩,?_⟩
 rintro out _ ⟨x,rfl,hx,ho⟩
 simp only [decide_eq_true_eq,decide_eq_false_iff_not]
 refine ⟨fun hi=>?_,fun hi=>?_⟩
 ·have hi:x < l.length:=by omega
  rw [iw hi,lg] at ho
  rw [wrp (n:=(x:Int)+1) (by omega) (by omega)]
  have e:((x:Int)+1).toNat=x+1:=by omega
  rw [e]
  refine ⟨by omega,by omega,fun out k=>∃ y:Nat,k=y∧y≤(l.drop (x+1)).length∧out++(((l.drop (x+1)).drop y).map (fun z=>[jW (gi l x),jW z])++lg (l.drop (x+1)))=lg l,fun _ k=>((l.drop (x+1)).length - k).toNat,⟨0,rfl,by omega,by simpa using ho⟩,?_⟩
  rintro Th _ ⟨y,rfl,hy,PQ⟩
  have Qb:(l.drop (x+1)).length=l.length - (x+1):=by simp
  refine ⟨fun hk=>?_,fun hk=>?_⟩
  ·have hk:y < (l.drop (x+1)).length:=by omega
   have hlen:Th.length+1≤(lg l).length:=by
    rw [← PQ,iw hk]; simp only [List.length_append,List.length_map,List.length_cons]; omega
   rw [iw hk,List.map_cons] at PQ
   refine ⟨by omega,by simp; omega,?_⟩
   rw [wrp (n:=(y:Int)+1) (by omega) (by omega)]
   refine ⟨⟨y+1,by simp,by omega,?_⟩,by dsimp only; omega⟩
   rw [← PQ]
   simp [jW]
  ·have:y=(l.drop (x+1)).length:=by omega
   subst this
   unfold VC62_J2
   rw [wrp (by omega) (by omega)]
   refine ⟨⟨x+1,by simp,by omega,?_⟩,by dsimp only; omega⟩
   rw [List.drop_length] at PQ
   simpa using PQ
 ·have:x=l.length:=by omega
  subst this
  unfold VC62_J1
  simpa [lg,dD] using ho
theorem BF {m:List Bool} {l:Int} (h0:1≤l) (h1:l≤m.length) (h2:l≤100000):pG m l=gi m (l - 1):=by
 have e:gf l=(l,true):=by unfold gf; rw [if_pos (by omega)]
 unfold pG
 rw [e]
 simp [show ¬ l=0 by omega,h1]
theorem pF {m:List Bool} {l:Int} (h0:1≤l) (h1:l≤m.length) (h2:l≤100000):pG m (jW l)=!gi m (l - 1):=by
 have e:gf (jW l)=(l,false):=by
  unfold jW
  rw [wrp (by omega) (by omega)]
  unfold gf; rw [if_neg (by omega),if_pos (by omega)]
  congr 1; omega
 unfold pG
 rw [e]
 simp [show ¬ l=0 by omega,h1]
def okl (m:List Bool) (l:Int):Prop:=1≤l∧l≤m.length∧l≤100000
theorem qI {m:List Bool} {L:List Int} (hL:∀ x∈L,okl m x):cv L m=L.any (fun x=>gi m (x - 1)):=by
 unfold cv
 induction L with
 | nil=>rfl
 | cons x r ih =>
  obtain ⟨a,b,c⟩:=hL x (by simp)
  rw [List.any_cons,List.any_cons,BF a b c,ih (fun y hy=>hL y (by simp [hy]))]
theorem mn {m:List Bool}:∀ {L:List Int},(∀ x∈L,okl m x)→((lg L).all (fun c=>cv c m)=true↔(L.filter (fun x=>gi m (x - 1))).length≤1)
 | [],_=>by simp [lg]
 | x :: r,hL=>by
  obtain ⟨a,b,c⟩:=hL x (by simp)
  have ih:=mn (L:=r) (fun y hy=>hL y (by simp [hy]))
  have e:(r.map (fun y=>[jW x,jW y])).all (fun c=>cv c m)=true↔(gi m (x - 1)=true→r.filter (fun x=>gi m (x - 1))=[]):=by
   rw [List.all_map,List.all_eq_true]
   constructor
   ·intro h hx
    rw [List.filter_eq_nil_iff]
    intro y hy
    obtain ⟨a',b',c'⟩:=hL y (by simp [hy])
    have:=h y hy
    simp only [Function.comp,cv,List.any_cons,List.any_nil,pF a b c,pF a' b' c',hx] at this
    simpa using this
   ·intro h y hy
    obtain ⟨a',b',c'⟩:=hL y (by simp [hy])
    simp only [Function.comp,cv,List.any_cons,List.any_nil,pF a b c,pF a' b' c']
    cases hx:gi m (x - 1) with
    | false=>rfl
    | true =>
     have:=(List.filter_eq_nil_iff.mp (h hx)) y hy
     simpa using this
  rw [lg,List.all_append,Bool.and_eq_true,e,ih,List.filter_cons]
  cases hx:gi m (x - 1) with
  | false=>simp
  | true =>
   simp only [true_implies,if_true,List.length_cons]
   constructor
   ·rintro ⟨h,_⟩; rw [h]; simp
   ·intro h
    have h:(r.filter (fun x=>gi m (x - 1))).length=0:=by omega
    rw [List.length_eq_zero_iff] at h
    rw [h]; simp
theorem nH (n:Int) (c:List (List Int)) (m:List Bool):kO ⟨n,c⟩ m < 0↔c.all (fun c=>cv c m)=true:=by
 unfold kO
 dsimp only
 cases h:c.findIdx? (fun c=>!cv c m) with
 | none =>
  rw [List.findIdx?_eq_none_iff] at h
  simp only [List.all_eq_true]
  constructor
  ·intro _ x hx; simpa using h x hx
  ·intro _; decide
 | some i =>
  dsimp only
  rw [List.findIdx?_eq_some_iff_getElem] at h
  obtain ⟨hi,hf,_⟩:=h
  constructor
  ·intro h; omega
  ·intro h
   rw [List.all_eq_true] at h
   have:=h c[i] (List.getElem_mem _)
   simp [this] at hf
theorem any_filter (L:List Int) (f:Int→Bool):L.any f=true↔1≤(L.filter f).length:=by
 rw [List.any_eq_true]
 constructor
 ·rintro ⟨x,hx,hf⟩
  exact List.length_pos_of_mem (List.mem_filter.mpr ⟨hx,hf⟩)
 ·intro h
  obtain ⟨x,hx⟩:=List.exists_mem_of_length_pos h
  rw [List.mem_filter] at hx
  exact ⟨x,hx.1,hx.2⟩
theorem lY {α:Type} (A r:List α) (b v:α) {n:Nat} (h:n=A.length):(A++b :: r).set n v=A++v :: r:=by
 subst h
 rw [List.set_append_right _ _ (Nat.le_refl _)]
 simp
theorem F5 {l:List Int} {v i:Int} (h0:0≤i) (h1:i < l.length) (h:gi l i=v) (h2:∀ j:Int,0≤j→j < i→gi l j≠v):idx l v=i:=by
 unfold idx
 rw [pT (f:=fun x=>x == v) h0 h1 (by simpa using h) (fun j j0 j1=>by simpa using h2 j j0 j1)]
 dsimp only; omega
theorem Mz {l:List Int} {v:Int} (h2:∀ j:Int,0≤j→j < l.length→gi l j≠v):idx l v=-1:=by
 unfold idx
 rw [pS (f:=fun x=>x == v) (fun j j0 j1=>by simpa using h2 j j0 j1)]
theorem IG {l:List Int} {v:Int}:0≤idx l v↔v∈l:=by
 unfold idx
 cases h:l.findIdx? (fun x=>x == v) with
 | none =>
  rw [List.findIdx?_eq_none_iff] at h
  dsimp only
  constructor
  ·intro h; omega
  ·intro hm; have:=h v hm; simp at this
 | some i =>
  rw [List.findIdx?_eq_some_iff_getElem] at h
  obtain ⟨hi,he,_⟩:=h
  have he:l[i]=v:=by simpa using he
  dsimp only
  constructor
  ·intro _; rw [← he]; exact List.getElem_mem _
  ·intro _; omega
theorem v126 (l:List Int) (v:Int):VC126 l v (fun r=>r=c9 l v):=by
 unfold VC126
 intro hl
 simp only [sm] at hl
 refine ⟨fun i=>0≤i∧i≤l.length∧∀ j:Int,0≤j→j < i→gi l j≠v,fun i=>(l.length - i).toNat,⟨by omega,by omega,fun j h0 h1=>by omega⟩,?_⟩
 rintro i ⟨h0,h1,h2⟩
 simp only [decide_eq_true_eq,decide_eq_false_iff_not]
 refine ⟨fun hi=>⟨⟨by omega,by omega⟩,fun he=>?_,fun he=>?_⟩,fun hi=>?_⟩
 ·exact (F5 h0 hi (by rw [beq_iff_eq] at he; exact he.symm) h2).symm
 ·rw [wrp (by omega) (by omega)]
  refine ⟨⟨by omega,by omega,fun j j0 j1=>?_⟩,by omega⟩
  by_cases hj:j < i
  ·exact h2 j j0 hj
  ·rw [show j=i by omega]; intro h; rw [h] at he; simp at he
 ·exact (Mz (fun j j0 j1=>h2 j j0 (by omega))).symm
theorem v108 (l:List Int) (v:Int):VC108 l v (fun r=>r=cU l v):=by
 intro _ r hr
 subst hr
 unfold cU c9
 rw [Bool.eq_iff_iff,decide_eq_true_eq,decide_eq_true_eq]
 exact IG
theorem mX {s:aa} {a k:Int} (hc:ao s=0) (ha:0≤a) (B8:a < s.Ops) (hk:0≤k) (IP:k < s.Ops) :
  dp s a k=a * s.Ops+k+1∧1≤dp s a k∧dp s a k≤s.Ops * s.Ops∧s.Ops * s.Ops≤aw s∧aw s≤10000:=by
 obtain ⟨h0,h1,h2,h3⟩:=fb hc
 have hm:=pA h0 h1 h0 h1
 have hn:=pA (a:=a) (b:=s.Ops) ha (by omega:a≤64) h0 h1
 have hz:=pA (a:=s.Ops) (b:=s.ab) h0 h1 (by omega) h3
 have sf:(a+1) * s.Ops≤s.Ops * s.Ops:=Int.mul_le_mul_of_nonneg_right (by omega) h0
 rw [Int.add_mul,Int.one_mul] at sf
 have hv:aw s=s.Ops * s.Ops+s.Ops+(s.Ops * s.ab+s.ab):=by
  unfold aw; rw [if_pos hc,Int.mul_add,Int.mul_comm s.ab,Int.mul_one]
 have e:dp s a k=a * s.Ops+k+1:=by
  unfold dp bd
  rw [if_pos]
  ·simp [base,wide]
  ·refine ⟨hc,by simp,by simp,ha,?_,hk,?_⟩
   ·simpa [tW] using B8
   ·simpa [wide] using IP
 rw [e,hv]
 omega
theorem oC:∀ (n:Nat) (l:List Int),l.Nodup→(∀ x∈l,0≤x∧x < n)→l.length≤n
 | 0,[],_,_=>by simp
 | 0,x :: l,_,h=>by have:=h x (by simp); omega
 | n+1,l,hd,h=>by
  have h1:=oC n (l.erase (n:Int)) (hd.erase _) (fun x hx=>by
   rw [hd.mem_erase_iff] at hx
   have:=h x hx.2
   have hne:=hx.1
   omega)
  by_cases hm:(n:Int)∈l
  ·have hl:=List.length_erase_of_mem hm
   omega
  ·rw [List.erase_of_not_mem hm] at h1
   omega
theorem iB {n:Nat} {l:List Int} (hd:l.Nodup) (h:∀ x∈l,0≤x∧x < n) (hl:l.length=n) {i:Int} (h0:0≤i) (h1:i < n):i∈l:=by
 apply Classical.byContradiction
 intro hi
 have:=oC n (i :: l) (List.nodup_cons.mpr ⟨hi,hd⟩) (fun x hx=>by
  rcases List.mem_cons.mp hx with rfl | hx
  ·exact ⟨h0,h1⟩
  ·exact h x hx)
 rw [List.length_cons] at this
 omega
theorem Lz {α:Type} {l:List α} {p q:α} (hp:p∈l) (hq:q∈l) (hne:p≠q):2≤l.length:=by
 match l,hp,hq with
 | [x],hp,hq =>
  rw [List.mem_singleton] at hp hq
  exact absurd (hp.trans hq.symm) hne
 | x :: y :: r,_,_=>simp
theorem Ct {n:Int} (h0:0≤n) (h1:n < 18446744073709551616):IntKind.u64.wrap n=n:=by
 simp [IntKind.wrap,IntKind.signed,IntKind.bits]; omega
theorem NM {z:Int} (h0:0≤z) (h1:z < 4294967296):((BitVec.ofInt IntKind.u64.bits z &&& BitVec.ofInt IntKind.u64.bits 4294967295).toNat:Int)=z:=by
 show (((BitVec.ofInt 64 z &&& BitVec.ofInt 64 4294967295).toNat:Nat):Int)=z
 have e:(BitVec.ofInt 64 4294967295).toNat=2 ^ 32 - 1:=by decide
 rw [BitVec.toNat_and,e,Nat.and_two_pow_sub_one_eq_mod,BitVec.toNat_ofInt]
 have e2:((2 ^ 64:Nat):Int)=18446744073709551616:=by decide
 have e3:(2 ^ 32:Nat)=4294967296:=by decide
 rw [e2,e3]
 omega
theorem Cg {z:Int} (h0:0≤z) (h1:z < 4294967296):z.fdiv (2 ^ 32)=0:=by
 have e:(2 ^ 32:Int)=4294967296:=by decide
 rw [e,Int.fdiv_eq_ediv_of_nonneg _ (by decide)]
 omega
theorem v169 (x y:Int) (h:mV x y):VC169 x y (fun r=>r=eX x y):=by
 obtain ⟨x0,x1,y0,y1⟩:=h
 have hm:=pA x0 x1 y0 y1
 unfold VC169 eX
 show _=_
 have ax:=NM (z:=x) x0 (by omega)
 have ay:=NM (z:=y) y0 (by omega)
 have a0:=NM (z:=0) (by omega) (by omega)
 have fx:=Cg (z:=x) x0 (by omega)
 have fy:=Cg (z:=y) y0 (by omega)
 have f0:=Cg (z:=0) (by omega) (by omega)
 have fxy:=Cg (z:=x * y) hm.1 (by omega)
 have wx:=Ct (n:=x) x0 (by omega)
 have wy:=Ct (n:=y) y0 (by omega)
 have w0:=Ct (n:=0) (by omega) (by omega)
 have Xo:=Ct (n:=x * y) hm.1 (by omega)
 simp only [ax,ay,fx,fy,wx,wy,Xo,fxy,Int.zero_mul,Int.mul_zero,w0,Int.add_zero,f0,a0]
theorem v127 (x y:Int) (h:mV x y):VC127 x y (fun r=>r=fN x y):=by
 unfold VC127
 refine ⟨h,?_⟩
 rintro _ rfl
 rfl
theorem v85 (l:List Int) (n:Int) (h:vW l n):VC85 l n (fun r=>r=cP l n):=by
 obtain ⟨hl,h0,h1⟩:=h
 obtain ⟨N,rfl⟩:=Int.eq_ofNat_of_zero_le h0
 match l,hl with
 | [v],_ =>
 unfold VC85
 intro _
 have e1:IntKind.u64.wrap (([v].length:Nat):Int)=1:=Ct (n:=1) (by omega) (by omega)
 have e2:IntKind.u64.wrap (N:Int)=N:=Ct (by omega) (by omega)
 rw [e1,e2]
 refine ⟨fun h=>?_,fun _=>⟨⟨by omega,by omega,by omega,by omega⟩,?_⟩⟩
 ·rw [decide_eq_true_eq] at h; omega
 rintro _ rfl
 unfold fN
 dsimp only
 rw [Int.one_mul]
 refine ⟨fun h=>?_,fun _=>?_⟩
 ·simp only [Bool.or_eq_true,decide_eq_true_eq] at h; omega
 rw [wrp (by omega) (by omega)]
 have e3:((N:Int)).toNat=N:=rfl
 rw [e3]
 have key:∀ t:Nat,t≤N→∀ m,m=min t (N - t)→(List.replicate t v++List.replicate (N - t) (0:Int)).take t++((List.replicate t v++List.replicate (N - t) (0:Int)).take t).take ((List.replicate t v++List.replicate (N - t) (0:Int)).length - t)++(List.replicate t v++List.replicate (N - t) (0:Int)).drop (t+m)=List.replicate (t+m) v++List.replicate (N - (t+m)) 0:=by
  intro t ht m hm
  have a1:(List.replicate t v++List.replicate (N - t) (0:Int)).length=N:=by simp; omega
  have a2:(List.replicate t v++List.replicate (N - t) (0:Int)).take t=List.replicate t v:=by
   rw [List.take_append_of_le_length (by simp)]; simp
  have a3:(List.replicate t v++List.replicate (N - t) (0:Int)).drop (t+m)=List.replicate (N - (t+m)) 0:=by
   rw [List.drop_append,List.drop_eq_nil_of_le (by simp),List.nil_append,List.length_replicate,List.drop_replicate]
   congr 1; omega
  rw [a2,a1,a3,List.take_replicate,List.replicate_append_replicate]
  congr 2; omega
 refine ⟨by omega,fun l k=>∃ t:Nat,k=t∧t≤N∧(N=0∨0 < t)∧l=List.replicate t v++List.replicate (N - t) 0,fun _ k=>(N - k).toNat,?_,?_⟩
 ·refine ⟨min 1 N,by simp,by omega,by omega,?_⟩
  rcases Nat.eq_zero_or_pos N with rfl | hN
  ·simp
  ·rw [Nat.min_eq_left hN]
   simp only [List.length_replicate,List.length_cons,List.length_nil,Nat.zero_add,Nat.sub_zero,List.take_zero,List.nil_append,Nat.min_eq_left hN,List.drop_replicate]
   rw [List.take_of_length_le (by simp; omega)]
   rfl
 rintro _ _ ⟨t,rfl,ht,ud,rfl⟩
 have a1:(List.replicate t v++List.replicate (N - t) (0:Int)).length=N:=by simp; omega
 have a2:((List.replicate t v++List.replicate (N - t) (0:Int)).take t).length=t:=by
  rw [List.take_append_of_le_length (by simp)]; simp
 have e4:((t:Int)).toNat=t:=rfl
 refine ⟨fun eS=>?_,fun hge=>?_⟩
 ·rw [decide_eq_true_eq,a1] at eS
  rw [e4,a1,a2]
  refine ⟨by omega,by omega,?_⟩
  rw [wrp (by omega) (by omega)]
  refine ⟨⟨t+min t (N - t),by omega,by omega,by omega,?_⟩,by dsimp only; omega⟩
  have:=key t ht _ rfl
  rw [a1] at this
  exact this
 ·rw [decide_eq_false_iff_not,a1] at hge
  have:t=N:=by omega
  subst this
  unfold VC85_J1 cP
  simp [gi]
theorem CX (s:aa) (a:Int) (t:Nat):nL s a (t+1)=nL s a t++[dp s a (t:Int)]:=by
 unfold nL; rw [List.range_succ,List.map_append]; rfl
theorem CZ (s:aa) (k:Int) (t:Nat):oA s k (t+1)=oA s k t++[dp s (t:Int) k]:=by
 unfold oA; rw [List.range_succ,List.map_append]; rfl
theorem pq (s:aa) (a:Int) (t:Nat):(nL s a t).length=t:=by simp [nL]
theorem sX (s:aa) (a:Int) (t:Nat):(oA s a t).length=t:=by simp [oA]
theorem v61 (k a:Int):VC61 k a (fun r=>r=dQ k a):=rfl
theorem v63 (k a:Int):VC63 k a (fun r=>r=dP k a):=rfl
theorem v60_61 (s:aa) (a:Int) (h:kP s a):VC60_61 s a (fun r=>r=bR s a):=by
 obtain ⟨h0,h1⟩:=h
 unfold VC60_61
 obtain ⟨n,hn⟩:=Int.eq_ofNat_of_zero_le h0
 have hk:s.Ops.toNat=n:=by omega
 simp only [hk,List.length_replicate,decide_eq_true_eq,decide_eq_false_iff_not]
 refine ⟨by omega,fun out x=>∃ t:Nat,x=t∧t≤n∧out=nL s a t++List.replicate (n - t) 0,fun _ x=>(n - x).toNat,⟨0,rfl,by omega,by simp [nL]⟩,?_⟩
 rintro _ _ ⟨t,rfl,ht,rfl⟩
 refine ⟨fun hx=>?_,fun hx=>?_⟩
 ·rintro _ rfl _ rfl
  have hx:t < n:=by omega
  rw [wrp (by omega) (by omega)]
  have hl:=pq s a t
  refine ⟨⟨by omega,by simp [hl]; omega⟩,⟨t+1,by simp,by omega,?_⟩,by dsimp only; omega⟩
  rw [show n - t=(n - (t+1))+1 by omega,List.replicate_succ,lY _ _ _ _ (by simp [hl]),CX]
  simp [dQ,dp]
 ·have:t=n:=by omega
  subst this
  unfold VC60_61_J1 bR
  simp [hk]
theorem v60_63 (s:aa) (a:Int) (h:kP s a):VC60_63 s a (fun r=>r=bQ s a):=by
 obtain ⟨h0,h1⟩:=h
 unfold VC60_63
 obtain ⟨n,hn⟩:=Int.eq_ofNat_of_zero_le h0
 have hk:s.Ops.toNat=n:=by omega
 simp only [hk,List.length_replicate,decide_eq_true_eq,decide_eq_false_iff_not]
 refine ⟨by omega,fun out x=>∃ t:Nat,x=t∧t≤n∧out=oA s a t++List.replicate (n - t) 0,fun _ x=>(n - x).toNat,⟨0,rfl,by omega,by simp [oA]⟩,?_⟩
 rintro _ _ ⟨t,rfl,ht,rfl⟩
 refine ⟨fun hx=>?_,fun hx=>?_⟩
 ·rintro _ rfl _ rfl
  have hx:t < n:=by omega
  rw [wrp (by omega) (by omega)]
  have hl:=sX s a t
  refine ⟨⟨by omega,by simp [hl]; omega⟩,⟨t+1,by simp,by omega,?_⟩,by dsimp only; omega⟩
  rw [show n - t=(n - (t+1))+1 by omega,List.replicate_succ,lY _ _ _ _ (by simp [hl]),CZ]
  simp [dP,dp]
 ·have:t=n:=by omega
  subst this
  unfold VC60_63_J1 bQ
  simp [hk]
theorem wi {l:List Int} (h:l.length≤64):(lg l).length≤4096:=by
 have h1:=mZ l
 have h2:l.length * l.length≤64 * 64:=Nat.mul_le_mul h h
 omega
theorem yG {s:aa} (h:s.Ops≤64) (a:Nat):(wL s a).length≤4097:=by
 have:=wi (l:=nL s (a:Int) s.Ops.toNat) (by rw [pq]; omega)
 unfold wL; rw [List.length_cons]; omega
theorem yH {s:aa} (h:s.Ops≤64) (a:Nat):(DR s a).length≤4096 :=
 wi (l:=oA s (a:Int) s.Ops.toNat) (by rw [sX]; omega)
theorem lM {f:Nat→List (List Int)} {m:Nat} (h:∀ a,(f a).length≤m):∀ t,((List.range t).flatMap f).length≤m * t
 | 0=>by simp
 | t+1=>by
  have h1:=lM h t
  have h2:=h t
  rw [List.range_succ,List.flatMap_append,List.length_append,Nat.mul_add]
  simp only [List.flatMap_cons,List.flatMap_nil,List.append_nil]
  omega
theorem kD (f:Nat→List (List Int)) (t:Nat):(List.range (t+1)).flatMap f=(List.range t).flatMap f++f t:=by
 rw [List.range_succ,List.flatMap_append]; simp
theorem v20 (s:aa):VC20 s (fun r=>r=cc s):=by
 unfold VC20
 rintro _ rfl
 simp only [bne_iff_ne,bne_eq_false_iff_eq]
 refine ⟨fun h=>?_,fun hc=>?_⟩
 ·unfold cc; rw [if_neg h]
 ·obtain ⟨c0,c1,c2,c3⟩:=fb hc
  simp only [decide_eq_true_eq,decide_eq_false_iff_not]
  refine ⟨fun out x=>∃ t:Nat,x=t∧(t:Int)≤s.Ops∧out=(List.range t).flatMap (wL s),fun _ x=>(s.Ops - x).toNat,⟨0,rfl,by omega,by simp⟩,?_⟩
  rintro _ _ ⟨t,rfl,ht,rfl⟩
  have hl:=lM (yG (s:=s) c1) t
  refine ⟨fun hx=>⟨⟨c0,c1⟩,?_⟩,fun hx=>?_⟩
  ·rintro _ rfl _
   unfold bR
   have Ad:=pq s (t:Int) s.Ops.toNat
   have hm:=wi (l:=nL s (t:Int) s.Ops.toNat) (by omega)
   refine ⟨by simp only [List.length_append,List.length_cons,List.length_nil]; omega,by unfold iY; omega,?_⟩
   rintro _ rfl _
   unfold dD
   rw [wrp (by omega) (by omega)]
   refine ⟨by simp only [List.length_append,List.length_cons,List.length_nil]; omega,⟨t+1,by simp,by omega,?_⟩,by dsimp only; omega⟩
   rw [kD]; simp [wL]
  ·have:t=s.Ops.toNat:=by omega
   subst this
   unfold VC20_J1
   simp only [decide_eq_true_eq,decide_eq_false_iff_not]
   refine ⟨fun out x=>∃ t:Nat,x=t∧(t:Int)≤s.Ops∧out=(List.range s.Ops.toNat).flatMap (wL s)++(List.range t).flatMap (DR s),fun _ x=>(s.Ops - x).toNat,⟨0,rfl,by omega,by simp⟩,?_⟩
   rintro _ _ ⟨t,rfl,ht,rfl⟩
   have Ol:=lM (yH (s:=s) c1) t
   refine ⟨fun hx=>⟨⟨c0,c1⟩,?_⟩,fun hx=>?_⟩
   ·rintro _ rfl _
    unfold bQ
    have Ad:=sX s (t:Int) s.Ops.toNat
    have hm:=wi (l:=oA s (t:Int) s.Ops.toNat) (by omega)
    refine ⟨by unfold iY; omega,?_⟩
    rintro _ rfl _
    unfold dD
    rw [wrp (by omega) (by omega)]
    refine ⟨by simp only [List.length_append,List.length_cons,List.length_nil]; omega,⟨t+1,by simp,by omega,?_⟩,by dsimp only; omega⟩
    rw [kD]; simp [DR]
   ·have:t=s.Ops.toNat:=by omega
    subst this
    unfold VC20_J2 cc
    rw [if_pos hc]
theorem ph (t:Nat) (p:Int→Bool):sel (t+1) p=sel t p++(if p (t:Int)=true then [(t:Int)] else []):=by
 unfold sel
 rw [List.range_succ,List.map_append,List.filter_append]
 simp only [List.map_cons,List.map_nil,List.filter_cons,List.filter_nil]
 rfl
theorem iW {t:Nat} {p:Int→Bool} {x:Int}:x∈sel t p↔0≤x∧x < t∧p x=true:=by
 unfold sel
 rw [List.mem_filter,List.mem_map]
 constructor
 ·rintro ⟨⟨y,hy,rfl⟩,h⟩
  rw [List.mem_range] at hy
  exact ⟨by simp,by simpa using hy,h⟩
 ·rintro ⟨h0,h1,h⟩
  exact ⟨⟨x.toNat,by rw [List.mem_range]; omega,by simp; omega⟩,h⟩
theorem xq {t n:Nat} (h:t≤n) (p:Int→Bool):(sel t p).length≤(sel n p).length:=by
 unfold sel
 exact (((List.range_sublist.mpr h).map Int.ofNat).filter p).length_le
theorem FO {l:List Int} (h:∀ x∈l,0≤x):l.getLastD (-1) < 0↔l=[]:=by
 cases hl:l.getLast? with
 | none =>
  rw [List.getLast?_eq_none_iff] at hl
  subst hl
  simp
 | some x =>
  have hm:=List.mem_of_getLast? hl
  rw [List.getLastD_eq_getLast?,hl]
  have:=h x hm
  constructor
  ·intro h2; dsimp only [Option.getD] at h2; omega
  ·rintro rfl; simp at hm
theorem gZ {t:Nat} {p:Int→Bool}:(sel t p).getLastD (-1) < 0↔(sel t p).length=0:=by
 rw [FO (fun x hx=>(iW.mp hx).1),List.length_eq_zero_iff]
theorem rY {t:Nat} {p:Int→Bool} (h:(sel t p).length=1):sel t p=[(sel t p).getLastD (-1)]:=by
 match hs:sel t p,h with
 | [x],_=>rfl
theorem Is (n:Nat) (R:Int→Int→Bool) (h1:∀ a:Nat,a < n→(sel n (R a)).length=1) (h2:∀ k:Nat,k < n→(sel n (fun a=>R a k)).length≤1):∀ k:Nat,k < n→(sel n (fun a=>R a k)).length=1:=by
 intro k hk
 have f:∀ a:Nat,a < n→0≤(sel n (R a)).getLastD (-1)∧(sel n (R a)).getLastD (-1) < n∧R a ((sel n (R a)).getLastD (-1))=true:=by
  intro a ha
  have:=rY (h1 a ha)
  exact iW.mp (this ▸ List.mem_singleton_self _)
 have hd:((List.range n).map (fun (a:Nat)=>(sel n (R a)).getLastD (-1))).Nodup:=by
  rw [List.nodup_iff_pairwise_ne,List.pairwise_map]
  refine List.Pairwise.imp_of_mem ?_ (List.nodup_iff_pairwise_ne.mp List.nodup_range)
  intro a b ha hb hne he
  rw [List.mem_range] at ha hb
  obtain ⟨a0,a1,a2⟩:=f a ha
  obtain ⟨b0,b1,b2⟩:=f b hb
  rw [he] at a2
  have sf:=h2 ((sel n (R b)).getLastD (-1)).toNat (by omega)
  rw [show ((((sel n (R b)).getLastD (-1)).toNat:Nat):Int)=(sel n (R b)).getLastD (-1) by omega] at sf
  have:=Lz (p:=(a:Int)) (q:=(b:Int)) (iW (t:=n) (p:=fun x=>R x ((sel n (R b)).getLastD (-1))) |>.mpr ⟨by omega,by omega,a2⟩) (iW.mpr ⟨by omega,by omega,b2⟩) (by omega)
  omega
 have hm:=iB (n:=n) hd (fun x hx=>by
  rw [List.mem_map] at hx
  obtain ⟨a,ha,rfl⟩:=hx
  rw [List.mem_range] at ha
  exact ⟨(f a ha).1,(f a ha).2.1⟩) (by simp) (i:=(k:Int)) (by omega) (by omega)
 rw [List.mem_map] at hm
 obtain ⟨a,ha,he⟩:=hm
 rw [List.mem_range] at ha
 have:=(f a ha).2.2
 rw [he] at this
 have h3:=List.length_pos_of_mem (iW (t:=n) (p:=fun x=>R x k) |>.mpr ⟨by omega,by omega,this⟩)
 have h4:=h2 k hk
 omega
theorem pC {s:aa} {m:List Bool} (h:fA s m) {a:Nat} (ha:a < s.Ops.toNat):(sel s.Ops.toNat (pon s m (a:Int))).length=1:=h.2.2.1 a (List.mem_range.mpr ha)
theorem pD {s:aa} {m:List Bool} (h:fA s m) {k:Nat} (hk:k < s.Ops.toNat):(sel s.Ops.toNat (fun a=>pon s m a (k:Int))).length=1:=h.2.2.2 k (List.mem_range.mpr hk)
theorem FF {s:aa} {m:List Bool} (hc:ao s=0) (hl:(m.length:Int)=aw s) (h1:∀ a:Nat,a < s.Ops.toNat→(sel s.Ops.toNat (pon s m (a:Int))).length=1) (h2:∀ k:Nat,k < s.Ops.toNat→(sel s.Ops.toNat (fun a=>pon s m a (k:Int))).length≤1):fA s m :=
 ⟨hc,hl,fun a ha=>h1 a (List.mem_range.mp ha),fun k hk=>Is s.Ops.toNat (pon s m) h1 h2 k (List.mem_range.mp hk)⟩
theorem oB {s:aa} {m:List Bool} (h:¬ fA s m):aq s m=([],false):=by unfold aq; rw [if_neg h]
def mY (s:aa) (m:List Bool) (t u:Nat):List Int:=(List.range s.Ops.toNat).map fun k=>if k < u then who s m (t+1) k else who s m t k
theorem xI {s:aa} {m:List Bool} {t u i:Nat} (h:i < (mY s m t u).length):(mY s m t u)[i]=if i < u then who s m (t+1) i else who s m t i:=by
 simp [mY]
theorem v35 (s:aa) (m:List Bool):VC35 s m (fun r=>r=aq s m):=by
 unfold VC35
 have key:∀ b,(b=true→¬ fA s m)→(b=false→ao s=0∧(m.length:Int)=aw s)→VC35_J1 s m (fun r=>r=aq s m) b:=by
  intro b hb1 hb2
  unfold VC35_J1
  refine ⟨fun h=>(oB (hb1 h)).symm,fun h=>?_⟩
  obtain ⟨hc,hl⟩:=hb2 h
  obtain ⟨c0,c1,c2,c3⟩:=fb hc
  obtain ⟨n,hn⟩:=Int.eq_ofNat_of_zero_le c0
  have wY:s.Ops.toNat=n:=by omega
  refine ⟨⟨rfl,c0,by omega⟩,?_⟩
  rintro _ rfl _
  simp only [decide_eq_true_eq,decide_eq_false_iff_not]
  refine ⟨fun out x=>∃ t:Nat,x=t∧t≤n∧out=mY s m t 0∧(∀ a:Nat,a < t→(sel n (pon s m (a:Int))).length=1)∧∀ k:Nat,k < n→(sel t (fun a=>pon s m a (k:Int))).length≤1,fun _ x=>(n - x).toNat,⟨0,rfl,by omega,?_,fun a ha=>by omega,fun k hk=>by simp [sel]⟩,?_⟩
  ·unfold mY cP
   rw [wY]
   apply List.ext_getElem (by simp)
   intro i hi hj
   simp [who,sel,gi]
  rintro _ _ ⟨t,rfl,ht,rfl,Kj,Ku⟩
  refine ⟨fun hx=>?_,fun hx=>?_⟩
  ·have hx:t < n:=by omega
   refine ⟨fun out at_ k=>∃ u:Nat,k=u∧u≤n∧out=mY s m t u∧at_=(sel u (pon s m (t:Int))).getLastD (-1)∧(sel u (pon s m (t:Int))).length≤1∧∀ k:Nat,k < u→(sel (t+1) (fun a=>pon s m a (k:Int))).length≤1,fun _ _ k=>(n - k).toNat,⟨0,rfl,by omega,rfl,by simp [sel],by simp [sel],fun k hk=>by omega⟩,?_⟩
   rintro _ _ _ ⟨u,rfl,hu,rfl,rfl,jH,iq⟩
   have hlen:(mY s m t u).length=n:=by unfold mY; simp; omega
   have lL:u < n→gi (mY s m t u) u=who s m t u:=fun h=>by
    rw [cA _ _ (by omega)]
    unfold mY
    simp
   refine ⟨fun hk=>?_,fun hk=>?_⟩
   ·have hk:u < n:=by omega
    rintro _ rfl
    obtain ⟨e,e1,e2,e3,e4⟩:=mX hc (a:=(t:Int)) (k:=(u:Int)) (by omega) (by omega) (by omega) (by omega)
    have ew:bd s ⟨1,(t:Int),(u:Int)⟩=dp s t u:=rfl
    rw [ew,wrp (n:=dp s t u - 1) (by omega) (by omega)]
    refine ⟨⟨by omega,by omega⟩,fun hf=>?_,fun hf=>?_⟩
    ·have hf:pon s m t u=false:=by simpa [pon] using hf
     unfold VC35_J4
     rw [wrp (by omega) (by omega)]
     have ec:sel (t+1) (fun a=>pon s m a (u:Int))=sel t (fun a=>pon s m a (u:Int)):=by
      rw [ph,if_neg (by rw [hf]; decide),List.append_nil]
     have er:sel (u+1) (pon s m (t:Int))=sel u (pon s m (t:Int)):=by
      rw [ph,if_neg (by rw [hf]; decide),List.append_nil]
     refine ⟨⟨u+1,by simp,by omega,?_,by rw [er],by rw [er]; exact jH,?_⟩,by dsimp only; omega⟩
     ·unfold mY
      apply List.map_congr_left
      intro k sf
      by_cases h1:k < u
      ·rw [if_pos h1,if_pos (by omega)]
      ·rw [if_neg h1]
       split
       ·rw [show k=u by omega]; unfold who; rw [ec]
       ·rfl
     ·intro k sf
      by_cases h1:k < u
      ·exact iq k h1
      ·rw [show k=u by omega,ec]; exact Ku u hk
    ·have hf:pon s m t u=true:=by simpa [pon] using hf
     have er:sel (u+1) (pon s m (t:Int))=sel u (pon s m (t:Int))++[(u:Int)]:=by
      rw [ph,if_pos hf]
     have ec:sel (t+1) (fun a=>pon s m a (u:Int))=sel t (fun a=>pon s m a (u:Int))++[(t:Int)]:=by
      rw [ph,if_pos hf]
     have rowbad:(sel u (pon s m (t:Int))).length≠0→¬ fA s m:=by
      intro h0 BV
      have h1:=pC BV (a:=t) (by omega)
      have h2:=xq (t:=u+1) (n:=s.Ops.toNat) (by omega) (pon s m (t:Int))
      rw [er,List.length_append] at h2
      simp only [List.length_cons,List.length_nil] at h2
      omega
     have NG:(sel t (fun a=>pon s m a (u:Int))).length≠0→¬ fA s m:=by
      intro h0 BV
      have h1:=pD BV (k:=u) (by omega)
      have h2:=xq (t:=t+1) (n:=s.Ops.toNat) (by omega) (fun a=>pon s m a (u:Int))
      rw [ec,List.length_append] at h2
      simp only [List.length_cons,List.length_nil] at h2
      omega
     have j5:∀ b,(b=true→¬ fA s m)→(b=false→(sel u (pon s m (t:Int))).length=0∧(sel t (fun a=>pon s m a (u:Int))).length=0)→VC35_J5 (fun r=>r=aq s m) (t:Int) (fun out at_ k=>∃ u:Nat,k=u∧u≤n∧out=mY s m t u∧at_=(sel u (pon s m (t:Int))).getLastD (-1)∧(sel u (pon s m (t:Int))).length≤1∧∀ k:Nat,k < u→(sel (t+1) (fun a=>pon s m a (k:Int))).length≤1) (fun _ _ k=>(n - k).toNat) (mY s m t u) ((sel u (pon s m (t:Int))).getLastD (-1)) u (mY s m t u) b:=by
      intro b h1 h2
      unfold VC35_J5
      refine ⟨fun h=>(oB (h1 h)).symm,fun h=>⟨⟨by omega,by omega⟩,?_⟩⟩
      obtain ⟨z1,z2⟩:=h2 h
      rw [List.length_eq_zero_iff] at z1 z2
      unfold VC35_J4
      rw [wrp (by omega) (by omega)]
      refine ⟨⟨u+1,by simp,by omega,?_,by rw [er,z1]; rfl,by rw [er,z1]; simp,?_⟩,by dsimp only; omega⟩
      ·apply List.ext_getElem (by simp [mY])
       intro i hi hj
       rw [List.getElem_set,xI,xI]
       rw [show ((u:Int)).toNat=u from rfl]
       by_cases WJ:u=i
       ·subst WJ
        rw [if_pos rfl,if_pos (by omega)]
        unfold who
        rw [ec,z2]; rfl
       ·rw [if_neg WJ]
        by_cases h3:i < u
        ·rw [if_pos h3,if_pos (by omega)]
        ·rw [if_neg h3,if_neg (by omega)]
      ·intro k sf
       by_cases h3:k < u
       ·exact iq k h3
       ·rw [show k=u by omega,ec,z2]; simp
     refine ⟨fun B7=>j5 true (fun _=>rowbad ?_) (fun h=>by cases h),fun B7=>⟨⟨by omega,by omega⟩,j5 _ (fun h=>?_) (fun h=>?_)⟩⟩
     ·intro h0
      have:=gZ.mpr h0
      omega
     ·rw [decide_eq_true_eq,lL hk] at h
      refine NG fun h0=>?_
      have:=gZ.mpr h0
      unfold who at h
      omega
     ·rw [decide_eq_false_iff_not,lL hk] at h
      unfold who at h
      exact ⟨gZ.mp (by omega),gZ.mp (by omega)⟩
   ·have:u=n:=by omega
    subst this
    unfold VC35_J3
    rw [decide_eq_true_eq,decide_eq_false_iff_not]
    refine ⟨fun hneg=>?_,fun hneg=>?_⟩
    ·refine (oB fun BV=>?_).symm
     have h1:=pC BV (a:=t) (by omega)
     have h2:=gZ.mp hneg
     rw [wY] at h1
     omega
    ·rw [wrp (by omega) (by omega)]
     refine ⟨⟨t+1,by simp,by omega,?_,?_,iq⟩,by dsimp only; omega⟩
     ·unfold mY
      apply List.map_congr_left
      intro k sf
      rw [List.mem_range] at sf
      rw [if_pos (by omega),if_neg (by omega)]
     ·intro a ha
      by_cases h1:a < t
      ·exact Kj a h1
      ·rw [show a=t by omega]
       have:(sel u (pon s m (t:Int))).length≠0:=fun h0=>hneg (gZ.mpr h0)
       omega
  ·have:t=n:=by omega
   subst this
   have BV:fA s m:=FF hc hl (by rw [wY]; exact Kj) (by rw [wY]; exact Ku)
   unfold VC35_J2 aq
   rw [if_pos BV]
   unfold mY
   simp [wY]
 intro _
 rintro _ rfl
 refine ⟨fun h=>key true (fun _ BV=>?_) (fun h=>by cases h),fun h=>?_⟩
 ·rw [BV.1] at h; simp at h
 ·have hc:ao s=0:=by simpa using h
  rintro _ rfl
  refine key _ (fun h BV=>?_) (fun h=>⟨hc,by simpa using h⟩)
  rw [BV.2.1] at h; simp at h
theorem AZ {s:aa} {m:List Bool} {k:Nat} (h:(sel s.Ops.toNat (fun a=>pon s m a (k:Int))).length=1):0≤who s m s.Ops.toNat k∧who s m s.Ops.toNat k < s.Ops.toNat∧pon s m (who s m s.Ops.toNat k) k=true:=by
 have:=rY h
 have hm:who s m s.Ops.toNat k∈sel s.Ops.toNat (fun a=>pon s m a (k:Int)):=by
  unfold who
  rw [this]
  simp
 exact iW.mp hm
theorem Ez {s:aa} {m:List Bool} {t j:Nat} (h:j < t):gi ((List.range t).map (who s m s.Ops.toNat)) (j:Int)=who s m s.Ops.toNat j:=by
 rw [cA _ _ (by simp; omega)]; simp
theorem Dz (s:aa) (m:List Bool) (a:Int) (t:Nat):((nL s a t).filter (fun x=>gi m (x - 1))).length=(sel t (pon s m a)).length:=by
 unfold nL sel
 rw [List.filter_map,List.filter_map,List.length_map,List.length_map]
 rfl
theorem DA (s:aa) (m:List Bool) (k:Int) (t:Nat):((oA s k t).filter (fun x=>gi m (x - 1))).length=(sel t (fun a=>pon s m a k)).length:=by
 unfold oA sel
 rw [List.filter_map,List.filter_map,List.length_map,List.length_map]
 rfl
theorem Au {s:aa} {m:List Bool} (hc:ao s=0) (hl:(m.length:Int)=aw s) (v:Int):kO ⟨v,cc s⟩ m < 0↔fA s m:=by
 obtain ⟨c0,c1,c2,c3⟩:=fb hc
 have Wm:∀ a:Nat,a < s.Ops.toNat→∀ x∈nL s (a:Int) s.Ops.toNat,okl m x:=by
  intro a ha x hx
  unfold nL at hx
  rw [List.mem_map] at hx
  obtain ⟨k,hk,rfl⟩:=hx
  rw [List.mem_range] at hk
  obtain ⟨e,e1,e2,e3,e4⟩:=mX hc (a:=(a:Int)) (k:=(k:Int)) (by omega) (by omega) (by omega) (by omega)
  exact ⟨e1,by omega,by omega⟩
 have Fo:∀ k:Nat,k < s.Ops.toNat→∀ x∈oA s (k:Int) s.Ops.toNat,okl m x:=by
  intro k hk x hx
  unfold oA at hx
  rw [List.mem_map] at hx
  obtain ⟨a,ha,rfl⟩:=hx
  rw [List.mem_range] at ha
  obtain ⟨e,e1,e2,e3,e4⟩:=mX hc (a:=(a:Int)) (k:=(k:Int)) (by omega) (by omega) (by omega) (by omega)
  exact ⟨e1,by omega,by omega⟩
 have hP:∀ a:Nat,a < s.Ops.toNat→((wL s a).all (fun c=>cv c m)=true↔(sel s.Ops.toNat (pon s m (a:Int))).length=1):=by
  intro a ha
  unfold wL
  rw [List.all_cons,Bool.and_eq_true,qI (Wm a ha),mn (Wm a ha),any_filter,Dz]
  omega
 have hC:∀ k:Nat,k < s.Ops.toNat→((DR s k).all (fun c=>cv c m)=true↔(sel s.Ops.toNat (fun a=>pon s m a (k:Int))).length≤1):=by
  intro k hk
  unfold DR
  rw [mn (Fo k hk),DA]
 rw [nH]
 unfold cc
 rw [if_pos hc,List.all_append,Bool.and_eq_true,List.all_flatMap,List.all_flatMap,List.all_eq_true,List.all_eq_true]
 constructor
 ·rintro ⟨h1,h2⟩
  exact FF hc hl (fun a ha=>(hP a ha).mp (h1 a (List.mem_range.mpr ha))) (fun k hk=>(hC k hk).mp (h2 k (List.mem_range.mpr hk)))
 ·intro BV
  refine ⟨fun a ha=>?_,fun k hk=>?_⟩
  ·rw [List.mem_range] at ha
   exact (hP a ha).mpr (pC BV ha)
  ·rw [List.mem_range] at hk
   exact (hC k hk).mpr (Nat.le_of_eq (pD BV hk))
theorem v68 (s:aa) (a b:Int):VC68 s a b (fun r=>r=bL s a b):=by
 intro r hr; exact hr.symm
theorem v70 (b:Int) (s:aa) (a:Int):VC70 b s a (fun r=>r=fg b s a):=by
 intro r hr; exact hr.symm
theorem yI {s:aa} {a b:Int} (hc:ao s=0) (ha:0≤a) (B8:a≤s.Ops) (hb:0≤b) (hb1:b < s.ab) :
  bL s a b=s.Ops * s.Ops+s.Ops+a * s.ab+b+1∧1≤bL s a b∧bL s a b≤aw s∧aw s≤10000:=by
 obtain ⟨h0,h1,h2,h3⟩:=fb hc
 have hm:=pA h0 h1 h0 h1
 have hn:=pA (a:=a) (b:=s.ab) ha (by omega:a≤64) (by omega) h3
 have hk:a * s.ab≤s.Ops * s.ab:=Int.mul_le_mul_of_nonneg_right B8 (by omega)
 have hv:aw s=s.Ops * s.Ops+s.Ops+(s.Ops * s.ab+s.ab):=by
  unfold aw; rw [if_pos hc,Int.mul_add,Int.mul_comm s.ab,Int.mul_one]
 have hz:=pA (a:=s.Ops) (b:=s.ab) h0 h1 (by omega) h3
 have e:bL s a b=s.Ops * s.Ops+s.Ops+a * s.ab+b+1:=by
  unfold bL bd
  rw [if_pos]
  ·simp [base,wide]
  ·refine ⟨hc,by simp,by simp,ha,?_,hb,?_⟩
   ·simp [tW]; omega
   ·simpa [wide] using hb1
 rw [e,hv]
 omega
theorem lV (s:aa) (m:List Bool) (a:Int) (t:Nat):g9 s m a (t+1)=g9 s m a t++(if on s m a (t:Int)=true then [(t:Int)] else []):=by
 unfold g9
 rw [List.range_succ,List.map_append,List.filter_append]
 simp only [List.map_cons,List.map_nil,List.filter_cons,List.filter_nil]
 rfl
theorem CI (s:aa) (m:List Bool) (a:Int) (t:Nat):(g9 s m a t).length≤t:=by
 unfold g9
 refine Nat.le_trans (List.length_filter_le _ _) ?_
 simp
theorem v86 (a:Int) (s:aa) (m:List Bool) (ok:Bool) (h:r7 a s m ok):VC86 a s m ok (fun r=>r=fa a s m ok):=by
 obtain ⟨hc,hl,ha,B8⟩:=h
 obtain ⟨h0,h1,h2,h3⟩:=fb hc
 unfold VC86
 intro _
 refine ⟨fun st many x=>∃ t:Nat,x=t∧(t:Int)≤s.ab∧st=(g9 s m a t).getLastD 0∧many=(g9 s m a t).length,fun _ _ x=>(s.ab - x).toNat,⟨0,rfl,by omega,rfl,rfl⟩,?_⟩
 rintro _ _ _ ⟨t,rfl,ht,rfl,rfl⟩
 simp only [decide_eq_true_eq,decide_eq_false_iff_not]
 refine ⟨fun hx r hr=>?_,fun hx=>?_⟩
 ·subst hr
  obtain ⟨e,e1,e2,e3⟩:=yI hc ha B8 (b:=(t:Int)) (by omega) hx
  have hlen:=CI s m a t
  rw [wrp (n:=bL s a t - 1) (by omega) (by omega)]
  unfold VC86_J2
  rw [wrp (n:=(t:Int)+1) (by omega) (by omega),wrp (n:=((g9 s m a t).length:Int)+1) (by omega) (by omega)]
  refine ⟨by omega,fun hg=>?_,fun hg=>?_⟩
  ·have PO:on s m a (t:Int)=true:=hg
   refine ⟨⟨t+1,by simp,by omega,?_,?_⟩,by dsimp only; omega⟩
   ·rw [lV,if_pos PO]; simp
   ·rw [lV,if_pos PO]; simp
  ·have PO:¬ on s m a (t:Int)=true:=by
    have ZZ:on s m a (t:Int)=false:=hg
    simp [ZZ]
   refine ⟨⟨t+1,by simp,by omega,?_,?_⟩,by dsimp only; omega⟩
   ·rw [lV,if_neg PO]; simp
   ·rw [lV,if_neg PO]; simp
 ·have:s.ab.toNat=t:=by omega
  unfold VC86_J1 fa
  rw [this]
  congr 2
  rw [Bool.eq_iff_iff,beq_iff_eq,beq_iff_eq]
  omega
theorem v69_86 (n:Int) (s:aa) (m:List Bool) (ok:Bool) (h:r8 n s m ok):VC69_86 n s m ok (fun r=>r=bF n s m ok):=by
 obtain ⟨hc,hl,rfl⟩:=h
 obtain ⟨h0,h1,h2,h3⟩:=fb hc
 unfold VC69_86
 intro _
 obtain ⟨k,hk⟩:=Int.eq_ofNat_of_zero_le (by omega:0≤s.Ops+1)
 rw [hk]
 have Un:(Int.ofNat k).toNat=k:=rfl
 simp only [Int.toNat_natCast,List.length_replicate,decide_eq_true_eq,decide_eq_false_iff_not]
 refine ⟨by omega,fun out x o=>∃ t:Nat,x=t∧t≤k∧out=(List.range t).map (lh s m)++List.replicate (k - t) 0∧o=(ok && (List.range t).all (oneOf s m)),fun _ x _=>(k - x).toNat,⟨0,rfl,by omega,by simp,by simp⟩,?_⟩
 rintro _ _ _ ⟨t,rfl,ht,rfl,rfl⟩
 refine ⟨fun hx=>⟨⟨hc,hl,by omega,by omega⟩,fun r hr=>?_⟩,fun hx=>?_⟩
 ·subst hr
  have hx:t < k:=by omega
  rw [wrp (by omega) (by omega)]
  refine ⟨⟨by omega,by simp; omega⟩,⟨t+1,by simp,by omega,?_,?_⟩,by dsimp only; omega⟩
  ·rw [show k - t=(k - (t+1))+1 by omega,List.replicate_succ,lY _ _ _ _ (by simp)]
   rw [List.range_succ,List.map_append,List.append_assoc]
   simp [fa,lh]
  ·rw [List.range_succ,List.all_append]
   simp [fa,oneOf,Bool.and_assoc]
 ·have:t=k:=by omega
  subst this
  unfold VC69_86_J1 bF
  simp
theorem v36 (s:aa) (m:List Bool):VC36 s m (fun r=>r=aQ s m):=by
 unfold VC36
 intro _ r hr
 subst hr
 refine ⟨fun h=>?_,fun h r hr=>?_⟩
 ·have h:ao s≠0:=by simpa using h
  simp [VC36_J1,aQ,h]
 ·subst hr
  have hc:ao s=0:=by simpa using h
  obtain ⟨h0,h1,h2,h3⟩:=fb hc
  unfold VC36_J1
  refine ⟨fun h=>?_,fun h=>?_⟩
  ·have h:¬ (m.length:Int)=aw s:=by simpa using h
   simp [aQ,h]
  ·have hl:(m.length:Int)=aw s:=by simpa using h
   rw [wrp (by omega) (by omega)]
   refine ⟨⟨hc,hl,rfl⟩,fun r hr _=>?_⟩
   subst hr
   unfold bF aQ
   cases hb:(List.range (s.Ops+1).toNat).all (oneOf s m) with
   | true=>simp [hc,hl]
   | false=>simp
theorem zn (s:aa) (a:Int) (t:Nat):rowAt s a (t+1)=rowAt s a t++[bL s a (t:Int)]:=by
 unfold rowAt
 rw [List.range_succ,List.map_append]
 rfl
theorem ny (s:aa) (a:Int) (t:Nat):(rowAt s a t).length=t:=by simp [rowAt]
theorem v69_70 (n:Int) (s:aa) (a:Int) (h:px n s a):VC69_70 n s a (fun r=>r=bD n s a):=by
 obtain ⟨h0,h1⟩:=h
 unfold VC69_70
 obtain ⟨k,hk⟩:=Int.eq_ofNat_of_zero_le h0
 subst hk
 simp only [Int.toNat_natCast,List.length_replicate,decide_eq_true_eq,decide_eq_false_iff_not]
 refine ⟨by omega,fun out x=>∃ t:Nat,x=t∧t≤k∧out=rowAt s a t++List.replicate (k - t) 0,fun _ x=>(k - x).toNat,⟨0,rfl,by omega,by simp [rowAt]⟩,?_⟩
 rintro _ _ ⟨t,rfl,ht,rfl⟩
 refine ⟨fun hx r hr=>?_,fun hx=>?_⟩
 ·subst hr
  have hx:t < k:=by omega
  rw [wrp (by omega) (by omega)]
  have hl:=ny s a t
  refine ⟨⟨by omega,by simp [hl]; omega⟩,⟨t+1,by simp,by omega,?_⟩,by dsimp only; omega⟩
  rw [show k - t=(k - (t+1))+1 by omega,List.replicate_succ,lY _ _ _ _ (by simp [hl]),zn]
  simp [fg]
 ·have:t=k:=by omega
  subst this
  unfold VC69_70_J1 bD
  simp
theorem Ju {s:aa} (h:ao s=0) (a:Nat):(blk s a).length≤1025:=by
 obtain ⟨h0,h1,h2,h3⟩:=fb h
 have h1:=mZ (rowAt s (a:Int) s.ab.toNat)
 rw [ny] at h1
 have h2:s.ab.toNat * s.ab.toNat≤32 * 32:=Nat.mul_le_mul (by omega) (by omega)
 unfold blk
 rw [List.length_cons]
 omega
theorem yF {s:aa} (h:ao s=0) (t:Nat):((List.range t).flatMap (blk s)).length≤1025 * t:=by
 induction t with
 | zero=>simp
 | succ t ih =>
  have:=Ju h t
  rw [List.range_succ,List.flatMap_append,List.length_append]
  simp only [List.flatMap_cons,List.flatMap_nil,List.append_nil]
  omega
theorem DP (s:aa) (t:Nat):(List.range (t+1)).flatMap (blk s)=(List.range t).flatMap (blk s)++blk s t:=by
 rw [List.range_succ,List.flatMap_append]; simp
theorem v23 (s:aa) (init:Int):VC23 s init (fun r=>r=cb s init):=by
 unfold VC23
 intro r hr
 subst hr
 simp only [Bool.or_eq_true,decide_eq_true_eq,Bool.or_eq_false_iff,decide_eq_false_iff_not,bne_iff_ne,bne_eq_false_iff_eq]
 refine ⟨fun h=>?_,fun h=>?_⟩
 ·unfold cb; rw [if_neg (by omega)]
 ·obtain ⟨⟨hc,hi0⟩,hi1⟩:=h
  obtain ⟨h0,h1,h2,h3⟩:=fb hc
  intro r hr
  subst hr
  rw [wrp (n:=s.Ops+1) (by omega) (by omega)]
  refine ⟨fun out x=>∃ t:Nat,x=t∧(t:Int)≤s.Ops+1∧out=[bL s 0 init] :: (List.range t).flatMap (blk s),fun _ x=>(s.Ops+1 - x).toNat,⟨0,rfl,by omega,by simp⟩,?_⟩
  rintro _ _ ⟨t,rfl,ht,rfl⟩
  have hl:=yF hc t
  refine ⟨fun hx=>⟨⟨by omega,by omega⟩,fun r hr _=>?_⟩,fun hx=>?_⟩
  ·subst hr
   have hr:=ny s (t:Int) s.ab.toNat
   unfold bD
   have hm:=mZ (rowAt s (t:Int) s.ab.toNat)
   rw [hr] at hm
   have h4:s.ab.toNat * s.ab.toNat≤32 * 32:=Nat.mul_le_mul (by omega) (by omega)
   refine ⟨by simp only [List.length_append,List.length_cons,List.length_nil]; omega,by unfold iY; omega,fun r hr _=>?_⟩
   subst hr
   unfold dD
   rw [wrp (by omega) (by omega)]
   refine ⟨by simp only [List.length_append,List.length_cons,List.length_nil]; omega,⟨t+1,by simp,by omega,?_⟩,by dsimp only; omega⟩
   rw [DP]
   simp [blk]
  ·have:(s.Ops+1).toNat=t:=by omega
   unfold VC23_J1 cb
   rw [if_pos ⟨hc,by omega,by omega⟩,this]
theorem Ao (s:aa) (m:List Bool) (a:Nat) (t:Nat):((rowAt s a t).filter (fun x=>gi m (x - 1))).length=(g9 s m a t).length:=by
 unfold rowAt g9
 rw [List.filter_map,List.filter_map,List.length_map,List.length_map]
 rfl
theorem H4 {s:aa} {m:List Bool} (hc:ao s=0) (hl:(m.length:Int)=aw s) {a:Nat} (ha:(a:Int)≤s.Ops):∀ x∈rowAt s a s.ab.toNat,okl m x:=by
 intro x hx
 simp only [rowAt,List.mem_map,List.mem_range] at hx
 obtain ⟨b,hb,rfl⟩:=hx
 obtain ⟨e,e1,e2,e3⟩:=yI hc (a:=(a:Int)) (by omega) ha (b:=(b:Int)) (by omega) (by omega)
 exact ⟨e1,by omega,by omega⟩
theorem DQ {s:aa} {m:List Bool} (hc:ao s=0) (hl:(m.length:Int)=aw s) {a:Nat} (ha:(a:Int)≤s.Ops):(blk s a).all (fun c=>cv c m)=oneOf s m a:=by
 have hk:=H4 hc hl ha
 rw [Bool.eq_iff_iff]
 unfold blk oneOf
 rw [List.all_cons,Bool.and_eq_true,qI hk,mn hk,any_filter,Ao,beq_iff_eq]
 omega
theorem yw {s:aa} {m:List Bool} {init:Int} (hc:ao s=0) (hl:(m.length:Int)=aw s) (h0:0≤init) (h1:init < s.ab) (n:Int) :
  kO ⟨n,cb s init⟩ m < 0↔on s m 0 init=true∧(List.range (s.Ops+1).toNat).all (oneOf s m)=true:=by
 obtain ⟨k0,k1,k2,k3⟩:=fb hc
 rw [nH]
 unfold cb
 rw [if_pos ⟨hc,h0,h1⟩,List.all_cons,Bool.and_eq_true]
 obtain ⟨e,e1,e2,e3⟩:=yI hc (a:=0) (by omega) (by omega) (b:=init) h0 h1
 have hh:cv [bL s 0 init] m=on s m 0 init:=by
  rw [qI]
  ·simp [on]
  ·intro x hx
   rw [List.mem_singleton] at hx
   subst hx
   exact ⟨e1,by omega,by omega⟩
 rw [hh,List.all_flatMap]
 refine and_congr Iff.rfl ?_
 rw [List.all_eq_true,List.all_eq_true]
 refine forall_congr' fun a=>?_
 refine imp_congr_right fun ha=>?_
 rw [List.mem_range] at ha
 rw [DQ hc hl (by omega)]
theorem lC {s:aa} {m:List Bool} {a:Int} {t:Nat} {x:Int}:x∈g9 s m a t↔0≤x∧x < t∧on s m a x=true:=by
 unfold g9
 rw [List.mem_filter,List.mem_map]
 constructor
 ·rintro ⟨⟨y,hy,rfl⟩,h⟩
  rw [List.mem_range] at hy
  exact ⟨by simp,by simpa using hy,h⟩
 ·rintro ⟨h0,h1,h⟩
  exact ⟨⟨x.toNat,by rw [List.mem_range]; omega,by simp; omega⟩,h⟩
theorem xK {s:aa} {m:List Bool} {a:Nat} (h:oneOf s m a=true):g9 s m a s.ab.toNat=[lh s m a]:=by
 unfold oneOf at h
 rw [beq_iff_eq] at h
 unfold lh
 match htr:g9 s m a s.ab.toNat,h with
 | [x],_=>rfl
theorem v66 (p:Int × Int) (n:Int):VC66 p n (fun r=>r=dH p n):=by
 unfold VC66 dH
 show _=_
 rw [Bool.eq_iff_iff]
 simp only [Bool.and_eq_true,decide_eq_true_eq,bne_iff_ne]
 constructor
 ·rintro ⟨⟨h1,h2⟩,h3⟩
  split at h1 <;> split at h2 <;> refine ⟨?_,?_,?_,?_,h3⟩ <;> omega
 ·rintro ⟨h1,h2,h3,h4,h5⟩
  refine ⟨⟨?_,?_⟩,h5⟩ <;> split <;> omega
theorem v125 (x:Int) (order:List Int):VC125 x order (fun r=>r=cS x order):=by
 intro _ r hr; exact hr.symm
theorem v84 (order:List Int) (aJ:List (Int × Int)):VC84 order aJ (fun r=>r=di order aJ):=by
 unfold VC84
 intro _ hl
 simp only [sm] at hl
 refine ⟨fun i=>0≤i∧i≤aJ.length∧∀ j:Int,0≤j→j < i→ix order (gi aJ j)=false,fun i=>(aJ.length - i).toNat,⟨by omega,by omega,fun j h0 h1=>by omega⟩,?_⟩
 rintro i ⟨h0,h1,h2⟩
 have e:ix order (gi aJ i)=(decide (cS (gi aJ i).1 order≥0) && decide (cS (gi aJ i).2 order≥0) && decide (cS (gi aJ i).2 order < cS (gi aJ i).1 order)):=by
  unfold ix cS
  rw [Bool.eq_iff_iff]
  simp only [Bool.and_eq_true,decide_eq_true_eq]
  omega
 refine ⟨fun hi=>⟨⟨by omega,by simpa using hi⟩,?_⟩,fun hi=>?_⟩
 ·rintro _ rfl _ rfl
  rw [decide_eq_true_eq] at hi
  rw [← e]
  refine ⟨fun he=>?_,fun he=>?_⟩
  ·unfold di
   rw [pT h0 hi he h2]
   dsimp only; rw [show ((i.toNat:Nat):Int)=i by omega]
  ·rw [wrp (by omega) (by omega)]
   refine ⟨⟨by omega,by omega,fun j j0 j1=>?_⟩,by dsimp only; omega⟩
   by_cases hj:j < i
   ·exact h2 j j0 hj
   ·rw [show j=i by omega]; exact he
 ·rw [decide_eq_false_iff_not] at hi
  unfold VC84_J1 di
  rw [pS (fun j j0 j1=>h2 j j0 (by omega))]
theorem v64 (a b:Int) (s:aa):VC64 a b s (fun r=>r=eA a b s):=by
 intro r hr; exact hr.symm
theorem re (s:aa) (p:Int × Int) (n:Nat):mb s p (n+1)=mb s p n++(List.range n).map (kQ s p n):=by
 unfold mb
 rw [List.range_succ,List.flatMap_append]; simp
theorem qy (s:aa) (p:Int × Int):∀ n:Nat,n≤64→(mb s p n).length≤64 * n
 | 0,_=>by simp [mb]
 | n+1,h=>by
  have:=qy s p n (by omega)
  rw [re,List.length_append,List.length_map,List.length_range]
  omega
theorem zD {s:aa} (h:s.Ops≤64) (p:Int × Int):(fT s p).length≤4096:=by
 unfold fT
 split
 ·have:=qy s p s.Ops.toNat (by omega); omega
 ·simp
theorem wO {s:aa} (h:s.Ops≤64):∀ l:List (Int × Int),(l.flatMap (fT s)).length≤4096 * l.length
 | []=>by simp
 | p :: l=>by
  have h1:=wO h l
  have h2:=zD h p
  rw [List.flatMap_cons,List.length_append,List.length_cons]
  omega
theorem xk {s:aa} {l:List (Int × Int)} {t:Nat} (h:t < l.length):(l.take (t+1)).flatMap (fT s)=(l.take t).flatMap (fT s)++fT s (gi l t):=by
 rw [List.take_succ_eq_append_getElem h,List.flatMap_append,cA _ _ h]; simp
theorem kn {α:Type} (f:Nat→α) (n:Nat):(List.range (n+1)).map f=(List.range n).map f++[f n]:=by
 rw [List.range_succ,List.map_append]; rfl
theorem v21 (s:aa) (aJ:List (Int × Int)) (h:r9 s aJ):VC21 s aJ (fun r=>r=cH s aJ):=by
 have hp:aJ.length≤1000:=h
 unfold VC21
 intro _ r hr
 subst hr
 simp only [bne_iff_ne,bne_eq_false_iff_eq]
 refine ⟨fun h=>?_,fun hc=>?_⟩
 ·unfold cH; rw [if_neg h]
 ·obtain ⟨h0,h1,h2,h3⟩:=fb hc
  simp only [decide_eq_true_eq,decide_eq_false_iff_not]
  refine ⟨fun out x=>∃ t:Nat,x=t∧t≤aJ.length∧out=(aJ.take t).flatMap (fT s),fun _ x=>(aJ.length - x).toNat,⟨0,rfl,by omega,by simp⟩,?_⟩
  rintro _ _ ⟨t,rfl,ht,rfl⟩
  have hl:=wO (s:=s) h1 (aJ.take t)
  rw [List.length_take,Nat.min_eq_left ht] at hl
  refine ⟨fun hx=>⟨⟨by omega,hx⟩,fun r hr=>?_⟩,fun hx=>?_⟩
  ·subst hr
   have hx:t < aJ.length:=by omega
   refine ⟨fun hf=>?_,fun hf=>?_⟩
   ·unfold VC21_J2
    rw [wrp (by omega) (by omega)]
    refine ⟨⟨t+1,by simp,by omega,?_⟩,by dsimp only; omega⟩
    have hf:dH (gi aJ t) s.Ops=false:=by simpa using hf
    rw [xk hx,fT,if_neg (by rw [hf]; decide),List.append_nil]
   ·have hf:dH (gi aJ t) s.Ops=true:=by simpa using hf
    refine ⟨fun out a=>∃ u:Nat,a=u∧(u:Int)≤s.Ops∧out=(aJ.take t).flatMap (fT s)++mb s (gi aJ t) u,fun _ a=>(s.Ops - a).toNat,⟨0,rfl,by omega,by simp [mb]⟩,?_⟩
    rintro _ _ ⟨u,rfl,hu,rfl⟩
    have hcl:=qy s (gi aJ t) u (by omega)
    refine ⟨fun ha=>?_,fun ha=>?_⟩
    ·refine ⟨fun out b=>∃ v:Nat,b=v∧v≤u∧out=(aJ.take t).flatMap (fT s)++(mb s (gi aJ t) u++(List.range v).map (kQ s (gi aJ t) u)),fun _ b=>(u - b).toNat,⟨0,rfl,by omega,by simp⟩,?_⟩
     rintro _ _ ⟨v,rfl,hv,rfl⟩
     refine ⟨fun hb=>?_,fun hb=>?_⟩
     ·rintro _ rfl _ rfl
      rw [wrp (n:=(v:Int)+1) (by omega) (by omega)]
      refine ⟨?_,⟨v+1,by simp,by omega,?_⟩,by dsimp only; omega⟩
      ·simp only [List.length_append,List.length_map,List.length_range,List.length_cons,List.length_nil]; omega
      ·rw [kn]; simp [kQ,eA,jW]
     ·have:v=u:=by omega
      subst this
      unfold VC21_J3
      rw [wrp (by omega) (by omega)]
      refine ⟨⟨v+1,by simp,by omega,?_⟩,by dsimp only; omega⟩
      rw [re]
    ·have:u=s.Ops.toNat:=by omega
     subst this
     unfold VC21_J2
     rw [wrp (by omega) (by omega)]
     refine ⟨⟨t+1,by simp,by omega,?_⟩,by dsimp only; omega⟩
     rw [xk hx,fT,if_pos hf]
  ·have:t=aJ.length:=by omega
   subst this
   unfold VC21_J1 cH
   rw [if_pos hc,List.take_length]
theorem py (l:List ae) (i t:Nat):iv l i (t+1)=iv l i t++(if bG (gi l (i:Int)) (gi l (t:Int))=true then [((i:Int),(t:Int))] else []):=by
 unfold iv
 rw [List.range_succ,List.filter_append,List.map_append,List.filter_cons,List.filter_nil]
 split <;> rfl
theorem sZ (l:List ae) (i t:Nat):(iv l i t).length≤t:=by
 unfold iv
 rw [List.length_map]
 refine Nat.le_trans (List.length_filter_le _ _) ?_
 simp
theorem sY (l:List ae) (n:Nat):∀ t,((List.range t).flatMap (fun i=>iv l i n)).length≤n * t
 | 0=>by simp
 | t+1=>by
  have h1:=sY l n t
  have h2:=sZ l t n
  rw [List.range_succ,List.flatMap_append,List.length_append,Nat.mul_add]
  simp only [List.flatMap_cons,List.flatMap_nil,List.append_nil]
  omega
theorem v22 (l:List ae) (h:gA l):VC22 l (fun r=>r=bS l):=by
 have hl:l.length≤5000:=h
 have Zo:∀ t,t≤l.length→l.length * t≤5000 * 5000:=fun t ht=>Nat.mul_le_mul hl (by omega)
 unfold VC22
 intro _
 simp only [decide_eq_true_eq,decide_eq_false_iff_not]
 refine ⟨fun out x=>∃ t:Nat,x=t∧t≤l.length∧out=(List.range t).flatMap (fun i=>iv l i l.length),fun _ x=>(l.length - x).toNat,⟨0,rfl,by omega,rfl⟩,?_⟩
 rintro _ _ ⟨t,rfl,ht,rfl⟩
 have Ad:=sY l l.length t
 have hq:=Zo t ht
 refine ⟨fun hx=>⟨⟨by omega,hx⟩,?_⟩,fun hx=>?_⟩
 ·refine ⟨fun out y=>∃ u:Nat,y=u∧u≤l.length∧out=(List.range t).flatMap (fun i=>iv l i l.length)++iv l t u,fun _ y=>(l.length - y).toNat,⟨0,rfl,by omega,by simp [iv]⟩,?_⟩
  rintro _ _ ⟨u,rfl,hu,rfl⟩
  have Ua:=sZ l t u
  refine ⟨fun hy=>⟨⟨by omega,hy⟩,?_⟩,fun hy=>?_⟩
  ·rintro _ rfl
   refine ⟨fun ha=>⟨?_,?_⟩,fun ha=>?_⟩
   ·simp only [List.length_append,List.length_cons,List.length_nil]; omega
   ·unfold VC22_J3
    rw [wrp (by omega) (by omega)]
    refine ⟨⟨u+1,by simp,by omega,?_⟩,by dsimp only; omega⟩
    rw [py,if_pos ha,List.append_assoc]
   ·unfold VC22_J3
    rw [wrp (by omega) (by omega)]
    refine ⟨⟨u+1,by simp,by omega,?_⟩,by dsimp only; omega⟩
    rw [py,if_neg (by rw [ha]; decide),List.append_nil]
  ·have:u=l.length:=by omega
   subst this
   unfold VC22_J2
   rw [wrp (by omega) (by omega)]
   refine ⟨⟨t+1,by simp,by omega,?_⟩,by dsimp only; omega⟩
   rw [List.range_succ,List.flatMap_append]; simp
 ·have:t=l.length:=by omega
  subst this
  rfl
theorem qM {α:Type} [Inhabited α] {l:List α} {i:Int} (h0:0≤i) (h:i < l.length):l.drop i.toNat=gi l i :: l.drop (i+1).toNat:=by
 have h1:i.toNat < l.length:=by omega
 rw [pN h0 h,List.drop_eq_getElem_cons h1]
 congr 2
 omega
theorem nr {α:Type} [Inhabited α] {l:List α} {i:Int} (h0:0≤i) (h:i < l.length):l.take (i+1).toNat=l.take i.toNat++[gi l i]:=by
 have h1:i.toNat < l.length:=by omega
 rw [pN h0 h,show (i+1).toNat=i.toNat+1 by omega,List.take_succ_eq_append_getElem h1]
theorem qC (vars:Int) (hv:0≤vars∧vars≤100000):∀ c:List Int,im vars c=0↔∀ l∈c,l≠0∧-vars≤l∧l≤vars
 | []=>by simp [im]
 | l :: c=>by
  have ih:=qC vars hv c
  have e:pH l vars=0↔l≠0∧-vars≤l∧l≤vars:=by unfold pH; rw [if_neg (by omega)]; split <;> simp <;> omega
  unfold im
  by_cases h:pH l vars=0
  ·rw [if_neg (by simp [h])]; rw [ih]; simp [e.1 h]
  ·rw [if_pos h]; constructor
   ·intro h'; exact absurd h' h
   ·intro h'; exact absurd (e.2 (h' l (by simp))) h
theorem rr (c:List Int) (vars:Int) (hv:0≤vars∧vars≤100000):eU c vars=0↔c.length≤1000∧(∀ l∈c,l≠0∧-vars≤l∧l≤vars)∧c.Nodup:=by
 unfold eU
 rw [if_neg (by omega)]
 by_cases h1:c.length > 1000
 ·rw [if_pos h1]; constructor
  ·intro h; simp at h
  ·intro h; omega
 ·rw [if_neg h1]
  have hl:=qC vars hv c
  by_cases h2:im vars c=0
  ·rw [if_neg (by simp [h2])]
   by_cases h3:c.Nodup
   ·rw [if_pos h3]; simp [h3,hl.1 h2]; exact ⟨by omega,hl.1 h2⟩
   ·rw [if_neg h3]; simp [h3]
  ·rw [if_pos h2]; constructor
   ·intro h; exact absurd h h2
   ·intro h; exact absurd (hl.2 h.2.1) h2
theorem pc (l:Int):varOf l≠0↔l≠0∧-100000≤l∧l≤100000:=by
 unfold varOf; repeat' split
 all_goals omega
theorem vF (l:Int):0≤varOf l:=by
 unfold varOf; repeat' split
 all_goals omega
theorem v211 (l vars:Int) (hp:xC l vars):VC211 l vars (fun r=>r=dW l vars):=by
 unfold VC211 dW
 obtain ⟨h0,h1⟩:=hp
 rw [wrp (by omega) (by omega),show (0 - vars:Int)=-vars by omega]
theorem Ab (l vars:Int):dW l vars=true↔l≠0∧-vars≤l∧l≤vars:=by
 unfold dW; simp; omega
theorem v269 (l:Int):VC269 l (fun r=>r=oF l):=by
 refine ⟨⟨by omega,by omega⟩,?_⟩
 rintro _ rfl
 rw [Bool.eq_iff_iff,Ab]
 unfold oF
 have:=pc l
 simp only [bne_iff_ne]
 rw [this]
theorem v212 (l:Int):VC212 l (fun r=>r=nG l):=by
 rintro _ rfl
 unfold oF nG
 refine ⟨fun h=>?_,fun h=>?_⟩
 ·have h:varOf l=0:=by simpa using h
  rw [h]
 ·have h:varOf l≠0:=by simpa using h
  have:=(pc l).1 h
  rw [wrp (by omega) (by omega)]
  unfold varOf; repeat' split
  all_goals omega
theorem v164 (l vars:Int):VC164 l vars (fun r=>r=iK l vars):=by
 unfold iK pH
 refine ⟨fun h=>?_,fun h=>?_⟩
 ·rw [if_pos (by simpa using h)]
 ·have hv:¬ (vars < 0∨vars > 100000):=by simpa using h
  refine ⟨⟨by omega,by omega⟩,?_⟩
  rintro _ rfl
  rw [if_neg hv]
  refine ⟨fun h=>?_,fun h=>?_⟩
  ·rw [if_pos]
   by_cases h1:l=0∨l < -vars∨l > vars
   ·exact h1
   ·have:=(Ab l vars).2 (by omega)
    rw [this] at h; simp at h
  ·rw [if_neg]
   have:=(Ab l vars).1 (by simpa using h)
   omega
theorem qD (vars:Int):∀ a b,im vars (a++b)=if im vars a≠0 then im vars a else im vars b
 | [],b=>by simp [im]
 | l :: a,b=>by
  have st:∀ r,im vars (l :: r)=if pH l vars≠0 then pH l vars else im vars r:=fun _=>rfl
  rw [List.cons_append,st,st]
  by_cases h:pH l vars≠0
  ·rw [if_pos h,if_pos h,if_pos h]
  ·rw [if_neg h,if_neg h,qD vars a b]
theorem FG {vars:Int} {c:List Int} {i:Int} (h0:0≤i) (hi:i < c.length) (hz:im vars (c.take i.toNat)=0) (he:pH (gi c i) vars≠0):im vars c=pH (gi c i) vars:=by
 have e:c=c.take i.toNat++gi c i :: c.drop (i+1).toNat:=by rw [← qM h0 hi,List.take_append_drop]
 conv=>lhs; rw [e,qD,if_neg (by simp [hz])]
 unfold im; rw [if_pos he]
theorem zM {vars:Int} {c:List Int} {i:Int} (h0:0≤i) (hi:i < c.length) (hz:im vars (c.take i.toNat)=0) (he:pH (gi c i) vars=0):im vars (c.take (i+1).toNat)=0:=by
 rw [nr h0 hi,qD,if_neg (by simp [hz])]
 simp [im,he]
theorem G6 {f:Int→Bool} {c:List Int} {i:Int} (h0:0≤i) (hi:i < c.length) (hz:(c.take i.toNat).any f=false) (h:f (gi c i)=false):(c.take (i+1).toNat).any f=false:=by
 rw [nr h0 hi,List.any_append,hz]; simp [h]
theorem uy (m:List (Int × Int)):∀ (c:List Int) (m:List (Int × Int)) (l:Int),gH (c++[l]) m=if varOf l > 0 then gb (gH c m) l ((cd (gH c m) l).getD 0+1) else gH c m
 | [],m,l=>rfl
 | x :: c,m,l=>by rw [List.cons_append]; unfold gH; exact uy m c _ l
theorem pn:∀ (c:List Int) (m:List (Int × Int)) (x:Int),(cd (gH c m) x).getD 0=(cd m x).getD 0+if varOf x > 0 then (c.count x:Int) else 0
 | [],m,x=>by simp [gH]
 | l :: c,m,x=>by
  unfold gH
  rw [pn c _ x]
  by_cases hl:varOf l > 0
  ·rw [if_pos hl,uQ]
   by_cases hx:x=l
   ·subst hx; simp [hl]; omega
   ·have:¬ l=x:=fun e=>hx e.symm
    rw [if_neg hx,List.count_cons_of_ne this]
  ·rw [if_neg hl]
   by_cases hx:x=l
   ·subst hx; simp [hl]
   ·have:¬ l=x:=fun e=>hx e.symm
    rw [List.count_cons_of_ne this]
def mB (m:List (Int × Int)):List Int:=m.map fun q=>q.1
theorem qF:∀ (m:List (Int × Int)) (k x:Int),mB (gb m k x)=if k∈mB m then mB m else mB m++[k]
 | [],k,x=>by simp [mB,gb]
 | (a,b) :: m,k,x=>by
  have ih:=qF m k x
  unfold mB at *
  unfold gb
  by_cases h:a=k
  ·subst h; simp
  ·have h2:¬ k=a:=fun e=>h e.symm
   rw [if_neg h]
   simp only [List.map_cons,List.mem_cons,h2,false_or]
   rw [ih]
   split <;> simp
theorem FN (m:List (Int × Int)) (k x:Int):(gb m k x).length=if k∈mB m then m.length else m.length+1:=by
 have:=congrArg List.length (qF m k x)
 simp only [mB,List.length_map] at this
 rw [this]
 unfold mB
 split <;> simp
theorem xr:∀ (c:List Int) (m:List (Int × Int)),(∀ l∈c,varOf l > 0)→(gH c m).length≤m.length+c.length∧((gH c m).length=m.length+c.length↔c.Nodup∧∀ l∈c,l∉mB m)
 | [],m,_=>by simp [gH]
 | l :: c,m,h=>by
  have hl:=h l (by simp)
  obtain ⟨i1,i2⟩:=xr c (gb m l ((cd m l).getD 0+1)) (fun x hx=>h x (by simp [hx]))
  unfold gH
  rw [if_pos hl]
  have hm:=FN m l ((cd m l).getD 0+1)
  have hk:=qF m l ((cd m l).getD 0+1)
  by_cases hin:l∈mB m
  ·rw [if_pos hin] at hm hk
   rw [hm] at i1 i2
   refine ⟨by simp; omega,?_⟩
   constructor
   ·intro e; simp at e; omega
   ·intro e; exact absurd hin (e.2 l (by simp))
  ·rw [if_neg hin] at hm hk
   rw [hm] at i1 i2
   refine ⟨by simp; omega,?_⟩
   have e:((gH c (gb m l ((cd m l).getD 0+1))).length=m.length+(l :: c).length)↔((gH c (gb m l ((cd m l).getD 0+1))).length=m.length+1+c.length):=by simp; omega
   rw [e,i2,hk,List.nodup_cons]
   constructor
   ·rintro ⟨a,b⟩
    refine ⟨⟨fun x=>(b l x) (by simp),a⟩,fun x hx=>?_⟩
    rcases List.mem_cons.1 hx with rfl | hx
    ·exact hin
    ·exact fun y=>b x hx (by simp [y])
   ·rintro ⟨⟨a,b⟩,d⟩
    refine ⟨b,fun x hx y=>?_⟩
    rcases List.mem_append.1 y with y | y
    ·exact d x (by simp [hx]) y
    ·simp at y; subst y; exact a hx
theorem v165 (c:List Int) (hp:pv c):VC165 c (fun r=>r=fe c):=by
 intro _
 have hl:c.length≤1000000:=hp
 unfold VC165_J1 VC165_J2 fe
 refine ⟨fun m i=>0≤i∧i≤c.length∧m=gH (c.take i.toNat) [],fun _ i=>(c.length - i).toNat,⟨by omega,by omega,rfl⟩,?_⟩
 rintro m i ⟨h0,h1,hm⟩
 refine ⟨fun hi=>?_,fun hi=>?_⟩
 ·have hi:=of_decide_eq_true hi
  refine ⟨⟨h0,hi⟩,?_⟩
  rintro _ rfl
  have hs:=uy [] (c.take i.toNat) [] (gi c i)
  rw [← nr h0 hi,← hm] at hs
  have hg:=pn (c.take i.toNat) [] (gi c i)
  rw [← hm] at hg
  have hc:(c.take i.toNat).count (gi c i)≤1000000:=Nat.le_trans List.count_le_length (by simp; omega)
  have hb:0≤(cd m (gi c i)).getD 0∧(cd m (gi c i)).getD 0≤1000000:=by
   rw [hg]; simp only [cd,Option.getD_none]; split <;> omega
  rw [wrp (n:=i+1) (by omega) (by omega),wrp (n:=(cd m (gi c i)).getD 0+1) (by omega) (by omega)]
  refine ⟨fun h=>?_,fun h=>?_⟩
  ·have h:varOf (gi c i) > 0:=of_decide_eq_true h
   rw [if_pos h] at hs
   exact ⟨⟨by omega,by omega,hs.symm⟩,by first | omega | (dsimp only; omega)⟩
  ·have h:¬ varOf (gi c i) > 0:=of_decide_eq_false h
   rw [if_neg h] at hs
   exact ⟨⟨by omega,by omega,hs.symm⟩,by first | omega | (dsimp only; omega)⟩
 ·have hi:=of_decide_eq_false hi
  rw [show i.toNat=c.length by omega,List.take_length] at hm
  exact hm
theorem v167 (l:Int) (m:List (Int × Int)) (hp:Bl l m):VC167 l m (fun r=>r=dz l m):=by
 obtain ⟨h0,h1⟩:=hp
 unfold VC167 dz
 rw [wrp (by omega) (by omega),show (0 - l:Int)=-l by omega]
 refine ⟨fun h=>?_,fun h=>?_⟩
 ·rw [h,Bool.true_and]
 ·rw [h,Bool.false_and]
theorem tv (f:Int→Bool) (x:Int) (r:List Int) (k:Int):nZ f (x :: r) k=if f x then k else nZ f r (k+1):=rfl
theorem F3 {f:Int→Bool} {c:List Int} {i:Int} (h0:0≤i) (hi:i < c.length) (hz:(c.take i.toNat).any f=false) (h:f (gi c i)=true):idxOf f c=i:=by
 have key:∀ (a:List Int) (b:List Int) (k:Int),a.any f=false→nZ f (a++b) k=nZ f b (k+a.length):=by
  intro a
  induction a with
  | nil=>intro b k _; simp
  | cons x a ih =>
   intro b k ha
   rw [List.any_cons,Bool.or_eq_false_iff] at ha
   rw [List.cons_append,tv,if_neg (by simp [ha.1]),ih b (k+1) ha.2,List.length_cons]
   congr 1; omega
 have e:c=c.take i.toNat++gi c i :: c.drop (i+1).toNat:=by rw [← qM h0 hi,List.take_append_drop]
 unfold idxOf
 rw [e,key _ _ 0 hz,tv,if_pos h]
 simp; omega
theorem tu {f:Int→Bool}:∀ {c:List Int} (k:Int),c.any f=false→nZ f c k=-1
 | [],k,_=>rfl
 | x :: c,k,h=>by
  rw [List.any_cons,Bool.or_eq_false_iff] at h
  unfold nZ
  rw [if_neg (by simp [h.1])]
  exact tu _ h.2
theorem MA {f:Int→Bool} (c:List Int):decide (idxOf f c≥0)=c.any f:=by
 cases h:c.any f with
 | false=>unfold idxOf; rw [tu 0 h]; decide
 | true =>
  have key:∀ (c:List Int) (k:Int),0≤k→c.any f=true→0≤nZ f c k:=by
   intro c
   induction c with
   | nil=>intro k _ h; simp at h
   | cons x c ih =>
    intro k hk h
    unfold nZ
    split
    ·exact hk
    ·rename_i hx; rw [List.any_cons] at h; simp [hx] at h; exact ih (k+1) (by omega) (by simpa using h)
  exact decide_eq_true (key c 0 (by omega) h)
theorem v213_167 (c:List Int) (m:List (Int × Int)) (hp:qZ c m):VC213_167 c m (fun r=>r=bI c m):=by
 intro uc
 simp only [sm] at uc
 unfold VC213_167_J1 bI
 refine ⟨fun i=>0≤i∧i≤c.length∧(c.take i.toNat).any (fun l=>dz l m)=false,fun i=>(c.length - i).toNat,⟨by omega,by omega,by simp⟩,?_⟩
 rintro i ⟨h0,h1,hz⟩
 refine ⟨fun hi=>?_,fun hi=>?_⟩
 ·have hi:=of_decide_eq_true hi
  rw [wrp (n:=i+1) (by omega) (by omega)]
  refine ⟨⟨h0,hi⟩,hp _ (gS h0 hi),?_⟩
  rintro _ rfl
  refine ⟨fun h=>(F3 (f:=fun l=>dz l m) h0 hi hz h).symm,fun h=>⟨⟨by omega,by omega,G6 (f:=fun l=>dz l m) h0 hi hz h⟩,by first | omega | (dsimp only; omega)⟩⟩
 ·have hi:=of_decide_eq_false hi
  rw [show i.toNat=c.length by omega,List.take_length] at hz
  exact (tu 0 hz).symm
theorem v166_167 (c:List Int) (m:List (Int × Int)) (hp:qZ c m):VC166_167 c m (fun r=>r=bB c m):=by
 intro _
 refine ⟨hp,?_⟩
 rintro _ rfl
 exact MA c
theorem G7 {f g:Int→Bool} {c:List Int} (h:∀ l∈c,f l=g l):c.any f=c.any g:=by
 rw [Bool.eq_iff_iff,List.any_eq_true,List.any_eq_true]
 constructor
 ·rintro ⟨x,hx,hf⟩; exact ⟨x,hx,by rw [← h x hx]; exact hf⟩
 ·rintro ⟨x,hx,hf⟩; exact ⟨x,hx,by rw [h x hx]; exact hf⟩
theorem v120 (c:List Int) (hp:Bj c):VC120 c (fun r=>r=iM c):=by
 obtain ⟨hl,hb⟩:=hp
 intro _
 refine ⟨hl,?_⟩
 rintro _ rfl
 refine ⟨hb,?_⟩
 rintro _ rfl
 unfold bB iM jk
 refine G7 fun l hl=>?_
 unfold dz fe
 rw [pn,pn]
 have b:=hb l hl
 have hc:0 < c.count l:=List.count_pos_iff.2 hl
 have hz:∀ x:Int,(cd ([]:List (Int × Int)) x).getD 0=0:=fun _=>rfl
 rw [hz,hz]
 by_cases hv:varOf l=0
 ·rw [hv]; simp
 ·have a:=(pc l).1 hv
  have p1:=vF l
  have p2:=vF (-l)
  have hv2:varOf (-l)≠0:=(pc (-l)).2 (by omega)
  rw [if_pos (by omega),if_pos (by omega)]
  have e1:(varOf l != 0)=true:=by simpa using hv
  rw [e1,Bool.true_and,decide_eq_true (show (0:Int)+(c.count l:Int) > 0 by omega),Bool.true_and,Bool.eq_iff_iff]
  simp
theorem v119 (c:List Int) (vars:Int):VC119 c vars (fun r=>r=fH c vars):=by
 intro uc
 simp only [sm] at uc
 unfold VC119_J1 fH eU
 refine ⟨fun h=>?_,fun h=>⟨fun h2=>?_,fun h2=>?_⟩⟩
 ·rw [if_pos (by simpa using h)]
 ·rw [if_neg (by simpa using h),if_pos (by have:=of_decide_eq_true h2; omega)]
 ·have hv:¬ (vars < 0∨vars > 100000):=by simpa using h
  have hl:¬ c.length > 1000:=by have:=of_decide_eq_false h2; omega
  rw [if_neg hv,if_neg hl]
  refine ⟨fun i=>0≤i∧i≤c.length∧im vars (c.take i.toNat)=0,fun i=>(c.length - i).toNat,⟨by omega,by omega,rfl⟩,?_⟩
  rintro i ⟨h0,h1,hz⟩
  refine ⟨fun hi=>?_,fun hi=>?_⟩
  ·have hi:=of_decide_eq_true hi
   refine ⟨⟨h0,hi⟩,?_⟩
   rintro _ rfl
   rw [wrp (n:=i+1) (by omega) (by omega)]
   refine ⟨fun he=>?_,fun he=>⟨⟨by omega,by omega,zM h0 hi hz (by simpa [iK] using he)⟩,by first | omega | (dsimp only; omega)⟩⟩
   have he:pH (gi c i) vars≠0:=by simpa [iK] using he
   have e:=FG h0 hi hz he
   rw [if_pos (by rw [e]; exact he),e]; try rfl
  ·have hi:=of_decide_eq_false hi
   rw [show i.toNat=c.length by omega,List.take_length] at hz
   rw [if_neg (by simp [hz])]
   refine ⟨by show c.length≤1000000; omega,?_⟩
   rintro _ rfl
   have hb:=(qC vars (by omega) c).1 hz
   obtain ⟨i1,i2⟩:=xr c [] (fun l hl=>by
    have:=hb l hl
    have p:=vF l
    have:=(pc l).2 (by omega)
    omega)
   unfold fe
   simp only [List.length_nil,Nat.zero_add] at i1 i2
   by_cases hn:c.Nodup
   ·have:=i2.2 ⟨hn,fun l _=>by simp [mB]⟩
    rw [if_pos hn]
    refine ⟨fun h=>?_,fun _=>rfl⟩
    have:=of_decide_eq_true h
    omega
   ·have:¬ (gH c []).length=c.length:=fun e=>hn (i2.1 e).1
    rw [if_neg hn]
    refine ⟨fun _=>rfl,fun h=>?_⟩
    have:=of_decide_eq_false h
    omega
theorem As {vars:Int}:∀ (a b:List (List Int)) (k:Int),(∀ c∈a,eU c vars=0∧jk c=false)→mD vars (a++b) k=mD vars b (k+a.length)
 | [],b,k,_=>by simp
 | x :: a,b,k,h=>by
  obtain ⟨h1,h2⟩:=h x (by simp)
  rw [List.cons_append]
  have st:∀ r k,mD vars (x :: r) k=if eU x vars≠0 then (k,eU x vars) else if jk x then (k,11) else mD vars r (k+1):=fun _ _=>rfl
  rw [st,if_neg (by simp [h1]),if_neg (by simp [h2]),As a b (k+1) (fun c hc=>h c (by simp [hc])),List.length_cons]
  congr 1; omega
theorem DG {l:List (List Int)} {i:Int} (h0:0≤i) (hi:i < l.length):l=l.take i.toNat++gi l i :: l.drop (i+1).toNat:=by rw [← qM h0 hi,List.take_append_drop]
theorem Jd {vars:Int} {l:List (List Int)} {i:Int} (h0:0≤i) (hi:i < l.length) (h:∀ c∈l.take i.toNat,eU c vars=0∧jk c=false):mD vars l 0=if eU (gi l i) vars≠0 then (i,eU (gi l i) vars) else if jk (gi l i) then (i,11) else mD vars (l.drop (i+1).toNat) (i+1):=by
 have e:=DG h0 hi
 conv=>lhs; rw [e,As _ _ 0 h]
 have:(0:Int)+((l.take i.toNat).length:Int)=i:=by simp; omega
 rw [this]
 rfl
theorem GQ {vars:Int} {l:List (List Int)} {i:Int} (h0:0≤i) (hi:i < l.length) (h:∀ c∈l.take i.toNat,eU c vars=0∧jk c=false) (h1:eU (gi l i) vars=0) (h2:jk (gi l i)=false):∀ c∈l.take (i+1).toNat,eU c vars=0∧jk c=false:=by
 intro c hc
 rw [nr h0 hi] at hc
 rcases List.mem_append.1 hc with hc | hc
 ·exact h c hc
 ·simp at hc; subst hc; exact ⟨h1,h2⟩
theorem Je {vars:Int} {l:List (List Int)} (h:∀ c∈l,eU c vars=0∧jk c=false):mD vars l 0=((l.length:Int),0):=by
 have:=As l [] 0 h
 rw [List.append_nil] at this
 rw [this]; simp [mD]
theorem v78 (f:aL):VC78 f (fun r=>r=fj f):=by
 intro uc
 simp only [sm] at uc
 unfold VC78_J1 fj Jf
 refine ⟨fun h=>?_,fun h=>⟨fun h2=>?_,fun h2=>?_⟩⟩
 ·rw [if_pos (by simpa using h)]
 ·rw [if_neg (by simpa using h),if_pos (by have:=of_decide_eq_true h2; omega)]
 ·have hv:¬ (f.bC < 0∨f.bC > 100000):=by simpa using h
  have hl:¬ f.ai.length > 1000000:=by have:=of_decide_eq_false h2; omega
  rw [if_neg hv,if_neg hl]
  refine ⟨fun i=>0≤i∧i≤f.ai.length∧∀ c∈f.ai.take i.toNat,eU c f.bC=0∧jk c=false,fun i=>(f.ai.length - i).toNat,⟨by omega,by omega,by simp⟩,?_⟩
  rintro i ⟨h0,h1,hz⟩
  refine ⟨fun hi=>?_,fun hi=>?_⟩
  ·have hi:=of_decide_eq_true hi
   have hh:=Jd h0 hi hz
   rw [wrp (n:=i+1) (by omega) (by omega)]
   refine ⟨⟨h0,hi⟩,fun _=>?_⟩
   rintro _ rfl
   refine ⟨fun he=>?_,fun he=>?_⟩
   ·have he:eU (gi f.ai i) f.bC≠0:=by simpa [fH] using he
    rw [hh,if_pos he]; rfl
   ·have he:eU (gi f.ai i) f.bC=0:=by simpa [fH] using he
    obtain ⟨a1,a2,a3⟩:=(rr _ _ (by omega)).1 he
    refine ⟨⟨by omega,fun l hl=>by have:=a2 l hl; omega⟩,?_⟩
    rintro _ rfl
    rw [if_neg (by simp [he])] at hh
    refine ⟨fun ht=>?_,fun ht=>⟨⟨by omega,by omega,GQ h0 hi hz he ht⟩,by first | omega | (dsimp only; omega)⟩⟩
    have ht:jk (gi f.ai i)=true:=ht
    rw [hh,if_pos ht]
  ·have hi:=of_decide_eq_false hi
   rw [show i.toNat=f.ai.length by omega,List.take_length] at hz
   rw [Je hz]
end Go.Proofs.YtobeanopikjkeaaGreat
