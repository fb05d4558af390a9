/- Lemmas. -/
import Derived.Test.YteahldlmkheleaaGreatLVC
set_option linter.all false
namespace Go.Proofs.YteahldlmkheleaaGreat
open Go Go.Sv Go.Pu
theorem CC {α:Type} [Inhabited α] {a b:List α} (hl:a.length=b.length) (h:∀ j:Int,0≤j→j < a.length→gi a j=gi b j):a=b:=by
 apply List.ext_getElem hl
 intro i h1 h2
 have:=h i (by omega) (by omega)
 rwa [bZ _ _ h1,bZ _ _ h2] at this
theorem hX {α:Type} [Inhabited α] {l:List α} {i:Nat} (h:i < l.length):l.drop i=gi l (i:Int) :: l.drop (i+1):=by
 rw [bZ _ _ h,List.drop_eq_getElem_cons h]
theorem qh {α:Type} [Inhabited α] {l:List α} {f:α→Bool} {i:Int} (h0:0≤i) (h1:i < l.length) (h:f (gi l i)=true) (h2:∀ j:Int,0≤j→j < i→f (gi l j)=false):l.findIdx? f=some i.toNat:=by
 rw [List.findIdx?_eq_some_iff_getElem]
 refine ⟨by omega,?_,fun j hj=>?_⟩
 ·rw [jU h0 h1] at h; exact h
 ·have:=h2 j (by omega) (by omega)
  rw [bZ _ _ (by omega)] at this
  simp [this]
theorem qg {α:Type} [Inhabited α] {l:List α} {f:α→Bool} (h2:∀ j:Int,0≤j→j < l.length→f (gi l j)=false):l.findIdx? f=none:=by
 rw [List.findIdx?_eq_none_iff]
 intro x hx
 obtain ⟨i,hi,rfl⟩:=List.getElem_of_mem hx
 have:=h2 i (by omega) (by omega)
 rwa [bZ _ _ hi] at this
theorem vV {α:Type} [Inhabited α] {l:List α} {f:α→Bool} {i:Int} (h0:0≤i) (h1:i < l.length) (h:f (gi l i)=true) (h2:∀ j:Int,0≤j→j < i→f (gi l j)=false):l.find? f=some (gi l i):=by
 rw [List.find?_eq_some_iff_getElem]
 refine ⟨h,i.toNat,by omega,?_,fun j hj=>?_⟩
 ·rw [jU h0 h1]
 ·have:=h2 j (by omega) (by omega)
  rw [bZ _ _ (by omega)] at this
  simp [this]
theorem vU {α:Type} [Inhabited α] {l:List α} {f:α→Bool} (h2:∀ j:Int,0≤j→j < l.length→f (gi l j)=false):l.find? f=none:=by
 rw [List.find?_eq_none]
 intro x hx
 obtain ⟨i,hi,rfl⟩:=List.getElem_of_mem hx
 have:=h2 i (by omega) (by omega)
 rw [bZ _ _ hi] at this
 simp [this]
theorem v21 (o:aj):VC21 o (fun r=>r=hU o):=by
 intro _
 unfold hU
 rw [Bool.eq_iff_iff,decide_eq_true_eq,decide_eq_true_eq]; omega
theorem v58 (o:aj):VC58 o (fun r=>r=cX o):=by
 unfold VC58
 intro An
 simp only [sm] at An
 simp only [Bool.or_eq_true,decide_eq_true_eq,Bool.or_eq_false_iff,decide_eq_false_iff_not]
 refine ⟨fun h=>?_,fun h=>?_⟩
 ·unfold cX; rw [if_pos (by unfold iX; omega)]
 ·have e:cX o=gG o o.Rows.length 0:=by unfold cX; rw [if_neg (by unfold iX; omega)]
  rw [e]
  refine ⟨fun x=>∃ k f:Nat,x=k∧k+f=o.Rows.length∧gG o f k=gG o o.Rows.length 0,fun x=>(o.Rows.length - x).toNat,⟨0,o.Rows.length,rfl,by omega,rfl⟩,?_⟩
  rintro _ ⟨k,f,rfl,QB,jE⟩
  refine ⟨fun hx=>⟨⟨by omega,hx⟩,?_⟩,fun hx=>?_⟩
  ·obtain ⟨f,rfl⟩:∃ j,f=j+1:=⟨f - 1,by omega⟩
   rw [gG] at jE
   have bad:∀ e,gd o k=e→e≠0→((k:Int),e)=gG o o.Rows.length 0:=by
    rintro e rfl he
    rw [← jE,if_pos he]
   refine ⟨fun h1=>bad 30 (by unfold gd; rw [if_pos (by omega)]) (by decide),fun h1=>⟨fun h2=>bad 31 (by unfold gd; rw [if_neg (by omega),if_pos (by omega)]) (by decide),fun h2=>⟨fun h3=>bad 7 (by unfold gd; rw [if_neg (by omega),if_neg (by omega),if_pos (by omega)]) (by decide),fun h3=>?_⟩⟩⟩
   have j2:∀ b,(b=true↔im o k)→VC58_J2 (fun r=>r=gG o o.Rows.length 0) (fun x=>∃ k f:Nat,x=k∧k+f=o.Rows.length∧gG o f k=gG o o.Rows.length 0) (fun x=>(o.Rows.length - x).toNat) k b:=by
    intro b hb
    unfold VC58_J2
    refine ⟨fun h=>bad 32 (by unfold gd; rw [if_neg (by omega),if_neg (by omega),if_neg (by omega),if_pos (hb.mp h)]) (by decide),fun h=>?_⟩
    have hno:¬ im o k:=fun h2=>by rw [hb.mpr h2] at h; cases h
    have h0:gd o k=0:=by unfold gd; rw [if_neg (by omega),if_neg (by omega),if_neg (by omega),if_neg hno]
    rw [if_neg (by omega)] at jE
    rw [wrp (by omega) (by omega)]
    exact ⟨⟨k+1,f,by simp,by omega,jE⟩,by dsimp only; omega⟩
   refine ⟨fun h4=>?_,fun h4=>j2 false ⟨(fun h=>by cases h),fun h=>by unfold im at h; omega⟩⟩
   rw [wrp (n:=(k:Int) - 1) (by omega) (by omega)]
   refine ⟨⟨by omega,by omega⟩,fun h5=>j2 true ⟨fun _=>⟨h4,Or.inl h5⟩,fun _=>rfl⟩,fun h5=>⟨⟨by omega,by omega⟩,fun h6=>⟨⟨by omega,by omega⟩,j2 _ ?_⟩,fun h6=>j2 false ⟨(fun h=>by cases h),fun h=>?_⟩⟩⟩
   ·rw [beq_iff_eq] at h6
    rw [decide_eq_true_eq]
    exact ⟨fun h=>⟨h4,Or.inr ⟨h6,h⟩⟩,fun h=>by unfold im at h; omega⟩
   ·rw [beq_eq_false_iff_ne] at h6
    unfold im at h; omega
  ·have:f=0:=by omega
   subst this
   unfold VC58_J1
   rw [← jE,gG]
   have:k=o.Rows.length:=by omega
   rw [this]
theorem v68 (o:aj) (s k:Int):VC68 o s k (fun r=>r=bA o s k):=by
 unfold VC68
 intro An
 simp only [sm] at An
 refine ⟨fun i=>0≤i∧i≤o.Rows.length∧∀ j:Int,0≤j→j < i→((gi o.Rows j).State == s && (gi o.Rows j).Kind == k)=false,fun i=>(o.Rows.length - i).toNat,⟨by omega,by omega,fun j h0 h1=>by omega⟩,?_⟩
 rintro i ⟨h0,h1,h2⟩
 have j2:i < o.Rows.length→∀ b,b=((gi o.Rows i).State == s && (gi o.Rows i).Kind == k)→VC68_J2 o (fun r=>r=bA o s k) (fun i=>0≤i∧i≤o.Rows.length∧∀ j:Int,0≤j→j < i→((gi o.Rows j).State == s && (gi o.Rows j).Kind == k)=false) (fun i=>(o.Rows.length - i).toNat) i b:=by
  rintro hi b rfl
  unfold VC68_J2
  refine ⟨fun hb=>⟨⟨h0,hi⟩,⟨h0,hi⟩,?_⟩,fun hb=>?_⟩
  ·unfold bA
   rw [vV (f:=fun r:bb=>r.State == s && r.Kind == k) h0 hi hb h2]
  ·rw [wrp (by omega) (by omega)]
   refine ⟨⟨by omega,by omega,fun j j0 j1=>?_⟩,by dsimp only; omega⟩
   by_cases hj:j < i
   ·exact h2 j j0 hj
   ·rw [show j=i by omega]; exact hb
 refine ⟨fun hi=>?_,fun hi=>?_⟩
 ·rw [decide_eq_true_eq] at hi
  refine ⟨⟨h0,hi⟩,fun hs=>⟨⟨h0,hi⟩,j2 hi _ (by rw [hs,Bool.true_and])⟩,fun hs=>j2 hi _ (by rw [hs,Bool.false_and])⟩
 ·rw [decide_eq_false_iff_not] at hi
  unfold VC68_J1 bA
  rw [vU (f:=fun r:bb=>r.State == s && r.Kind == k) (fun j j0 j1=>h2 j j0 (by omega))]
theorem v110 (r:bb) (s k:Int):VC110 r s k (fun x=>x=gE r s k):=by
 unfold VC110 gE
 simp
theorem v111_110 (l:List bb) (s k:Int):VC111_110 l s k (fun r=>r=bk l s k):=by
 unfold VC111_110
 intro hl
 simp only [sm] at hl
 refine ⟨fun i=>0≤i∧i≤l.length∧∀ j:Int,0≤j→j < i→((gi l j).State == s && (gi l j).Kind == k)=false,fun i=>(l.length - i).toNat,⟨by omega,by omega,fun j h0 h1=>by omega⟩,?_⟩
 rintro i ⟨h0,h1,h2⟩
 refine ⟨fun hi=>?_,fun hi=>?_⟩
 ·rw [decide_eq_true_eq] at hi
  refine ⟨⟨h0,hi⟩,?_⟩
  rintro _ rfl
  refine ⟨fun he=>?_,fun he=>?_⟩
  ·unfold bk
   rw [qh (f:=fun r:bb=>r.State == s && r.Kind == k) h0 hi he h2]
   dsimp only; omega
  ·rw [wrp (by omega) (by omega)]
   refine ⟨⟨by omega,by omega,fun j j0 j1=>?_⟩,by dsimp only; omega⟩
   by_cases hj:j < i
   ·exact h2 j j0 hj
   ·rw [show j=i by omega]; exact he
 ·rw [decide_eq_false_iff_not] at hi
  unfold VC111_110_J1 bk
  rw [qg (f:=fun r:bb=>r.State == s && r.Kind == k) (fun j j0 j1=>h2 j j0 (by omega))]
theorem CG {α:Type} [Inhabited α] (l:List α) (f:α→Bool):l.find? f=(match l.findIdx? f with | some i=>some (gi l (i:Int)) | none=>none):=by
 cases h:l.findIdx? f with
 | none=>rw [List.findIdx?_eq_none_iff] at h; rw [List.find?_eq_none.mpr (fun x hx=>by simp [h x hx])]
 | some i =>
  rw [List.findIdx?_eq_some_iff_getElem] at h
  obtain ⟨hi,hf,ik⟩:=h
  show l.find? f=some (gi l (i:Int))
  rw [bZ _ _ hi,List.find?_eq_some_iff_getElem]
  exact ⟨hf,i,hi,rfl,fun j hj=>by simpa using ik j hj⟩
theorem v103 (o:aj) (s k:Int):VC103 o s k (fun r=>r=cw o s k):=by
 unfold VC103
 intro _
 rintro _ rfl
 unfold cw bA bk
 rw [CG]
 cases h:o.Rows.findIdx? (fun r=>r.State == s && r.Kind == k) with
 | none=>exact ⟨fun _=>rfl,fun h=>by simp at h⟩
 | some i =>
  rw [List.findIdx?_eq_some_iff_getElem] at h
  obtain ⟨hi,_,_⟩:=h
  dsimp only
  refine ⟨fun h=>?_,fun _=>⟨⟨by omega,by omega⟩,⟨by omega,by omega⟩,rfl⟩⟩
  rw [decide_eq_true_eq] at h; omega
theorem v109 (t:ie) (s k:Int):VC109 t s k (fun r=>r=eZ t s k):=by
 intro _
 rintro _ rfl; rfl
theorem v65 (o:aj) (s k r:Int):VC65 o s k r (fun x=>x=dc o s k r):=by
 unfold VC65
 intro _
 simp only [Bool.or_eq_true,decide_eq_true_eq,Bool.or_eq_false_iff,decide_eq_false_iff_not,Bool.not_eq_true',bne_iff_ne,bne_eq_false_iff_eq,Bool.not_eq_false']
 refine ⟨fun h=>by unfold dc; rw [if_pos h],fun h=>?_⟩
 rintro _ rfl
 refine ⟨fun h2=>by unfold dc; rw [if_neg (by omega),if_pos h2],fun h2=>?_⟩
 unfold dc
 rw [if_neg (by omega),if_neg (by rw [h2.1,h2.2]; simp)]
theorem v98 (o:aj) (s k r:Int):VC98 o s k r (fun x=>x=iR o s k r):=by
 unfold VC98 iR
 intro _
 simp only [Bool.or_eq_true,decide_eq_true_eq,Bool.or_eq_false_iff,decide_eq_false_iff_not,Bool.not_eq_true',bne_iff_ne,bne_eq_false_iff_eq,Bool.not_eq_false']
 refine ⟨fun h=>by unfold dc; rw [if_pos h],fun h=>?_⟩
 rintro _ rfl
 have e:eZ ⟨o⟩ s k=bA o s k:=rfl
 rw [e]
 refine ⟨fun h2=>by unfold dc; rw [if_neg (by omega),if_pos h2],fun h2=>?_⟩
 unfold dc
 rw [if_neg (by omega),if_neg (by rw [h2.1,h2.2]; simp)]
theorem v113 (x:Int):VC113 x (fun r=>r=eY x):=by
 unfold VC113 eY; simp
theorem v108 (x y:Int):VC108 x y (fun r=>r=dw x y):=by
 unfold VC108
 rintro _ rfl _ rfl
 unfold eY
 refine ⟨(fun h=>by cases h),fun _=>⟨(fun h=>by cases h),fun _=>?_⟩⟩
 simp only [decide_eq_true_eq,decide_eq_false_iff_not]
 unfold dw
 refine ⟨fun h=>by rw [if_pos h],fun h=>⟨fun h2=>by rw [if_neg h,if_pos h2],fun h2=>by rw [if_neg h,if_neg h2]⟩⟩
theorem v107 (l:List Int):VC107 l (fun r=>r=gA l):=by
 unfold VC107
 intro hl
 simp only [sm] at hl
 refine ⟨fun i=>0≤i∧i≤l.length∧∀ j:Int,0≤j→j < i→(gi l j != 0)=false,fun i=>(l.length - i).toNat,⟨by omega,by omega,fun j h0 h1=>by omega⟩,?_⟩
 rintro i ⟨h0,h1,h2⟩
 refine ⟨fun hi=>?_,fun hi=>?_⟩
 ·rw [decide_eq_true_eq] at hi
  refine ⟨⟨h0,hi⟩,fun he=>?_,fun he=>?_⟩
  ·unfold gA
   rw [vV (f:=fun x=>x != 0) h0 hi he h2]; rfl
  ·rw [wrp (by omega) (by omega)]
   refine ⟨⟨by omega,by omega,fun j j0 j1=>?_⟩,by dsimp only; omega⟩
   by_cases hj:j < i
   ·exact h2 j j0 hj
   ·rw [show j=i by omega]; exact he
 ·rw [decide_eq_false_iff_not] at hi
  unfold VC107_J1 gA
  rw [vU (f:=fun x=>x != 0) (fun j j0 j1=>h2 j j0 (by omega))]; rfl
theorem v96 (a b:bb):VC96 a b (fun r=>r=gv a b):=by
 rintro _ rfl _ rfl _ rfl; rfl
theorem v81 (n t:Int):VC81 n t (fun r=>r=b6 n t):=rfl
theorem within_iff (n t:Int):(b6 n t=true↔0≤n∧n < t)∧(b6 n t=false↔¬ (0≤n∧n < t)):=by
 unfold b6
 refine ⟨by rw [Bool.and_eq_true,decide_eq_true_eq,decide_eq_true_eq],?_⟩
 rw [Bool.and_eq_false_iff,decide_eq_false_iff_not,decide_eq_false_iff_not]; omega
theorem z7 (a b:bb):gv a b≥0↔(a.State > b.State∨(a.State=b.State∧a.Kind≥b.Kind)):=by
 unfold gv gA dw
 rcases Int.lt_trichotomy a.State b.State with h | h | h
 ·rw [if_pos h]; simp; omega
 ·rw [if_neg (by omega),if_neg (by omega)]
  rcases Int.lt_trichotomy a.Kind b.Kind with h2 | h2 | h2
  ·rw [if_pos h2]; simp; omega
  ·rw [if_neg (by omega),if_neg (by omega)]; simp; omega
  ·rw [if_neg (by omega),if_pos h2]; simp; omega
 ·rw [if_neg (by omega),if_pos h]; simp; omega
theorem v82 (o:aj) (i:Int) (h:preRow o i):VC82 o i (fun r=>r=ix o i):=by
 obtain ⟨h0,h1⟩:=h
 unfold VC82 ix
 intro An
 simp only [sm] at An
 refine ⟨⟨h0,h1⟩,?_⟩
 have j1:∀ b,(b=true↔((gi o.Rows i).State < 0∨(gi o.Rows i).State≥o.au∨(gi o.Rows i).Next < 0∨(gi o.Rows i).Next≥o.au))→VC82_J1 o i (fun r=>r=gd o i) b:=by
  intro b hb
  unfold VC82_J1
  refine ⟨fun h=>by unfold gd; rw [if_pos (hb.mp h)],fun h=>?_⟩
  have g1:¬ ((gi o.Rows i).State < 0∨(gi o.Rows i).State≥o.au∨(gi o.Rows i).Next < 0∨(gi o.Rows i).Next≥o.au):=fun h2=>by rw [hb.mpr h2] at h; cases h
  rintro _ rfl
  rw [Bool.not_eq_true',Bool.not_eq_false',(within_iff _ _).1,(within_iff _ _).2]
  refine ⟨fun h2=>by unfold gd; rw [if_neg g1,if_pos (by omega)],fun h2=>?_⟩
  rintro _ rfl
  rw [Bool.not_eq_true',Bool.not_eq_false',(within_iff _ _).1,(within_iff _ _).2]
  refine ⟨fun h3=>by unfold gd; rw [if_neg g1,if_neg (by omega),if_pos (by omega)],fun h3=>?_⟩
  have j2:∀ b,(b=true↔im o i)→VC82_J2 (fun r=>r=gd o i) b:=by
   intro b hb
   unfold VC82_J2
   refine ⟨fun h=>by unfold gd; rw [if_neg g1,if_neg (by omega),if_neg (by omega),if_pos (hb.mp h)],fun h=>?_⟩
   have hno:¬ im o i:=fun h2=>by rw [hb.mpr h2] at h; cases h
   unfold gd; rw [if_neg g1,if_neg (by omega),if_neg (by omega),if_neg hno]
  refine ⟨fun h4=>?_,fun h4=>j2 false ⟨(fun h=>by cases h),fun h=>by rw [decide_eq_false_iff_not] at h4; exact absurd h.1 h4⟩⟩
  rw [decide_eq_true_eq] at h4
  rw [wrp (n:=i - 1) (by omega) (by omega)]
  refine ⟨⟨by omega,by omega⟩,?_⟩
  rintro _ rfl
  refine j2 _ ?_
  rw [decide_eq_true_eq,z7]
  exact ⟨fun h=>⟨h4,h⟩,fun h=>h.2⟩
 rintro _ rfl
 rw [Bool.not_eq_true',Bool.not_eq_false',(within_iff _ _).1,(within_iff _ _).2]
 refine ⟨fun h2=>j1 true ⟨fun _=>by omega,fun _=>rfl⟩,fun h2=>?_⟩
 rintro _ rfl
 refine j1 _ ?_
 rw [Bool.not_eq_true',(within_iff _ _).2]
 omega
theorem v53 (o:aj) (h:kL o):VC53 o (fun r=>r=bB o):=by
 obtain ⟨hs,hk⟩:=h
 unfold inR at hs hk
 have m1:IntKind.min .i64=-9223372036854775808:=by decide
 have m2:IntKind.max .i64=9223372036854775807:=by decide
 rw [m1,m2] at hs hk
 unfold VC53 bB
 intro An
 simp only [sm] at An
 have j1:∀ b,(b=true↔iX o)→VC53_J1 o (fun r=>r=cX o) b:=by
  intro b hb
  unfold VC53_J1
  refine ⟨fun h=>by unfold cX; rw [if_pos (hb.mp h)],fun h=>?_⟩
  have hno:¬ iX o:=fun h2=>by rw [hb.mpr h2] at h; cases h
  have e:cX o=gG o o.Rows.length 0:=by unfold cX; rw [if_neg hno]
  rw [e]
  refine ⟨fun x=>∃ k f:Nat,x=k∧k+f=o.Rows.length∧gG o f k=gG o o.Rows.length 0,fun x=>(o.Rows.length - x).toNat,⟨0,o.Rows.length,rfl,by omega,rfl⟩,?_⟩
  rintro _ ⟨k,f,rfl,QB,jE⟩
  refine ⟨fun hx=>⟨⟨by omega,by simpa using hx⟩,?_⟩,fun hx=>?_⟩
  ·rw [decide_eq_true_eq] at hx
   obtain ⟨f,rfl⟩:∃ j,f=j+1:=⟨f - 1,by omega⟩
   rw [gG] at jE
   rintro _ rfl
   unfold ix
   rw [bne_iff_ne,bne_eq_false_iff_eq]
   refine ⟨fun he=>by rw [if_pos he] at jE; exact jE,fun he=>?_⟩
   rw [if_neg (by omega)] at jE
   rw [wrp (by omega) (by omega)]
   exact ⟨⟨k+1,f,by simp,by omega,jE⟩,by dsimp only; omega⟩
  ·rw [decide_eq_false_iff_not] at hx
   have:f=0:=by omega
   subst this
   unfold VC53_J2
   rw [← jE,gG]
   have:k=o.Rows.length:=by omega
   rw [this]
 have w1:b6 (IntKind.i64.wrap (o.au - 1)) 32=true↔¬ (o.au < 1∨o.au > 32):=by
  rw [(within_iff _ _).1,F8]; omega
 have w2:b6 (IntKind.i64.wrap (o.az - 1)) 64=true↔¬ (o.az < 1∨o.az > 64):=by
  rw [(within_iff _ _).1,F8]; omega
 rintro _ rfl
 refine ⟨fun h=>j1 true ⟨fun _=>?_,fun _=>rfl⟩,fun h=>?_⟩
 ·rw [Bool.not_eq_true',← Bool.not_eq_true,w1] at h; unfold iX; omega
 ·rw [Bool.not_eq_false',w1] at h
  rintro _ rfl
  refine ⟨fun h2=>j1 true ⟨fun _=>?_,fun _=>rfl⟩,fun h2=>?_⟩
  ·rw [Bool.not_eq_true',← Bool.not_eq_true,w2] at h2; unfold iX; omega
  ·rw [Bool.not_eq_false',w2] at h2
   rintro _ rfl
   refine j1 _ ?_
   rw [Bool.not_eq_true',(within_iff _ _).2]
   unfold iX; omega
theorem v85 (o:aj) (s:Int) (h:yw o s):VC85 o s (fun r=>r=fF o s):=by
 unfold VC85
 intro _
 refine ⟨h,?_⟩
 rintro _ rfl
 simp only [Bool.or_eq_true,decide_eq_true_eq,Bool.or_eq_false_iff,decide_eq_false_iff_not,bne_iff_ne,bne_eq_false_iff_eq]
 unfold fF bB
 refine ⟨fun h=>by rw [if_pos h],fun h=>⟨fun h2=>by rw [if_neg (by omega),if_pos h2],fun h2=>by rw [if_neg (by omega),if_neg (by omega)]⟩⟩
theorem v86 (o:aj) (l:List ab) (s:Int):VC86 o l s (fun r=>r=eD o l s):=by
 intro _ _; rfl
theorem v97 (p:aa) (l:List ab) (u:List (Int × Int)) (o:aj) (s:Int):VC97 p l u o s (fun r=>r=dn p l u o s):=by
 unfold VC97
 intro _ _
 simp only [Bool.or_eq_true,decide_eq_true_eq,Bool.or_eq_false_iff,decide_eq_false_iff_not]
 unfold dn
 refine ⟨fun h=>by rw [if_pos h],fun h=>⟨fun h2=>by rw [if_neg (by omega),if_pos h2],fun h2=>⟨⟨by omega,by omega⟩,?_⟩⟩⟩
 rintro _ rfl
 rw [if_neg (by omega),if_neg h2]
 have key:∀ e,e=gr o l s p →
   VC97_J1 p u s (fun r=>r=if (gB o l s p).2≠0 then (0,(gB o l s p).2,j6 u p.Oper,s) else ((gB o l s p).1,0,j6 u p.Oper,(gB o l s p).1)) (iR o s (gi l p.Oper).Kind p.Result) e:=by
  rintro e rfl
  unfold VC97_J1 gB
  simp only [bne_iff_ne,bne_eq_false_iff_eq]
  refine ⟨fun he=>?_,fun he=>?_⟩
  ·rw [if_pos he,if_pos he]; rfl
  ·rw [if_neg (c:=gr o l s p≠0) (fun h=>h he),if_neg (by simp)]; rfl
 unfold gr at key
 refine ⟨fun hc=>?_,fun hc=>?_⟩
 ·simp only [Bool.and_eq_true,beq_iff_eq,bne_iff_ne] at hc
  refine key 40 ?_
  rw [if_pos ⟨hc.1.1,hc.1.2,hc.2⟩]
 ·refine key _ ?_
  rw [if_neg]; · rfl
  rintro ⟨a,b,c⟩
  have:((iR o s (gi l p.Oper).Kind p.Result).2 == 0 && (gi l p.Oper).End != -1 && (gi l p.Oper).Result != p.Result)=true:=by
   rw [Bool.and_eq_true,Bool.and_eq_true,beq_iff_eq,bne_iff_ne,bne_iff_ne]; exact ⟨⟨a,b⟩,c⟩
  rw [this] at hc; cases hc
theorem v33 (o:aj) (l:List ab) (p:List aa) (h:lq o l p):VC33 o l p (fun r=>r=cS o l p):=by
 unfold VC33
 intro _ _ _
 refine ⟨h.1,?_⟩
 rintro _ rfl; rfl
end Go.Proofs.YteahldlmkheleaaGreat
