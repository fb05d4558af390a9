/- Walks of code within and around a range over a function. Conditions: in each lemma. -/
import Derived.Test.YtobeanopikjkeaaGreatGWalksS
import Derived.RangeFuncNested
import Derived.RangeFuncBound
import Derived.RangeFuncCalls
import Derived.RangeFuncLeaves
set_option linter.all false
namespace Go.Rf
open Go Go.Sv
def WF (ro:Option Nat):Fence:={ Fence.wide with round:=ro }
theorem NH {ro:Option Nat} {n:Nat} {P:Program} {f:FuncId} {args:Array Value} {w:World} {R:Ending→World→Prop}:CallsIn (WF ro) n P f args w R↔Calls P f args w R:=by
 have:CallsIn (WF ro) n P f args w R↔CallsIn Fence.wide n P f args w R:=Iff.rfl
 exact this.trans callsIn_wide
theorem O1 {ro:Option Nat} {n:Nat} {P:Program} {row:String} {args:Array Value} {w:World} {R:Value→World→Prop} (h:Rows P row args w R):RowsIn (WF ro) n P row args w R:=by
 have:RowsIn Fence.wide n P row args w R:=fun c cs _=>let ⟨v,w',r,s⟩:=h c cs; ⟨v,w',r,stepsIn_wide.2 s⟩
 exact this
theorem J5 {ro:Option Nat} {n:Nat} {P:Program} {o:Oper} {a:Act} {w:World} {K:Act→World→Prop} {Q:Exit→Act→World→Prop} (hd:∀ c,o.op≠.defer c) (h:o.wp P a w K Q):o.wpIn (WF ro) n P a w K Q:=by
 refine ⟨fun _ _=>trivial,?_⟩
 rw [Oper.semAt_eq _ _ _ hd]
 unfold Oper.wp at h
 generalize (execOp a.eval o).run P w=r at h ⊢
 unfold Oper.upon at h
 split at h
 ·exact h
 ·exact h
 ·exact h
 ·refine ⟨fun h=>(by cases h),NH.2 (Calls.mono h ?_)⟩
  intro e sA h2
  cases e <;> exact h2
 ·exact ⟨fun h=>(by cases h),O1 h⟩
 ·exact h
 ·exact h.elim
theorem BG {ro:Option Nat} {n:Nat} {P:Program} {ops:Array Oper} {Q Q1:Exit→Act→World→Prop} {l2:List Oper} (hL:¬ LetsOut Q1) (hp:∀ c a w,Q1 (.panic c) a w→Q (.panic c) a w)
  (hn:∀ a w,Q1 .normal a w→wpListIn (WF ro) n P ops Q l2 a w):∀ (l1:List Oper) (a:Act) (w:World),(∀ o∈l1,∀ c,o.op≠.defer c)→wpList P ops Q1 l1 a w→wpListIn (WF ro) n P ops Q (l1++l2) a w
 | [],a,w,_,h=>hn a w h
 | o :: l1,a,w,hd,h=>by
  have ih:=BG (ro:=ro) (n:=n) (P:=P) (ops:=ops) (l2:=l2) hL hp hn l1
  have Dt:∀ o∈l1,∀ c,o.op≠.defer c:=fun x hx=>hd x (by simp [hx])
  show wpListIn (WF ro) n P ops Q (o :: (l1++l2)) a w
  unfold wpListIn
  unfold wpList at h
  split at h
  ·rename_i hw
   rw [if_pos hw]
   rcases h with h | ⟨_,h⟩
   ·have h2:o.wp P a w (wpListIn (WF ro) n P ops Q (l1++l2)) Q:=by
     unfold Oper.wp at h ⊢
     generalize (execOp a.eval o).run P w=r at h ⊢
     unfold Oper.upon at h ⊢
     split at h
     ·exact ih _ _ Dt h
     ·exact ih _ _ Dt h
     ·exact ih _ _ Dt h
     ·refine Calls.mono h ?_
      intro e sA h3
      cases e with
      | returned v=>exact ih _ _ Dt h3
      | panicked c=>exact hp _ _ _ h3
      | outgrown=>exact absurd h3 hL
     ·intro c cs
      obtain ⟨v,w',r,s⟩:=h c cs
      exact ⟨v,w',ih _ _ Dt r,s⟩
     ·exact hp _ _ _ h
     ·exact h.elim
    exact J5 (hd o (by simp)) h2
   ·exact absurd h hL
  ·rename_i hw
   rw [if_neg hw]
   exact ⟨fun _ _=>trivial,ih _ _ Dt h⟩
theorem O5 (nrm ret:Act→World→Prop) (exs:List (Nat × (Act→World→Prop))):¬ LetsOut (qs nrm ret exs):=fun ⟨_,_,h⟩=>h
theorem jY {ro:Option Nat} {n:Nat} {P:Program} {ops:Array Oper} {Q:Exit→Act→World→Prop} (m:Nat) {l:List Oper} {a:Act} {w:World} (hd:∀ o∈l.take m,∀ c,o.op≠.defer c)
  (h:wpList P ops (qs (fun a w=>wpListIn (WF ro) n P ops Q (l.drop m) a w) (fun _ _=>False) []) (l.take m) a w):wpListIn (WF ro) n P ops Q l a w:=by
 have:=BG (ro:=ro) (n:=n) (P:=P) (ops:=ops) (Q:=Q) (l2:=l.drop m) (O5 _ _ _) (fun c a w h=>h.elim) (fun a w h=>h) (l.take m) a w hd h
 rwa [List.take_append_drop] at this
theorem Ee {ro:Option Nat} {n:Nat} {P:Program} {ops:Array Oper} {Q:Exit→Act→World→Prop} {a:Act} {w:World} {t d l:Nat} {x:Operand} {lR:Array TypeId} {ty:TypeId} {pos:String} {af:Array Edge} {g:Option (Nat × Bool)} {rest:List Oper}
  (hw:Region.wanted ⟨some d,.call ⟨.value (.tmp t),#[x],lR⟩,ty,pos,af,g⟩ (yielded ops a.tmps)=true) (ht:a.eval (.tmp t)=.func (.yield l) #[] #[])
  (h:YieldAt (WF ro) (n - 1) P l #[a.eval x] w fun e w'=>∃ v,e=.returned v∧wpListIn (WF ro) n P ops Q rest (a.put (some d) v) w') :
  wpListIn (WF ro) n P ops Q (⟨some d,.call ⟨.value (.tmp t),#[x],lR⟩,ty,pos,af,g⟩ :: rest) a w:=by
 unfold wpListIn
 rw [if_pos hw]
 refine ⟨fun _ _=>trivial,?_⟩
 rw [Oper.semAt_eq _ _ _ (fun c h=>by cases h)]
 obtain ⟨fn,tmps,asg,body,h1,h2⟩:=h
 have e:(execOp a.eval ⟨some d,.call ⟨.value (.tmp t),#[x],lR⟩,ty,pos,af,g⟩).run P w=.ok (.round l fn tmps asg body) w:=by
  simp [execOp,resolve,ht,Deferred.ofValue,invoke,h1]
 rw [e]
 refine ⟨fun h=>(by cases h),h2.mono ?_⟩
 rintro e w' ⟨v,rfl,h3⟩
 exact h3
def sd (ds:List Deferred) (a:Act):Act:={ a with defers:=a.defers++ds }
theorem oy (ds:List Deferred) (a:Act) (d:Option Nat) (v:Value):(sd ds a).put d v=sd ds (a.put d v):=by cases d <;> rfl
def sdK (ds:List Deferred) (K:Act→World→Prop) (a:Act) (w:World):Prop:=∃ a0,a=sd ds a0∧K a0 w
def sdQ (ds:List Deferred) (Q:Exit→Act→World→Prop) (e:Exit) (a:Act) (w:World):Prop:=∃ a0,a=sd ds a0∧Q e a0 w
theorem CF {P:Program} {o:Oper} {ds:List Deferred} {a:Act} {K:Act→World→Prop} {Q:Exit→Act→World→Prop} {r:Result Next} (h:o.upon P a K Q r):o.upon P (sd ds a) (sdK ds K) (sdQ ds Q) r:=by
 unfold Oper.upon at h ⊢
 split at h
 ·exact ⟨_,oy ..,h⟩
 ·exact ⟨_,oy ..,h⟩
 ·exact ⟨_,oy ds { a with defers:=_ :: a.defers } _ _,h⟩
 ·refine Calls.mono h ?_
  intro e sA h3
  cases e with
  | returned v=>exact ⟨_,oy ..,h3⟩
  | panicked c=>exact ⟨_,rfl,h3⟩
  | outgrown=>obtain ⟨a1,w1,h4⟩:=h3; exact ⟨sd ds a1,w1,a1,rfl,h4⟩
 ·intro c cs
  obtain ⟨v,w',r,s⟩:=h c cs
  exact ⟨v,w',⟨_,oy ..,r⟩,s⟩
 ·exact ⟨_,rfl,h⟩
 ·exact h.elim
theorem AX {P:Program} {o:Oper} {ds:List Deferred} {a:Act} {w:World} {K K':Act→World→Prop} {Q:Exit→Act→World→Prop} (h:o.wp P a w K Q) (hk:∀ a w,K a w→K' (sd ds a) w):o.wp P (sd ds a) w K' (sdQ ds Q):=by
 have:=CF (ds:=ds) h
 unfold Oper.wp
 show o.upon P (sd ds a) K' (sdQ ds Q) ((execOp a.eval o).run P w)
 refine Oper.wp_mono (o:=o) (a:=sd ds a) (w:=w) (K:=sdK ds K) ?_ this
 rintro _ w ⟨a0,rfl,h⟩
 exact hk a0 w h
theorem uT {ds:List Deferred} {Q:Exit→Act→World→Prop} (h:LetsOut Q):LetsOut (sdQ ds Q):=by
 obtain ⟨a1,w1,h4⟩:=h
 exact ⟨sd ds a1,w1,a1,rfl,h4⟩
theorem qE {P:Program} {ops:Array Oper} {ds:List Deferred} {Q:Exit→Act→World→Prop}:∀ (l:List Oper) (a:Act) (w:World),wpList P ops Q l a w→wpList P ops (sdQ ds Q) l (sd ds a) w
 | [],a,w,h=>⟨a,rfl,h⟩
 | o :: l,a,w,h=>by
  unfold wpList at h ⊢
  split at h
  ·rename_i hw
   have ME:Region.wanted o (yielded ops (sd ds a).tmps)=true:=hw
   rw [if_pos ME]
   rcases h with h | ⟨h1,h2⟩
   ·exact .inl (AX h fun a w h=>qE l a w h)
   ·exact .inr ⟨h1,uT h2⟩
  ·rename_i hw
   have ME:¬ Region.wanted o (yielded ops (sd ds a).tmps)=true:=hw
   rw [if_neg ME]
   rw [oy]
   exact qE l _ w h
theorem qb {P:Program} {md:Region.Mode} {ops:Array Oper} {ds:List Deferred} {Q:Exit→Act→World→Prop}:∀ (fuel:Nat) (listed:Array Bool) (a:Act) (w:World),wpAny P md ops Q fuel listed a w→wpAny P md ops (sdQ ds Q) fuel listed (sd ds a) w
 | 0,listed,a,w,h=>⟨h.1,a,rfl,h.2⟩
 | fuel+1,listed,a,w,h=>by
  refine ⟨fun hr=>⟨a,rfl,h.1 hr⟩,fun i hi=>?_⟩
  have h2:=h.2 i hi
  unfold wpOp at h2 ⊢
  split at h2
  ·exact qb fuel _ a w h2
  ·rename_i o ho
   split at h2
   ·rename_i hw
    have ME:Region.wanted o (yielded ops (sd ds a).tmps)=true:=hw
    rw [if_pos ME]
    rcases h2 with h2 | ⟨h1,h2⟩
    ·exact .inl (AX h2 fun a w h=>qb fuel _ a w h)
    ·exact .inr ⟨h1,uT h2⟩
   ·rename_i hw
    have ME:¬ Region.wanted o (yielded ops (sd ds a).tmps)=true:=hw
    rw [if_neg ME]
    rw [oy]
    exact qb fuel _ _ w h2
section
variable {P:Program} {n:Nat} {sy:Sy} {ρ:Nat→Nat} {a:Act} {w:World} {χ:Nat→Nat}
theorem GN {id:Nat} {l:List Oper} {K ret:Act→World→Prop} {exs:List (Nat × (Act→World→Prop))} (ds:List Deferred) (bks:List Nat) (hm:P.follows .mixedOrders=true) (h:St n sy ρ a w χ)
  (k:∀ w1 χ1,St n sy ρ a w1 χ1→Ev aB w χ w1 χ1→br w1 χ1 (oM bks sy) ρ w1→Dr P l (qs K ret exs) (br w1 χ1 (oM bks sy) ρ) (Array.replicate l.toArray.size false) l.toArray.size a w1) :
  (Code.region id l.toArray true).wp P (sdQ ds (qs K ret exs)) (sd ds a) w:=by
 have h1:St n sy ρ a { w with drawn:=w.drawn+1 } χ:=⟨h.size,h.defers,h.bc,h.boxes⟩
 exact wp_region_any hm (qb _ _ _ _ (wpAny_of_held _ _ _ _ (k { w with drawn:=w.drawn+1 } χ h1 ⟨rfl,rfl,rfl,Nat.le_refl _,fun _ _ _=>⟨rfl,rfl⟩⟩ (br.of h1 rfl (M0.refl _ _)))))
theorem Iu {id:Nat} {l:List Oper} {Q:Exit→Act→World→Prop} (ds:List Deferred) (h:wpList P l.toArray Q l a w):(Code.region id l.toArray false).wp P (sdQ ds Q) (sd ds a) w:=wp_region_lit (qE l a w h)
end
end Go.Rf
