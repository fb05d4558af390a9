/- Lemmas. -/
import Derived.Test.YteahldlmkheleaaGreatLV11
set_option linter.all false
namespace Go.Proofs.YteahldlmkheleaaGreat
open Go Go.Sv Go.Pu
theorem Cw {n:Nat} {L:List (List Int)} {y:List Int}:y∈grow (n:Int) L↔∃ x∈L,∃ k:Nat,k < n∧(k:Int)∉x∧y=x++[(k:Int)]:=by
 rw [vo,List.mem_flatMap]
 refine exists_congr fun x=>and_congr Iff.rfl ?_
 unfold lX
 rw [List.mem_map]
 constructor
 ·rintro ⟨k,hk,rfl⟩
  obtain ⟨h1,h2⟩:=List.mem_filter.1 hk
  exact ⟨k,List.mem_range.1 h1,by simpa using h2,rfl⟩
 ·rintro ⟨k,h1,h2,rfl⟩
  exact ⟨k,List.mem_filter.2 ⟨List.mem_range.2 h1,by simpa using h2⟩,rfl⟩
theorem yx {n:Nat}:∀ (k:Nat) (y:List Int),y.length=k→y.Nodup→(∀ i∈y,0≤i∧i < n)→y∈lev n k
 | 0,y,h,_,_=>by
  obtain rfl:=List.length_eq_zero_iff.1 h
  simp [lev]
 | k+1,y,h,hn,hr=>by
  rcases List.eq_nil_or_concat y with e | ⟨x,a,e⟩
  ·subst e; simp at h
  ·rw [List.concat_eq_append] at e
   subst e
   rw [List.nodup_append] at hn
   have ih:=yx k x (by simpa using h) hn.1 (fun i hi=>hr i (by simp [hi]))
   have ha:=hr a (by simp)
   refine Cw.2 ⟨x,ih,a.toNat,by omega,?_,?_⟩
   ·rw [show ((a.toNat:Nat):Int)=a by omega]
    intro hm
    exact hn.2.2 a hm a (by simp) rfl
   ·rw [show ((a.toNat:Nat):Int)=a by omega]
theorem wX:((List.range 6).all fun n=>(List.range 6).all fun k=>(lev n k).all fun x=>(dj (n:Int)).contains x)=true:=by decide +kernel
theorem wY {n:Nat} (hn:n≤5) {y:List Int} (hd:y.Nodup) (hr:∀ i∈y,0≤i∧i < n):y∈dj (n:Int):=by
 have h:=wX
 rw [List.all_eq_true] at h
 have h:=h n (List.mem_range.2 (by omega))
 rw [List.all_eq_true] at h
 have hc:=sk n y hd hr
 have h:=h y.length (List.mem_range.2 (by omega))
 rw [List.all_eq_true] at h
 have:=h y (yx y.length y rfl hd hr)
 simpa using this
theorem w9 {o:ae} {l:List ab} {y:List Int} {x:List aa} (h:mX o l y=some x):opers x=y∧ec o l x=true:=by
 unfold mX at h
 split at h
 ·rename_i hh
  obtain rfl:=Option.some.inj h
  refine ⟨?_,hh.2⟩
  have h1:=hh.1
  unfold df lf at h1 ⊢
  split at h1
  ·rename_i hm; exact absurd h1 hm
  ·rename_i hm; rw [if_neg hm]; exact (uE h1).2
 ·cases h
theorem zc {o:ae} {l:List ab} (hc:(bp o).2=0) (hl:(bZ l).2=0) (h5:l.length≤5) {x:List aa}:x∈eV o l↔c9 o l x=true:=by
 unfold eV
 rw [List.mem_filterMap,GQ hc hl]
 constructor
 ·rintro ⟨y,_,h⟩; exact (w9 h).2
 ·intro h
  obtain ⟨hm,_,_⟩:=BV hc
  have hr:=(yw.1 h).1
  obtain ⟨p1,p2⟩:=ln hr
  refine ⟨opers x,wY h5 p1 p2,?_⟩
  have er:cg o l x=fh o l [] o.aC x:=by unfold cg bL; rw [hm,if_neg (by decide)]
  rw [er] at hr
  have hf:df o l (opers x)=(x,0):=by
   unfold df lf
   rw [if_neg (by omega)]
   exact vC hr
  unfold mX
  rw [hf,if_pos ⟨rfl,h⟩]
end Go.Proofs.YteahldlmkheleaaGreat
