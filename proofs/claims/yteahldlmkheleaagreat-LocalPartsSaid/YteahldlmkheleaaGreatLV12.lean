/- Lemmas. -/
import Derived.Test.YteahldlmkheleaaGreatLV11
set_option linter.all false
namespace Go.Proofs.YteahldlmkheleaaGreat
open Go Go.Sv Go.Pu
theorem CB {n:Nat} {L:List (List Int)} {y:List Int}:y∈grow (n:Int) L↔∃ x∈L,∃ k:Nat,k < n∧(k:Int)∉x∧y=x++[(k:Int)]:=by
 rw [vL,List.mem_flatMap]
 refine exists_congr fun x=>and_congr Iff.rfl ?_
 unfold l3
 rw [List.mem_map]
 constructor
 ·rintro ⟨k,hk,rfl⟩
  obtain ⟨h1,h2⟩:=List.mem_filter.1 hk
  exact ⟨k,List.mem_range.1 h1,by simpa using h2,rfl⟩
 ·rintro ⟨k,h1,h2,rfl⟩
  exact ⟨k,List.mem_filter.2 ⟨List.mem_range.2 h1,by simpa using h2⟩,rfl⟩
theorem yP {n:Nat}:∀ (k:Nat) (y:List Int),y.length=k→y.Nodup→(∀ i∈y,0≤i∧i < n)→y∈lev n k
 | 0,y,h,_,_=>by
  obtain rfl:=List.length_eq_zero_iff.1 h
  simp [lev]
 | k+1,y,h,hn,hr=>by
  rcases List.eq_nil_or_concat y with e | ⟨x,a,e⟩
  ·subst e; simp at h
  ·rw [List.concat_eq_append] at e
   subst e
   rw [List.nodup_append] at hn
   have ih:=yP k x (by simpa using h) hn.1 (fun i hi=>hr i (by simp [hi]))
   have ha:=hr a (by simp)
   refine CB.2 ⟨x,ih,a.toNat,by omega,?_,?_⟩
   ·rw [show ((a.toNat:Nat):Int)=a by omega]
    intro hm
    exact hn.2.2 a hm a (by simp) rfl
   ·rw [show ((a.toNat:Nat):Int)=a by omega]
theorem xn:((List.range 6).all fun n=>(List.range 6).all fun k=>(lev n k).all fun x=>(dh (n:Int)).contains x)=true:=by decide +kernel
theorem xo {n:Nat} (hn:n≤5) {y:List Int} (hd:y.Nodup) (hr:∀ i∈y,0≤i∧i < n):y∈dh (n:Int):=by
 have h:=xn
 rw [List.all_eq_true] at h
 have h:=h n (List.mem_range.2 (by omega))
 rw [List.all_eq_true] at h
 have hc:=sM n y hd hr
 have h:=h y.length (List.mem_range.2 (by omega))
 rw [List.all_eq_true] at h
 have:=h y (yP y.length y rfl hd hr)
 simpa using this
end Go.Proofs.YteahldlmkheleaaGreat
