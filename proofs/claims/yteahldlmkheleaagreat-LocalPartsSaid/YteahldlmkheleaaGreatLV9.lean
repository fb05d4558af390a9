/- Lemmas. -/
import Derived.Test.YteahldlmkheleaaGreatLV8
set_option linter.all false
namespace Go.Proofs.YteahldlmkheleaaGreat
open Go Go.Sv Go.Pu
theorem mA {α:Type} [DecidableEq α]:∀ {a b:List α},a.Nodup→(∀ x∈a,x∈b)→a.length≤b.length
 | [],b,_,_=>by simp
 | x :: a,b,hn,hs=>by
  obtain ⟨h1,h2⟩:=List.nodup_cons.1 hn
  have:=mA (a:=a) (b:=b.erase x) h2 (fun y hy=>(List.mem_erase_of_ne (by rintro rfl; exact h1 hy)).2 (hs y (by simp [hy])))
  have hm:=hs x (by simp)
  rw [List.length_erase_of_mem hm] at this
  have:=List.length_pos_of_mem hm
  simp only [List.length_cons]; omega
theorem Hm {l:List ab} {x:ab} {i:Int} (h0:0≤i) (h1:i < l.length):gi (l++[x]) i=gi l i:=by
 unfold gi
 rw [List.getD_eq_getElem?_getD,List.getD_eq_getElem?_getD,List.getElem?_append_left (by omega)]
end Go.Proofs.YteahldlmkheleaaGreat
