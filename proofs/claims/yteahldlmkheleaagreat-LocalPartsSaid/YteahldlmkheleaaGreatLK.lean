/- Lemmas. -/
import Derived.Test.YteahldlmkheleaaGreatSk
import Derived.Test.YteahldlmkheleaaGreatLTypes
set_option linter.all false
namespace Go.Proofs.YteahldlmkheleaaGreat
open Go Go.Sv
def aU (s:b8):Value:=.agg #[.int .u32 s.done,.int .i64 s.state]
theorem BB:Tryz.prog.underlying 164=some (.struct (Tryz.prog.fieldsOf 164)):=by kernel_rfl
theorem DZ (k:b8) (b:Bool) (w:World):(Instr.checkKey b 10000 164 (aU k)).run Tryz.prog w=.ok () w:=by kernel_rfl
theorem zQ (a:b8):oy Tryz.prog 164 [.int .u32 a.done,.int .i64 a.state]=true:=by kernel_rfl
theorem wZ (a b:b8):gz [.int .u32 a.done,.int .i64 a.state] [.int .u32 b.done,.int .i64 b.state]=some (a.done == b.done && (a.state == b.state && true)):=by kernel_rfl
theorem zP:(Tryz.prog.fieldsOf 164).size=2:=by kernel_rfl
theorem BP {o:Option TypeDesc} {a fs:Array Field} {n:Nat} (h1:o=some (.struct a)) (h2:o=some (.struct fs)) (h:a.size=n):n=fs.size:=by
  rw [h1] at h2
  cases h2
  exact h.symm
theorem gh:KOK Tryz.prog 164 aU where
  ck:=DZ
  un:=⟨_,BB,fun a b=>rfl⟩
  eq:=fun a b w=>by
    have h:=lI (w:=w) (zQ a) (wZ a b) (fun fs hf=>BP BB hf zP)
    have e:(a.done == b.done && (a.state == b.state && true))=decide (a=b):=by
      obtain ⟨a1,a2⟩:=a
      obtain ⟨b1,b2⟩:=b
      rw [Bool.eq_iff_iff]; simp
    rw [e] at h
    unfold Op.equal Op.maxDepth
    exact h
  ks:=fun k w=>by
    have h:Instr.sameBits 10000 (aU k) (aU k)=true:=by
      unfold aU
      show Instr.sameBits (9999+1) _ _=true
      simp [Instr.sameBits]
    simp [Instr.keyThatStays,h]
  inj:=fun a b h=>by
    unfold aU at h
    obtain ⟨a1,a2⟩:=a
    obtain ⟨b1,b2⟩:=b
    simp at h
    simp [h]
end Go.Proofs.YteahldlmkheleaaGreat
