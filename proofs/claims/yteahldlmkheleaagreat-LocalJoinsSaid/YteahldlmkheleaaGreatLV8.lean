/- P4 on Lm linearizations; what is found is one,and if any is there,one is found. -/
import Derived.Test.YteahldlmkheleaaGreatLV7
set_option linter.all false
namespace Go.Proofs.YteahldlmkheleaaGreat
open Go Go.Sv Go.Pu
def p4 (l:List ab):List Int→List aa→Prop
 | _,[]=>True
 | prev,p :: ps=>(∀ k:Nat,k < l.length→bb (gi l (k:Int)) (gi l p.Oper)=true→(k:Int)∈prev)∧p4 l (p.Oper :: prev) ps
def jt (l:List ab) (done:List Bool) (prev:List Int):Prop:=done.length=l.length∧∀ i:Nat,i < l.length→(gi done (i:Int)=true↔(i:Int)∈prev)
theorem Au {l:List ab} {done:List Bool} {prev:List Int} {i:Int} (h:jt l done prev) (h0:0≤i) (h1:i < l.length):jt l (done.set i.toNat true) (i :: prev):=by
 obtain ⟨a,b⟩:=h
 refine ⟨by simpa using a,fun j hj=>?_⟩
 rw [List.mem_cons]
 by_cases e:i=(j:Int)
 ·subst e
  rw [zx h0 (by omega)]
  simp
 ·rw [zw h0 (by omega) e,b j hj]
  constructor
  ·intro h; exact .inr h
  ·rintro (h | h)
   ·exact absurd h.symm e
   ·exact h
theorem Av (l:List ab):jt l (List.replicate l.length false) []:=by
 refine ⟨by simp,fun i hi=>?_⟩
 rw [cd _ _ (by simpa using hi)]
 simp
theorem qC {l:List ab} {done:List Bool} {prev:List Int} (h:jt l done prev) {i:Nat} (hi:i < l.length):isDone done (i:Int)=true↔(i:Int)∈prev:=by
 unfold isDone
 rw [decide_eq_true (by rw [h.1]; omega),Bool.true_and]
 exact h.2 i hi
theorem uW {l:List ab} {done:List Bool} {prev:List Int} (h:jt l done prev) {i:Nat} (hi:i < l.length):lu l done i=true↔(i:Int)∉prev∧∀ k:Nat,k < l.length→bb (gi l (k:Int)) (gi l (i:Int))=true→(k:Int)∈prev:=by
 unfold lu
 rw [Bool.and_eq_true,Bool.not_eq_true',List.all_eq_true,← Bool.not_eq_true,qC h hi]
 refine and_congr Iff.rfl ⟨fun hh k hk ha=>?_,fun hh k hk=>?_⟩
 ·have:=hh k (List.mem_range.2 hk)
  rw [ha] at this
  exact (qC h hk).1 (by simpa using this)
 ·have hk:=List.mem_range.1 hk
  by_cases ha:bb (gi l (k:Int)) (gi l (i:Int))=true
  ·rw [(qC h hk).2 (hh k hk ha)]; rfl
  ·simp [ha]
theorem AW {l:List ab} {done:List Bool} {i:Nat} (hi:i < l.length) (h:lu l done i=true):(i:Int)∈eN l done:=by
 unfold eN ja
 exact List.mem_map.2 ⟨i,List.mem_filter.2 ⟨List.mem_range.2 hi,h⟩,rfl⟩
theorem AR {o:al} {l:List ab} {st:Int} {done:List Bool} {prev:List Int} (hc:(bq o).2=0) (hs:jt l done prev) (p:aa):p∈bF o l st done↔0≤p.Oper∧p.Oper < l.length∧p.Oper∉prev∧(∀ k:Nat,k < l.length→bb (gi l (k:Int)) (gi l p.Oper)=true→(k:Int)∈prev)∧iL o l st p.Oper=some p:=by
 constructor
 ·intro h
  obtain ⟨_,a,b,c,d⟩:=qf h
  have e:((p.Oper.toNat:Nat):Int)=p.Oper:=by omega
  have:=(uW hs (i:=p.Oper.toNat) (by omega)).1 c
  rw [e] at this
  exact ⟨a,b,this.1,this.2,d⟩
 ·rintro ⟨a,b,c,d,e⟩
  unfold bF xP
  rw [if_neg (by omega)]
  have ee:((p.Oper.toNat:Nat):Int)=p.Oper:=by omega
  have hm:=AW (l:=l) (done:=done) (i:=p.Oper.toNat) (by omega) ((uW hs (by omega)).2 ⟨by rw [ee]; exact c,by rw [ee]; exact d⟩)
  rw [ee] at hm
  exact List.mem_filterMap.2 ⟨_,hm,e⟩
theorem Ao {o:al} {l:List ab} {prev:List Int} {st:Int} {p:aa} (h0:0≤st) (h1:st < o.aq) (a:0≤p.Oper) (b:p.Oper < l.length) (c:p.Oper∉prev) :
  ((dg o l prev st p).2=0↔iL o l st p.Oper=some p)∧((dg o l prev st p).2=0→(dg o l prev st p).1=eT o l st p∧(cu o st (gi l p.Oper).Kind).2.2=true):=by
 unfold dg eT iL
 rw [if_neg (by omega),if_neg c]
 have jW:∀ k r,c9 o st k r=if (cu o st k).2.2=false∨(cu o st k).2.1≠r then (0,40) else ((cu o st k).1,0):=fun k r=>by
  unfold c9; rw [if_neg (by omega)]
 unfold gg gM cj
 simp only [jW]
 generalize cu o st (gi l p.Oper).Kind=m
 obtain ⟨x,y,z⟩:=m
 obtain ⟨pi,pr⟩:=p
 dsimp only at *
 cases z with
 | false=>simp
 | true =>
  by_cases hy:y=pr
  ·subst hy
   simp only [Bool.true_and]
   by_cases he:(gi l pi).End=-1
   ·simp [he]
   ·by_cases hr:(gi l pi).Result=y
    ·simp [he,hr]
    ·simp [he,hr]
  ·simp [hy]
theorem xc {o:al} {l:List ab} (hc:(bq o).2=0):∀ (ps:List aa) (st:Int) (done:List Bool) (prev:List Int),jt l done prev→0≤st→st < o.aq →
  (mx o l st done ps↔(gN o l prev st ps).2.2=0∧p4 l prev ps∧∀ m:Nat,m < l.length→(gi l (m:Int)).End≠-1→(m:Int)∈prev∨(m:Int)∈opers ps)
 | [],st,done,prev,hs,h0,h1=>by
  unfold mx ki p4 gN opers
  rw [List.all_eq_true]
  constructor
  ·intro h
   refine ⟨rfl,trivial,fun m hm he=>.inl ?_⟩
   have:=h m (List.mem_range.2 hm)
   rw [Bool.not_eq_true',Bool.and_eq_false_iff] at this
   rcases this with h | h
   ·exact absurd h (by simpa using he)
   ·exact (hs.2 m hm).1 (by simpa using h)
  ·rintro ⟨_,_,h⟩ m hm
   have hm:=List.mem_range.1 hm
   by_cases he:(gi l (m:Int)).End=-1
   ·simp [he]
   ·rcases h m hm he with h | h
    ·rw [(hs.2 m hm).2 h]; simp
    ·cases h
 | p :: ps,st,done,prev,hs,h0,h1=>by
  unfold mx p4
  rw [AR hc hs p]
  by_cases hr:0≤p.Oper∧p.Oper < l.length∧p.Oper∉prev
  ·obtain ⟨a,b,c⟩:=hr
   obtain ⟨s1,s2⟩:=Ao (l:=l) (prev:=prev) (p:=p) h0 h1 a b c
   rw [← s1,gN]
   by_cases he:(dg o l prev st p).2=0
   ·obtain ⟨e1,e2⟩:=s2 he
    obtain ⟨m0,m1⟩:=CQ hc e2
    have ih:=xc hc ps (eT o l st p) _ _ (Au hs a b) m0 m1
    rw [ih,if_neg (by omega),e1]
    have eo:opers (p :: ps)=p.Oper :: opers ps:=rfl
    rw [eo]
    simp only [List.mem_cons]
    constructor
    ·rintro ⟨⟨_,_,_,ha,_⟩,g1,g2,g3⟩
     refine ⟨g1,⟨ha,g2⟩,fun m hm hh=>?_⟩
     rcases g3 m hm hh with (h | h) | h
     ·exact .inr (.inl h)
     ·exact .inl h
     ·exact .inr (.inr h)
    ·rintro ⟨g1,⟨ha,g2⟩,g3⟩
     refine ⟨⟨a,b,c,ha,he⟩,g1,g2,fun m hm hh=>?_⟩
     rcases g3 m hm hh with h | h | h
     ·exact .inl (.inr h)
     ·exact .inl (.inl h)
     ·exact .inr h
   ·rw [if_pos he]
    exact ⟨fun h=>absurd h.1.2.2.2.2 he,fun h=>absurd h.1 he⟩
  ·constructor
   ·intro h; exact absurd ⟨h.1.1,h.1.2.1,h.1.2.2.1⟩ hr
   ·intro h
    exfalso
    have h:=h.1
    rw [gN] at h
    unfold dg at h
    by_cases h3:p.Oper < 0∨p.Oper≥l.length
    ·rw [if_pos h3,if_pos (by decide)] at h; exact absurd h (by decide)
    ·by_cases h4:p.Oper∈prev
     ·rw [if_neg h3,if_pos h4,if_pos (by decide)] at h; exact absurd h (by decide)
     ·exact hr ⟨by omega,by omega,h4⟩
theorem xL {l:List ab}:∀ (ps:List aa) (prev:List Int),p4 l prev ps↔∀ x:Nat,x < ps.length→∀ k:Nat,k < l.length→bb (gi l (k:Int)) (gi l (gi ps (x:Int)).Oper)=true→(k:Int)∈prev∨(k:Int)∈opers (ps.take x)
 | [],prev=>by simp [p4]
 | p :: ps,prev=>by
  unfold p4
  rw [xL ps (p.Oper :: prev)]
  constructor
  ·rintro ⟨h1,h2⟩ x hx k hk ha
   cases x with
   | zero=>exact .inl (h1 k hk ha)
   | succ x =>
    have e:gi (p :: ps) ((x+1:Nat):Int)=gi ps (x:Int):=rfl
    rw [e] at ha
    rcases h2 x (by simpa using hx) k hk ha with h | h
    ·rcases List.mem_cons.1 h with h | h
     ·right; rw [List.take_succ_cons]; exact List.mem_cons.2 (.inl h)
     ·exact .inl h
    ·right; rw [List.take_succ_cons]; exact List.mem_cons.2 (.inr h)
  ·intro h
   refine ⟨fun k hk ha=>?_,fun x hx k hk ha=>?_⟩
   ·rcases h 0 (by simp) k hk ha with h | h
    ·exact h
    ·cases h
   ·rcases h (x+1) (by simpa using hx) k hk ha with h | h
    ·exact .inl (List.mem_cons_of_mem _ h)
    ·rw [List.take_succ_cons] at h
     rcases List.mem_cons.1 h with h | h
     ·exact .inl (List.mem_cons.2 (.inl h))
     ·exact .inr h
theorem E4 {o:al} (hc:(bq o).2=0):fG o o.aE=0∧0≤o.aE∧o.aE < o.aq:=by
 have h:0≤o.aE∧o.aE < o.aq:=by
  unfold bq cD at hc
  split at hc
  ·cases hc
  ·rename_i hh; unfold ix at hh; omega
 refine ⟨?_,h⟩
 unfold fG
 have Bm:(cD o).2=0:=hc
 simp only [hc,Bm]
 simp; omega
theorem CR {o:al} {l:List ab} (hc:(bq o).2=0) (hl:(cc l).2=0) (ps:List aa):cY o l ps=true↔mx o l o.aE (List.replicate l.length false) ps:=by
 obtain ⟨hm,i0,i1⟩:=E4 hc
 rw [xc hc ps o.aE _ [] (Av l) i0 i1,mU,xL]
 have er:b7 o l ps=gN o l [] o.aE ps:=by unfold b7 cH; rw [hm,if_neg (by decide)]
 rw [er]
 constructor
 ·rintro ⟨_,_,nl,FC,FE⟩
  refine ⟨nl,fun x hx k hk ha=>.inr ?_,fun m hm he=>.inr ?_⟩
  ·apply Classical.byContradiction
   intro hn
   have jS:=(v3 nl).2 (gi ps (x:Int)).Oper (by
    have:=(rS (p:=ps) (i:=(gi ps (x:Int)).Oper) (Nat.le_refl _)).mpr ⟨x,hx,rfl⟩
    rwa [List.take_length] at this)
   have:=FC x hx
   rw [tw ⟨jS.1,jS.2.1⟩ hk ha hn] at this
   cases this
  ·apply Classical.byContradiction
   intro hn
   exact FE m (ia.2 ⟨by omega,by omega,he,hn⟩)
 ·rintro ⟨nl,FC,FE⟩
  refine ⟨hc,hl,nl,fun x hx=>tx (fun k hk hh=>?_),fun m hm=>?_⟩
  ·rcases FC x hx k hk hh.1 with h | h
   ·cases h
   ·exact hh.2 h
  ·obtain ⟨h0,h1,h2,h3⟩:=ia.1 hm
   have e:((m.toNat:Nat):Int)=m:=by omega
   rcases FE m.toNat (by omega) (by rw [e]; exact h2) with h | h
   ·cases h
   ·rw [e] at h; exact h3 h
def mT (o:al) (l:List ab):List (List aa):=mn o l (l.length+1) o.aE (List.replicate l.length false)
theorem qi {o:al} {l:List ab} (hc:(bq o).2=0) (hl:(cc l).2=0) (ps:List aa):ps∈mT o l↔cY o l ps=true:=by
 rw [CR hc hl]
 have:=Dn (o:=o) (l:=l) (st:=o.aE) (done:=List.replicate l.length false) (by simp) (ps:=ps)
 rw [BD] at this
 exact this
theorem Bu {o:al} {l:List ab} (h:cq o l 20=0):bj o l=match mT o l with | []=>([],41) | x :: _=>(x,0):=by
 obtain ⟨hc,hl,h20⟩:=lh h
 have hf:=(u5 (o:=o) (l:=l) (by omega) (cf (List.replicate l.length false)+1) o.aE [] (List.replicate l.length false) [] rfl (by simp) (AV o l)).1
 have hf:(jb (bB o l) o.aE []).1=iw [] (mn o l (cf (List.replicate l.length false)+1) o.aE (List.replicate l.length false)):=hf
 rw [BD] at hf
 have hf:(jb (bB o l) o.aE []).1=iw [] (mT o l):=hf
 unfold bj
 rw [if_neg (by omega),hf]
 cases hL:mT o l with
 | nil=>simp [iw]
 | cons x L =>
  have:=(qi hc hl x).1 (by rw [hL]; simp)
  simp [iw,this]
theorem nt (o:al) (l:List ab):(cq o l 20≠0∧bj o l=([],cq o l 20))∨(cq o l 20=0∧mT o l=[]∧bj o l=([],41))∨(∃ x L,cq o l 20=0∧mT o l=x :: L∧bj o l=(x,0)):=by
 by_cases h:cq o l 20=0
 ·right
  have:=Bu h
  cases hL:mT o l with
  | nil=>rw [hL] at this; exact .inl ⟨h,rfl,this⟩
  | cons x L=>rw [hL] at this; exact .inr ⟨x,L,h,rfl,this⟩
 ·left
  exact ⟨h,by unfold bj; rw [if_pos h]⟩
end Go.Proofs.YteahldlmkheleaaGreat
