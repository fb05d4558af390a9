/- Lemmas. -/
import Derived.Test.YteahldlmkheleaaGreatLV7
set_option linter.all false
namespace Go.Proofs.YteahldlmkheleaaGreat
open Go Go.Sv Go.Pu
def qS (l:List ab):List Int→List aa→Prop
 | _,[]=>True
 | prev,p :: ps=>(∀ k:Nat,k < l.length→bl (gi l (k:Int)) (gi l p.Oper)=true→(k:Int)∈prev)∧qS l (p.Oper :: prev) ps
def j8 (l:List ab) (done:List Bool) (prev:List Int):Prop:=done.length=l.length∧∀ i:Nat,i < l.length→(gi done (i:Int)=true↔(i:Int)∈prev)
theorem BF {l:List ab} {done:List Bool} {prev:List Int} {i:Int} (h:j8 l done prev) (h0:0≤i) (h1:i < l.length):j8 l (done.set i.toNat true) (i :: prev):=by
 obtain ⟨a,b⟩:=h
 refine ⟨by simpa using a,fun j hj=>?_⟩
 rw [List.mem_cons]
 by_cases e:i=(j:Int)
 ·subst e
  rw [Az h0 (by omega)]
  simp
 ·rw [Ay h0 (by omega) e,b j hj]
  constructor
  ·intro h; exact .inr h
  ·rintro (h | h)
   ·exact absurd h.symm e
   ·exact h
theorem BG (l:List ab):j8 l (List.replicate l.length false) []:=by
 refine ⟨by simp,fun i hi=>?_⟩
 rw [bZ _ _ (by simpa using hi)]
 simp
theorem rA {l:List ab} {done:List Bool} {prev:List Int} (h:j8 l done prev) {i:Nat} (hi:i < l.length):isDone done (i:Int)=true↔(i:Int)∈prev:=by
 unfold isDone
 rw [decide_eq_true (by rw [h.1]; omega),Bool.true_and]
 exact h.2 i hi
theorem vO {l:List ab} {done:List Bool} {prev:List Int} (h:j8 l done prev) {i:Nat} (hi:i < l.length):l9 l done i=true↔(i:Int)∉prev∧∀ k:Nat,k < l.length→bl (gi l (k:Int)) (gi l (i:Int))=true→(k:Int)∈prev:=by
 unfold l9
 rw [Bool.and_eq_true,Bool.not_eq_true',List.all_eq_true,← Bool.not_eq_true,rA h hi]
 refine and_congr Iff.rfl ⟨fun hh k hk ha=>?_,fun hh k hk=>?_⟩
 ·have:=hh k (List.mem_range.2 hk)
  rw [ha] at this
  exact (rA h hk).1 (by simpa using this)
 ·have hk:=List.mem_range.1 hk
  by_cases ha:bl (gi l (k:Int)) (gi l (i:Int))=true
  ·rw [(rA h hk).2 (hh k hk ha)]; rfl
  ·simp [ha]
theorem B5 {l:List ab} {done:List Bool} {i:Nat} (hi:i < l.length) (h:l9 l done i=true):(i:Int)∈fc l done:=by
 unfold fc jG
 exact List.mem_map.2 ⟨i,List.mem_filter.2 ⟨List.mem_range.2 hi,h⟩,rfl⟩
theorem B1 {o:aj} {l:List ab} {st:Int} {done:List Bool} {prev:List Int} (hc:(bB o).2=0) (hs:j8 l done prev) (p:aa):p∈bM o l st done↔0≤p.Oper∧p.Oper < l.length∧p.Oper∉prev∧(∀ k:Nat,k < l.length→bl (gi l (k:Int)) (gi l p.Oper)=true→(k:Int)∈prev)∧jj o l st p.Oper=some p:=by
 constructor
 ·intro h
  obtain ⟨_,a,b,c,d⟩:=q9 h
  have e:((p.Oper.toNat:Nat):Int)=p.Oper:=by omega
  have:=(vO hs (i:=p.Oper.toNat) (by omega)).1 c
  rw [e] at this
  exact ⟨a,b,this.1,this.2,d⟩
 ·rintro ⟨a,b,c,d,e⟩
  unfold bM yO
  rw [if_neg (by omega)]
  have ee:((p.Oper.toNat:Nat):Int)=p.Oper:=by omega
  have hm:=B5 (l:=l) (done:=done) (i:=p.Oper.toNat) (by omega) ((vO hs (by omega)).2 ⟨by rw [ee]; exact c,by rw [ee]; exact d⟩)
  rw [ee] at hm
  exact List.mem_filterMap.2 ⟨_,hm,e⟩
theorem BA {o:aj} {l:List ab} {prev:List Int} {st:Int} {p:aa} (h0:0≤st) (h1:st < o.au) (a:0≤p.Oper) (b:p.Oper < l.length) (c:p.Oper∉prev) :
  ((du o l prev st p).2=0↔jj o l st p.Oper=some p)∧((du o l prev st p).2=0→(du o l prev st p).1=fe o l st p∧(bA o st (gi l p.Oper).Kind).2.2=true):=by
 unfold du fe jj
 rw [if_neg (by omega),if_neg c]
 have kp:∀ k r,dc o st k r=if (bA o st k).2.2=false∨(bA o st k).2.1≠r then (0,40) else ((bA o st k).1,0):=fun k r=>by
  unfold dc; rw [if_neg (by omega)]
 unfold gB gr cw
 simp only [kp]
 generalize bA o st (gi l p.Oper).Kind=m
 obtain ⟨x,y,z⟩:=m
 obtain ⟨pi,pr⟩:=p
 dsimp only at *
 cases z with
 | false=>simp
 | true =>
  by_cases hy:y=pr
  ·subst hy
   simp only [Bool.true_and]
   by_cases he:(gi l pi).End=-1
   ·simp [he]
   ·by_cases hr:(gi l pi).Result=y
    ·simp [he,hr]
    ·simp [he,hr]
  ·simp [hy]
theorem yc {o:aj} {l:List ab} (hc:(bB o).2=0):∀ (ps:List aa) (st:Int) (done:List Bool) (prev:List Int),j8 l done prev→0≤st→st < o.au →
  (nc o l st done ps↔(il o l prev st ps).2.2=0∧qS l prev ps∧∀ m:Nat,m < l.length→(gi l (m:Int)).End≠-1→(m:Int)∈prev∨(m:Int)∈opers ps)
 | [],st,done,prev,hs,h0,h1=>by
  unfold nc kY qS il opers
  rw [List.all_eq_true]
  constructor
  ·intro h
   refine ⟨rfl,trivial,fun m hm he=>.inl ?_⟩
   have:=h m (List.mem_range.2 hm)
   rw [Bool.not_eq_true',Bool.and_eq_false_iff] at this
   rcases this with h | h
   ·exact absurd h (by simpa using he)
   ·exact (hs.2 m hm).1 (by simpa using h)
  ·rintro ⟨_,_,h⟩ m hm
   have hm:=List.mem_range.1 hm
   by_cases he:(gi l (m:Int)).End=-1
   ·simp [he]
   ·rcases h m hm he with h | h
    ·rw [(hs.2 m hm).2 h]; simp
    ·cases h
 | p :: ps,st,done,prev,hs,h0,h1=>by
  unfold nc qS
  rw [B1 hc hs p]
  by_cases hr:0≤p.Oper∧p.Oper < l.length∧p.Oper∉prev
  ·obtain ⟨a,b,c⟩:=hr
   obtain ⟨s1,s2⟩:=BA (l:=l) (prev:=prev) (p:=p) h0 h1 a b c
   rw [← s1,il]
   by_cases he:(du o l prev st p).2=0
   ·obtain ⟨e1,e2⟩:=s2 he
    obtain ⟨m0,m1⟩:=Ef hc e2
    have ih:=yc hc ps (fe o l st p) _ _ (BF hs a b) m0 m1
    rw [ih,if_neg (by omega),e1]
    have eo:opers (p :: ps)=p.Oper :: opers ps:=rfl
    rw [eo]
    simp only [List.mem_cons]
    constructor
    ·rintro ⟨⟨_,_,_,ha,_⟩,g1,g2,g3⟩
     refine ⟨g1,⟨ha,g2⟩,fun m hm hh=>?_⟩
     rcases g3 m hm hh with (h | h) | h
     ·exact .inr (.inl h)
     ·exact .inl h
     ·exact .inr (.inr h)
    ·rintro ⟨g1,⟨ha,g2⟩,g3⟩
     refine ⟨⟨a,b,c,ha,he⟩,g1,g2,fun m hm hh=>?_⟩
     rcases g3 m hm hh with h | h | h
     ·exact .inl (.inr h)
     ·exact .inl (.inl h)
     ·exact .inr h
   ·rw [if_pos he]
    exact ⟨fun h=>absurd h.1.2.2.2.2 he,fun h=>absurd h.1 he⟩
  ·constructor
   ·intro h; exact absurd ⟨h.1.1,h.1.2.1,h.1.2.2.1⟩ hr
   ·intro h
    exfalso
    have h:=h.1
    rw [il] at h
    unfold du at h
    by_cases h3:p.Oper < 0∨p.Oper≥l.length
    ·rw [if_pos h3,if_pos (by decide)] at h; exact absurd h (by decide)
    ·by_cases h4:p.Oper∈prev
     ·rw [if_neg h3,if_pos h4,if_pos (by decide)] at h; exact absurd h (by decide)
     ·exact hr ⟨by omega,by omega,h4⟩
theorem yI {l:List ab}:∀ (ps:List aa) (prev:List Int),qS l prev ps↔∀ x:Nat,x < ps.length→∀ k:Nat,k < l.length→bl (gi l (k:Int)) (gi l (gi ps (x:Int)).Oper)=true→(k:Int)∈prev∨(k:Int)∈opers (ps.take x)
 | [],prev=>by simp [qS]
 | p :: ps,prev=>by
  unfold qS
  rw [yI ps (p.Oper :: prev)]
  constructor
  ·rintro ⟨h1,h2⟩ x hx k hk ha
   cases x with
   | zero=>exact .inl (h1 k hk ha)
   | succ x =>
    have e:gi (p :: ps) ((x+1:Nat):Int)=gi ps (x:Int):=rfl
    rw [e] at ha
    rcases h2 x (by simpa using hx) k hk ha with h | h
    ·rcases List.mem_cons.1 h with h | h
     ·right; rw [List.take_succ_cons]; exact List.mem_cons.2 (.inl h)
     ·exact .inl h
    ·right; rw [List.take_succ_cons]; exact List.mem_cons.2 (.inr h)
  ·intro h
   refine ⟨fun k hk ha=>?_,fun x hx k hk ha=>?_⟩
   ·rcases h 0 (by simp) k hk ha with h | h
    ·exact h
    ·cases h
   ·rcases h (x+1) (by simpa using hx) k hk ha with h | h
    ·exact .inl (List.mem_cons_of_mem _ h)
    ·rw [List.take_succ_cons] at h
     rcases List.mem_cons.1 h with h | h
     ·exact .inl (List.mem_cons.2 (.inl h))
     ·exact .inr h
theorem GC {o:aj} (hc:(bB o).2=0):fF o o.aH=0∧0≤o.aH∧o.aH < o.au:=by
 have h:0≤o.aH∧o.aH < o.au:=by
  unfold bB cX at hc
  split at hc
  ·cases hc
  ·rename_i hh; unfold iX at hh; omega
 refine ⟨?_,h⟩
 unfold fF
 have Cv:(cX o).2=0:=hc
 simp only [hc,Cv]
 simp; omega
theorem Eg {o:aj} {l:List ab} (hc:(bB o).2=0) (hl:(c7 l).2=0) (ps:List aa):dt o l ps=true↔nc o l o.aH (List.replicate l.length false) ps:=by
 obtain ⟨hm,i0,i1⟩:=GC hc
 rw [yc hc ps o.aH _ [] (BG l) i0 i1,o4,yI]
 have er:cS o l ps=il o l [] o.aH ps:=by unfold cS c6; rw [hm,if_neg (by decide)]
 rw [er]
 constructor
 ·rintro ⟨_,_,lA,Hc,Hf⟩
  refine ⟨lA,fun x hx k hk ha=>.inr ?_,fun m hm he=>.inr ?_⟩
  ·apply Classical.byContradiction
   intro hn
   have hin:=(w7 lA).2 (gi ps (x:Int)).Oper (by
    have:=(sN (p:=ps) (i:=(gi ps (x:Int)).Oper) (Nat.le_refl _)).mpr ⟨x,hx,rfl⟩
    rwa [List.take_length] at this)
   have:=Hc x hx
   rw [uu ⟨hin.1,hin.2.1⟩ hk ha hn] at this
   cases this
  ·apply Classical.byContradiction
   intro hn
   exact Hf m (iD.2 ⟨by omega,by omega,he,hn⟩)
 ·rintro ⟨lA,Hc,Hf⟩
  refine ⟨hc,hl,lA,fun x hx=>uv (fun k hk hh=>?_),fun m hm=>?_⟩
  ·rcases Hc x hx k hk hh.1 with h | h
   ·cases h
   ·exact hh.2 h
  ·obtain ⟨h0,h1,h2,h3⟩:=iD.1 hm
   have e:((m.toNat:Nat):Int)=m:=by omega
   rcases Hf m.toNat (by omega) (by rw [e]; exact h2) with h | h
   ·cases h
   ·rw [e] at h; exact h3 h
def nI (o:aj) (l:List ab):List (List aa):=m6 o l (l.length+1) o.aH (List.replicate l.length false)
theorem re {o:aj} {l:List ab} (hc:(bB o).2=0) (hl:(c7 l).2=0) (ps:List aa):ps∈nI o l↔dt o l ps=true:=by
 rw [Eg hc hl]
 have:=EP (o:=o) (l:=l) (st:=o.aH) (done:=List.replicate l.length false) (by simp) (ps:=ps)
 rw [CN] at this
 exact this
theorem CF {o:aj} {l:List ab} (h:cD o l 20=0):bn o l=match nI o l with | []=>([],41) | x :: _=>(x,0):=by
 obtain ⟨hc,hl,h20⟩:=lU h
 have hf:=(vT (o:=o) (l:=l) (by omega) (cf (List.replicate l.length false)+1) o.aH [] (List.replicate l.length false) [] rfl (by simp) (B4 o l)).1
 have hf:(jH (bH o l) o.aH []).1=iW [] (m6 o l (cf (List.replicate l.length false)+1) o.aH (List.replicate l.length false)):=hf
 rw [CN] at hf
 have hf:(jH (bH o l) o.aH []).1=iW [] (nI o l):=hf
 unfold bn
 rw [if_neg (by omega),hf]
 cases hL:nI o l with
 | nil=>simp [iW]
 | cons x L =>
  have:=(re hc hl x).1 (by rw [hL]; simp)
  simp [iW,this]
theorem n6 (o:aj) (l:List ab):(cD o l 20≠0∧bn o l=([],cD o l 20))∨(cD o l 20=0∧nI o l=[]∧bn o l=([],41))∨(∃ x L,cD o l 20=0∧nI o l=x :: L∧bn o l=(x,0)):=by
 by_cases h:cD o l 20=0
 ·right
  have:=CF h
  cases hL:nI o l with
  | nil=>rw [hL] at this; exact .inl ⟨h,rfl,this⟩
  | cons x L=>rw [hL] at this; exact .inr ⟨x,L,h,rfl,this⟩
 ·left
  exact ⟨h,by unfold bn; rw [if_pos h]⟩
end Go.Proofs.YteahldlmkheleaaGreat
