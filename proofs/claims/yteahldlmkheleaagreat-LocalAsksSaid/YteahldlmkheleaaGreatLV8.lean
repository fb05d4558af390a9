/- Lemmas. -/
import Derived.Test.YteahldlmkheleaaGreatLV7
set_option linter.all false
namespace Go.Proofs.YteahldlmkheleaaGreat
open Go Go.Sv Go.Pu
def qx (l:List ab):List Int→List aa→Prop
 | _,[]=>True
 | prev,p :: ps=>(∀ k:Nat,k < l.length→aZ (gi l (k:Int)) (gi l p.Oper)=true→(k:Int)∈prev)∧qx l (p.Oper :: prev) ps
def jQ (l:List ab) (done:List Bool) (prev:List Int):Prop:=done.length=l.length∧∀ i:Nat,i < l.length→(gi done (i:Int)=true↔(i:Int)∈prev)
theorem Bn {l:List ab} {done:List Bool} {prev:List Int} {i:Int} (h:jQ l done prev) (h0:0≤i) (h1:i < l.length):jQ l (done.set i.toNat true) (i :: prev):=by
 obtain ⟨a,b⟩:=h
 refine ⟨by simpa using a,fun j hj=>?_⟩
 rw [List.mem_cons]
 by_cases e:i=(j:Int)
 ·subst e
  rw [Ai h0 (by omega)]
  simp
 ·rw [Ah h0 (by omega) e,b j hj]
  constructor
  ·intro h; exact .inr h
  ·rintro (h | h)
   ·exact absurd h.symm e
   ·exact h
theorem Bo (l:List ab):jQ l (List.replicate l.length false) []:=by
 refine ⟨by simp,fun i hi=>?_⟩
 rw [cN _ _ (by simpa using hi)]
 simp
theorem q7 {l:List ab} {done:List Bool} {prev:List Int} (h:jQ l done prev) {i:Nat} (hi:i < l.length):isDone done (i:Int)=true↔(i:Int)∈prev:=by
 unfold isDone
 rw [decide_eq_true (by rw [h.1]; omega),Bool.true_and]
 exact h.2 i hi
theorem vu {l:List ab} {done:List Bool} {prev:List Int} (h:jQ l done prev) {i:Nat} (hi:i < l.length):l4 l done i=true↔(i:Int)∉prev∧∀ k:Nat,k < l.length→aZ (gi l (k:Int)) (gi l (i:Int))=true→(k:Int)∈prev:=by
 unfold l4
 rw [Bool.and_eq_true,Bool.not_eq_true',List.all_eq_true,← Bool.not_eq_true,q7 h hi]
 refine and_congr Iff.rfl ⟨fun hh k hk ha=>?_,fun hh k hk=>?_⟩
 ·have:=hh k (List.mem_range.2 hk)
  rw [ha] at this
  exact (q7 h hk).1 (by simpa using this)
 ·have hk:=List.mem_range.1 hk
  by_cases ha:aZ (gi l (k:Int)) (gi l (i:Int))=true
  ·rw [(q7 h hk).2 (hh k hk ha)]; rfl
  ·simp [ha]
theorem BT {l:List ab} {done:List Bool} {i:Nat} (hi:i < l.length) (h:l4 l done i=true):(i:Int)∈eW l done:=by
 unfold eW jo
 exact List.mem_map.2 ⟨i,List.mem_filter.2 ⟨List.mem_range.2 hi,h⟩,rfl⟩
theorem BP {o:ae} {l:List ab} {st:Int} {done:List Bool} {prev:List Int} (hc:(bp o).2=0) (hs:jQ l done prev) (p:aa):p∈bK o l st done↔0≤p.Oper∧p.Oper < l.length∧p.Oper∉prev∧(∀ k:Nat,k < l.length→aZ (gi l (k:Int)) (gi l p.Oper)=true→(k:Int)∈prev)∧iY o l st p.Oper=some p:=by
 constructor
 ·intro h
  obtain ⟨_,a,b,c,d⟩:=qH h
  have e:((p.Oper.toNat:Nat):Int)=p.Oper:=by omega
  have:=(vu hs (i:=p.Oper.toNat) (by omega)).1 c
  rw [e] at this
  exact ⟨a,b,this.1,this.2,d⟩
 ·rintro ⟨a,b,c,d,e⟩
  unfold bK yv
  rw [if_neg (by omega)]
  have ee:((p.Oper.toNat:Nat):Int)=p.Oper:=by omega
  have hm:=BT (l:=l) (done:=done) (i:=p.Oper.toNat) (by omega) ((vu hs (by omega)).2 ⟨by rw [ee]; exact c,by rw [ee]; exact d⟩)
  rw [ee] at hm
  exact List.mem_filterMap.2 ⟨_,hm,e⟩
theorem Bi {o:ae} {l:List ab} {prev:List Int} {st:Int} {p:aa} (h0:0≤st) (h1:st < o.ar) (a:0≤p.Oper) (b:p.Oper < l.length) (c:p.Oper∉prev) :
  ((ca o l prev st p).2=0↔iY o l st p.Oper=some p)∧((ca o l prev st p).2=0→(ca o l prev st p).1=e6 o l st p∧(b9 o st (gi l p.Oper).Kind).2.2=true):=by
 unfold ca e6 iY
 rw [if_neg (by omega),if_neg c]
 have kV:∀ k r,cX o st k r=if (b9 o st k).2.2=false∨(b9 o st k).2.1≠r then (0,40) else ((b9 o st k).1,0):=fun k r=>by
  unfold cX; rw [if_neg (by omega)]
 unfold gW gw cu
 simp only [kV]
 generalize b9 o st (gi l p.Oper).Kind=m
 obtain ⟨x,y,z⟩:=m
 obtain ⟨pi,pr⟩:=p
 dsimp only at *
 cases z with
 | false=>simp
 | true =>
  by_cases hy:y=pr
  ·subst hy
   simp only [Bool.true_and]
   by_cases he:(gi l pi).End=-1
   ·simp [he]
   ·by_cases hr:(gi l pi).Result=y
    ·simp [he,hr]
    ·simp [he,hr]
  ·simp [hy]
theorem xK {o:ae} {l:List ab} (hc:(bp o).2=0):∀ (ps:List aa) (st:Int) (done:List Bool) (prev:List Int),jQ l done prev→0≤st→st < o.ar →
  (mP o l st done ps↔(fh o l prev st ps).2.2=0∧qx l prev ps∧∀ m:Nat,m < l.length→(gi l (m:Int)).End≠-1→(m:Int)∈prev∨(m:Int)∈opers ps)
 | [],st,done,prev,hs,h0,h1=>by
  unfold mP kQ qx fh opers
  rw [List.all_eq_true]
  constructor
  ·intro h
   refine ⟨rfl,trivial,fun m hm he=>.inl ?_⟩
   have:=h m (List.mem_range.2 hm)
   rw [Bool.not_eq_true',Bool.and_eq_false_iff] at this
   rcases this with h | h
   ·exact absurd h (by simpa using he)
   ·exact (hs.2 m hm).1 (by simpa using h)
  ·rintro ⟨_,_,h⟩ m hm
   have hm:=List.mem_range.1 hm
   by_cases he:(gi l (m:Int)).End=-1
   ·simp [he]
   ·rcases h m hm he with h | h
    ·rw [(hs.2 m hm).2 h]; simp
    ·cases h
 | p :: ps,st,done,prev,hs,h0,h1=>by
  unfold mP qx
  rw [BP hc hs p]
  by_cases hr:0≤p.Oper∧p.Oper < l.length∧p.Oper∉prev
  ·obtain ⟨a,b,c⟩:=hr
   obtain ⟨s1,s2⟩:=Bi (l:=l) (prev:=prev) (p:=p) h0 h1 a b c
   rw [← s1,fh]
   by_cases he:(ca o l prev st p).2=0
   ·obtain ⟨e1,e2⟩:=s2 he
    obtain ⟨m0,m1⟩:=D5 hc e2
    have ih:=xK hc ps (e6 o l st p) _ _ (Bn hs a b) m0 m1
    rw [ih,if_neg (by omega),e1]
    have eo:opers (p :: ps)=p.Oper :: opers ps:=rfl
    rw [eo]
    simp only [List.mem_cons]
    constructor
    ·rintro ⟨⟨_,_,_,ha,_⟩,g1,g2,g3⟩
     refine ⟨g1,⟨ha,g2⟩,fun m hm hh=>?_⟩
     rcases g3 m hm hh with (h | h) | h
     ·exact .inr (.inl h)
     ·exact .inl h
     ·exact .inr (.inr h)
    ·rintro ⟨g1,⟨ha,g2⟩,g3⟩
     refine ⟨⟨a,b,c,ha,he⟩,g1,g2,fun m hm hh=>?_⟩
     rcases g3 m hm hh with h | h | h
     ·exact .inl (.inr h)
     ·exact .inl (.inl h)
     ·exact .inr h
   ·rw [if_pos he]
    exact ⟨fun h=>absurd h.1.2.2.2.2 he,fun h=>absurd h.1 he⟩
  ·constructor
   ·intro h; exact absurd ⟨h.1.1,h.1.2.1,h.1.2.2.1⟩ hr
   ·intro h
    exfalso
    have h:=h.1
    rw [fh] at h
    unfold ca at h
    by_cases h3:p.Oper < 0∨p.Oper≥l.length
    ·rw [if_pos h3,if_pos (by decide)] at h; exact absurd h (by decide)
    ·by_cases h4:p.Oper∈prev
     ·rw [if_neg h3,if_pos h4,if_pos (by decide)] at h; exact absurd h (by decide)
     ·exact hr ⟨by omega,by omega,h4⟩
theorem yp {l:List ab}:∀ (ps:List aa) (prev:List Int),qx l prev ps↔∀ x:Nat,x < ps.length→∀ k:Nat,k < l.length→aZ (gi l (k:Int)) (gi l (gi ps (x:Int)).Oper)=true→(k:Int)∈prev∨(k:Int)∈opers (ps.take x)
 | [],prev=>by simp [qx]
 | p :: ps,prev=>by
  unfold qx
  rw [yp ps (p.Oper :: prev)]
  constructor
  ·rintro ⟨h1,h2⟩ x hx k hk ha
   cases x with
   | zero=>exact .inl (h1 k hk ha)
   | succ x =>
    have e:gi (p :: ps) ((x+1:Nat):Int)=gi ps (x:Int):=rfl
    rw [e] at ha
    rcases h2 x (by simpa using hx) k hk ha with h | h
    ·rcases List.mem_cons.1 h with h | h
     ·right; rw [List.take_succ_cons]; exact List.mem_cons.2 (.inl h)
     ·exact .inl h
    ·right; rw [List.take_succ_cons]; exact List.mem_cons.2 (.inr h)
  ·intro h
   refine ⟨fun k hk ha=>?_,fun x hx k hk ha=>?_⟩
   ·rcases h 0 (by simp) k hk ha with h | h
    ·exact h
    ·cases h
   ·rcases h (x+1) (by simpa using hx) k hk ha with h | h
    ·exact .inl (List.mem_cons_of_mem _ h)
    ·rw [List.take_succ_cons] at h
     rcases List.mem_cons.1 h with h | h
     ·exact .inl (List.mem_cons.2 (.inl h))
     ·exact .inr h
theorem BV {o:ae} (hc:(bp o).2=0):eK o o.aC=0∧0≤o.aC∧o.aC < o.ar:=by
 have h:0≤o.aC∧o.aC < o.ar:=by
  unfold bp cJ at hc
  split at hc
  ·cases hc
  ·rename_i hh; unfold iB at hh; omega
 refine ⟨?_,h⟩
 unfold eK
 have Cr:(cJ o).2=0:=hc
 simp only [hc,Cr]
 simp; omega
theorem D6 {o:ae} {l:List ab} (hc:(bp o).2=0) (hl:(bZ l).2=0) (ps:List aa):c9 o l ps=true↔mP o l o.aC (List.replicate l.length false) ps:=by
 obtain ⟨hm,i0,i1⟩:=BV hc
 rw [xK hc ps o.aC _ [] (Bo l) i0 i1,oO,yp]
 have er:cg o l ps=fh o l [] o.aC ps:=by unfold cg bL; rw [hm,if_neg (by decide)]
 rw [er]
 constructor
 ·rintro ⟨_,_,ky,Cd,Ce⟩
  refine ⟨ky,fun x hx k hk ha=>.inr ?_,fun m hm he=>.inr ?_⟩
  ·apply Classical.byContradiction
   intro hn
   have mt:=(wC ky).2 (gi ps (x:Int)).Oper (by
    have:=(jL (p:=ps) (i:=(gi ps (x:Int)).Oper) (Nat.le_refl _)).mpr ⟨x,hx,rfl⟩
    rwa [List.take_length] at this)
   have:=Cd x hx
   rw [re ⟨mt.1,mt.2.1⟩ hk ha hn] at this
   cases this
  ·apply Classical.byContradiction
   intro hn
   exact Ce m (h8.2 ⟨by omega,by omega,he,hn⟩)
 ·rintro ⟨ky,Cd,Ce⟩
  refine ⟨hc,hl,ky,fun x hx=>tY (fun k hk hh=>?_),fun m hm=>?_⟩
  ·rcases Cd x hx k hk hh.1 with h | h
   ·cases h
   ·exact hh.2 h
  ·obtain ⟨h0,h1,h2,h3⟩:=h8.1 hm
   have e:((m.toNat:Nat):Int)=m:=by omega
   rcases Ce m.toNat (by omega) (by rw [e]; exact h2) with h | h
   ·cases h
   ·rw [e] at h; exact h3 h
def nq (o:ae) (l:List ab):List (List aa):=mK o l (l.length+1) o.aC (List.replicate l.length false)
theorem qL {o:ae} {l:List ab} (hc:(bp o).2=0) (hl:(bZ l).2=0) (ps:List aa):ps∈nq o l↔c9 o l ps=true:=by
 rw [D6 hc hl]
 have:=EI (o:=o) (l:=l) (st:=o.aC) (done:=List.replicate l.length false) (by simp) (ps:=ps)
 rw [CJ] at this
 exact this
theorem CA {o:ae} {l:List ab} (h:cy o l 20=0):bk o l=match nq o l with | []=>([],41) | x :: _=>(x,0):=by
 obtain ⟨hc,hl,h20⟩:=lQ h
 have hf:=(vz (o:=o) (l:=l) (by omega) (cf (List.replicate l.length false)+1) o.aC [] (List.replicate l.length false) [] rfl (by simp) (BS o l)).1
 have hf:(jq (bE o l) o.aC []).1=iA [] (mK o l (cf (List.replicate l.length false)+1) o.aC (List.replicate l.length false)):=hf
 rw [CJ] at hf
 have hf:(jq (bE o l) o.aC []).1=iA [] (nq o l):=hf
 unfold bk
 rw [if_neg (by omega),hf]
 cases hL:nq o l with
 | nil=>simp [iA]
 | cons x L =>
  have:=(qL hc hl x).1 (by rw [hL]; simp)
  simp [iA,this]
theorem nL (o:ae) (l:List ab):(cy o l 20≠0∧bk o l=([],cy o l 20))∨(cy o l 20=0∧nq o l=[]∧bk o l=([],41))∨(∃ x L,cy o l 20=0∧nq o l=x :: L∧bk o l=(x,0)):=by
 by_cases h:cy o l 20=0
 ·right
  have:=CA h
  cases hL:nq o l with
  | nil=>rw [hL] at this; exact .inl ⟨h,rfl,this⟩
  | cons x L=>rw [hL] at this; exact .inr ⟨x,L,h,rfl,this⟩
 ·left
  exact ⟨h,by unfold bk; rw [if_pos h]⟩
end Go.Proofs.YteahldlmkheleaaGreat
