/- Qy on LV linearizations; what is found is one,and if any is there,one is found. -/
import Derived.Test.YteahldlmkheleaaGreatLV7
set_option linter.all false
namespace Go.Proofs.YteahldlmkheleaaGreat
open Go Go.Sv Go.Pu
def p4 (l:List ab):List Int→List aa→Prop
 | _,[]=>True
 | prev,p :: ps=>(∀ k:Nat,k < l.length→bh (gi l (k:Int)) (gi l p.Oper)=true→(k:Int)∈prev)∧p4 l (p.Oper :: prev) ps
def jw (l:List ab) (done:List Bool) (prev:List Int):Prop:=done.length=l.length∧∀ i:Nat,i < l.length→(gi done (i:Int)=true↔(i:Int)∈prev)
theorem Ar {l:List ab} {done:List Bool} {prev:List Int} {i:Int} (h:jw l done prev) (h0:0≤i) (h1:i < l.length):jw l (done.set i.toNat true) (i :: prev):=by
 obtain ⟨a,b⟩:=h
 refine ⟨by simpa using a,fun j hj=>?_⟩
 rw [List.mem_cons]
 by_cases e:i=(j:Int)
 ·subst e
  rw [zi h0 (by omega)]
  simp
 ·rw [zh h0 (by omega) e,b j hj]
  constructor
  ·intro h; exact .inr h
  ·rintro (h | h)
   ·exact absurd h.symm e
   ·exact h
theorem As (l:List ab):jw l (List.replicate l.length false) []:=by
 refine ⟨by simp,fun i hi=>?_⟩
 rw [bS _ _ (by simpa using hi)]
 simp
theorem qz {l:List ab} {done:List Bool} {prev:List Int} (h:jw l done prev) {i:Nat} (hi:i < l.length):isDone done (i:Int)=true↔(i:Int)∈prev:=by
 unfold isDone
 rw [decide_eq_true (by rw [h.1]; omega),Bool.true_and]
 exact h.2 i hi
theorem uH {l:List ab} {done:List Bool} {prev:List Int} (h:jw l done prev) {i:Nat} (hi:i < l.length):lv l done i=true↔(i:Int)∉prev∧∀ k:Nat,k < l.length→bh (gi l (k:Int)) (gi l (i:Int))=true→(k:Int)∈prev:=by
 unfold lv
 rw [Bool.and_eq_true,Bool.not_eq_true',List.all_eq_true,← Bool.not_eq_true,qz h hi]
 refine and_congr Iff.rfl ⟨fun hh k hk ha=>?_,fun hh k hk=>?_⟩
 ·have:=hh k (List.mem_range.2 hk)
  rw [ha] at this
  exact (qz h hk).1 (by simpa using this)
 ·have hk:=List.mem_range.1 hk
  by_cases ha:bh (gi l (k:Int)) (gi l (i:Int))=true
  ·rw [(qz h hk).2 (hh k hk ha)]; rfl
  ·simp [ha]
theorem AQ {l:List ab} {done:List Bool} {i:Nat} (hi:i < l.length) (h:lv l done i=true):(i:Int)∈eO l done:=by
 unfold eO jc
 exact List.mem_map.2 ⟨i,List.mem_filter.2 ⟨List.mem_range.2 hi,h⟩,rfl⟩
theorem AM {o:ah} {l:List ab} {st:Int} {done:List Bool} {prev:List Int} (hc:(br o).2=0) (hs:jw l done prev) (p:aa):p∈bG o l st done↔0≤p.Oper∧p.Oper < l.length∧p.Oper∉prev∧(∀ k:Nat,k < l.length→bh (gi l (k:Int)) (gi l p.Oper)=true→(k:Int)∈prev)∧iH o l st p.Oper=some p:=by
 constructor
 ·intro h
  obtain ⟨_,a,b,c,d⟩:=qg h
  have e:((p.Oper.toNat:Nat):Int)=p.Oper:=by omega
  have:=(uH hs (i:=p.Oper.toNat) (by omega)).1 c
  rw [e] at this
  exact ⟨a,b,this.1,this.2,d⟩
 ·rintro ⟨a,b,c,d,e⟩
  unfold bG xw
  rw [if_neg (by omega)]
  have ee:((p.Oper.toNat:Nat):Int)=p.Oper:=by omega
  have hm:=AQ (l:=l) (done:=done) (i:=p.Oper.toNat) (by omega) ((uH hs (by omega)).2 ⟨by rw [ee]; exact c,by rw [ee]; exact d⟩)
  rw [ee] at hm
  exact List.mem_filterMap.2 ⟨_,hm,e⟩
theorem Am {o:ah} {l:List ab} {prev:List Int} {st:Int} {p:aa} (h0:0≤st) (h1:st < o.ar) (a:0≤p.Oper) (b:p.Oper < l.length) (c:p.Oper∉prev) :
  ((di o l prev st p).2=0↔iH o l st p.Oper=some p)∧((di o l prev st p).2=0→(di o l prev st p).1=eQ o l st p∧(bq o st (gi l p.Oper).Kind).2.2=true):=by
 unfold di eQ iH
 rw [if_neg (by omega),if_neg c]
 have jI:∀ k r,cX o st k r=if (bq o st k).2.2=false∨(bq o st k).2.1≠r then (0,40) else ((bq o st k).1,0):=fun k r=>by
  unfold cX; rw [if_neg (by omega)]
 unfold gf fV cm
 simp only [jI]
 generalize bq o st (gi l p.Oper).Kind=m
 obtain ⟨x,y,z⟩:=m
 obtain ⟨pi,pr⟩:=p
 dsimp only at *
 cases z with
 | false=>simp
 | true =>
  by_cases hy:y=pr
  ·subst hy
   simp only [Bool.true_and]
   by_cases he:(gi l pi).End=-1
   ·simp [he]
   ·by_cases hr:(gi l pi).Result=y
    ·simp [he,hr]
    ·simp [he,hr]
  ·simp [hy]
theorem wN {o:ah} {l:List ab} (hc:(br o).2=0):∀ (ps:List aa) (st:Int) (done:List Bool) (prev:List Int),jw l done prev→0≤st→st < o.ar →
  (mo o l st done ps↔(gT o l prev st ps).2.2=0∧p4 l prev ps∧∀ m:Nat,m < l.length→(gi l (m:Int)).End≠-1→(m:Int)∈prev∨(m:Int)∈opers ps)
 | [],st,done,prev,hs,h0,h1=>by
  unfold mo kg p4 gT opers
  rw [List.all_eq_true]
  constructor
  ·intro h
   refine ⟨rfl,trivial,fun m hm he=>.inl ?_⟩
   have:=h m (List.mem_range.2 hm)
   rw [Bool.not_eq_true',Bool.and_eq_false_iff] at this
   rcases this with h | h
   ·exact absurd h (by simpa using he)
   ·exact (hs.2 m hm).1 (by simpa using h)
  ·rintro ⟨_,_,h⟩ m hm
   have hm:=List.mem_range.1 hm
   by_cases he:(gi l (m:Int)).End=-1
   ·simp [he]
   ·rcases h m hm he with h | h
    ·rw [(hs.2 m hm).2 h]; simp
    ·cases h
 | p :: ps,st,done,prev,hs,h0,h1=>by
  unfold mo p4
  rw [AM hc hs p]
  by_cases hr:0≤p.Oper∧p.Oper < l.length∧p.Oper∉prev
  ·obtain ⟨a,b,c⟩:=hr
   obtain ⟨s1,s2⟩:=Am (l:=l) (prev:=prev) (p:=p) h0 h1 a b c
   rw [← s1,gT]
   by_cases he:(di o l prev st p).2=0
   ·obtain ⟨e1,e2⟩:=s2 he
    obtain ⟨m0,m1⟩:=CX hc e2
    have ih:=wN hc ps (eQ o l st p) _ _ (Ar hs a b) m0 m1
    rw [ih,if_neg (by omega),e1]
    have eo:opers (p :: ps)=p.Oper :: opers ps:=rfl
    rw [eo]
    simp only [List.mem_cons]
    constructor
    ·rintro ⟨⟨_,_,_,ha,_⟩,g1,g2,g3⟩
     refine ⟨g1,⟨ha,g2⟩,fun m hm hh=>?_⟩
     rcases g3 m hm hh with (h | h) | h
     ·exact .inr (.inl h)
     ·exact .inl h
     ·exact .inr (.inr h)
    ·rintro ⟨g1,⟨ha,g2⟩,g3⟩
     refine ⟨⟨a,b,c,ha,he⟩,g1,g2,fun m hm hh=>?_⟩
     rcases g3 m hm hh with h | h | h
     ·exact .inl (.inr h)
     ·exact .inl (.inl h)
     ·exact .inr h
   ·rw [if_pos he]
    exact ⟨fun h=>absurd h.1.2.2.2.2 he,fun h=>absurd h.1 he⟩
  ·constructor
   ·intro h; exact absurd ⟨h.1.1,h.1.2.1,h.1.2.2.1⟩ hr
   ·intro h
    exfalso
    have h:=h.1
    rw [gT] at h
    unfold di at h
    by_cases h3:p.Oper < 0∨p.Oper≥l.length
    ·rw [if_pos h3,if_pos (by decide)] at h; exact absurd h (by decide)
    ·by_cases h4:p.Oper∈prev
     ·rw [if_neg h3,if_pos h4,if_pos (by decide)] at h; exact absurd h (by decide)
     ·exact hr ⟨by omega,by omega,h4⟩
theorem xp {l:List ab}:∀ (ps:List aa) (prev:List Int),p4 l prev ps↔∀ x:Nat,x < ps.length→∀ k:Nat,k < l.length→bh (gi l (k:Int)) (gi l (gi ps (x:Int)).Oper)=true→(k:Int)∈prev∨(k:Int)∈opers (ps.take x)
 | [],prev=>by simp [p4]
 | p :: ps,prev=>by
  unfold p4
  rw [xp ps (p.Oper :: prev)]
  constructor
  ·rintro ⟨h1,h2⟩ x hx k hk ha
   cases x with
   | zero=>exact .inl (h1 k hk ha)
   | succ x =>
    have e:gi (p :: ps) ((x+1:Nat):Int)=gi ps (x:Int):=rfl
    rw [e] at ha
    rcases h2 x (by simpa using hx) k hk ha with h | h
    ·rcases List.mem_cons.1 h with h | h
     ·right; rw [List.take_succ_cons]; exact List.mem_cons.2 (.inl h)
     ·exact .inl h
    ·right; rw [List.take_succ_cons]; exact List.mem_cons.2 (.inr h)
  ·intro h
   refine ⟨fun k hk ha=>?_,fun x hx k hk ha=>?_⟩
   ·rcases h 0 (by simp) k hk ha with h | h
    ·exact h
    ·cases h
   ·rcases h (x+1) (by simpa using hx) k hk ha with h | h
    ·exact .inl (List.mem_cons_of_mem _ h)
    ·rw [List.take_succ_cons] at h
     rcases List.mem_cons.1 h with h | h
     ·exact .inl (List.mem_cons.2 (.inl h))
     ·exact .inr h
theorem Fk {o:ah} (hc:(br o).2=0):fg o o.aE=0∧0≤o.aE∧o.aE < o.ar:=by
 have h:0≤o.aE∧o.aE < o.ar:=by
  unfold br cI at hc
  split at hc
  ·cases hc
  ·rename_i hh; unfold ix at hh; omega
 refine ⟨?_,h⟩
 unfold fg
 have Bg:(cI o).2=0:=hc
 simp only [hc,Bg]
 simp; omega
theorem CY {o:ah} {l:List ab} (hc:(br o).2=0) (hl:(cQ l).2=0) (ps:List aa):dh o l ps=true↔mo o l o.aE (List.replicate l.length false) ps:=by
 obtain ⟨hm,i0,i1⟩:=Fk hc
 rw [wN hc ps o.aE _ [] (As l) i0 i1,n8,xp]
 have er:cC o l ps=gT o l [] o.aE ps:=by unfold cC cN; rw [hm,if_neg (by decide)]
 rw [er]
 constructor
 ·rintro ⟨_,_,kM,FU,FX⟩
  refine ⟨kM,fun x hx k hk ha=>.inr ?_,fun m hm he=>.inr ?_⟩
  ·apply Classical.byContradiction
   intro hn
   have hin:=(vI kM).2 (gi ps (x:Int)).Oper (by
    have:=(rI (p:=ps) (i:=(gi ps (x:Int)).Oper) (Nat.le_refl _)).mpr ⟨x,hx,rfl⟩
    rwa [List.take_length] at this)
   have:=FU x hx
   rw [ti ⟨hin.1,hin.2.1⟩ hk ha hn] at this
   cases this
  ·apply Classical.byContradiction
   intro hn
   exact FX m (hU.2 ⟨by omega,by omega,he,hn⟩)
 ·rintro ⟨kM,FU,FX⟩
  refine ⟨hc,hl,kM,fun x hx=>tj (fun k hk hh=>?_),fun m hm=>?_⟩
  ·rcases FU x hx k hk hh.1 with h | h
   ·cases h
   ·exact hh.2 h
  ·obtain ⟨h0,h1,h2,h3⟩:=hU.1 hm
   have e:((m.toNat:Nat):Int)=m:=by omega
   rcases FX m.toNat (by omega) (by rw [e]; exact h2) with h | h
   ·cases h
   ·rw [e] at h; exact h3 h
def mN (o:ah) (l:List ab):List (List aa):=mg o l (l.length+1) o.aE (List.replicate l.length false)
theorem qj {o:ah} {l:List ab} (hc:(br o).2=0) (hl:(cQ l).2=0) (ps:List aa):ps∈mN o l↔dh o l ps=true:=by
 rw [CY hc hl]
 have:=DA (o:=o) (l:=l) (st:=o.aE) (done:=List.replicate l.length false) (by simp) (ps:=ps)
 rw [Bz] at this
 exact this
theorem Bq {o:ah} {l:List ab} (h:cu o l 20=0):bj o l=match mN o l with | []=>([],41) | x :: _=>(x,0):=by
 obtain ⟨hc,hl,h20⟩:=lg h
 have hf:=(uM (o:=o) (l:=l) (by omega) (cf (List.replicate l.length false)+1) o.aE [] (List.replicate l.length false) [] rfl (by simp) (AP o l)).1
 have hf:(jd (bB o l) o.aE []).1=iw [] (mg o l (cf (List.replicate l.length false)+1) o.aE (List.replicate l.length false)):=hf
 rw [Bz] at hf
 have hf:(jd (bB o l) o.aE []).1=iw [] (mN o l):=hf
 unfold bj
 rw [if_neg (by omega),hf]
 cases hL:mN o l with
 | nil=>simp [iw]
 | cons x L =>
  have:=(qj hc hl x).1 (by rw [hL]; simp)
  simp [iw,this]
theorem nh (o:ah) (l:List ab):(cu o l 20≠0∧bj o l=([],cu o l 20))∨(cu o l 20=0∧mN o l=[]∧bj o l=([],41))∨(∃ x L,cu o l 20=0∧mN o l=x :: L∧bj o l=(x,0)):=by
 by_cases h:cu o l 20=0
 ·right
  have:=Bq h
  cases hL:mN o l with
  | nil=>rw [hL] at this; exact .inl ⟨h,rfl,this⟩
  | cons x L=>rw [hL] at this; exact .inr ⟨x,L,h,rfl,this⟩
 ·left
  exact ⟨h,by unfold bj; rw [if_pos h]⟩
end Go.Proofs.YteahldlmkheleaaGreat
