/- Two calls of the library are as the evaluator takes them. Condition: the walk of Count. -/
import Derived.Test.YtobeanopikjkeaaGreatExV
import Derived.Test.YtobeanopikjkeaaGreatExY
import Derived.Test.YtobeanopikjkeaaGreatGWalksS
set_option linter.all false
namespace Go.Ex
open Go Go.Sv Go.Proofs Go.Proofs.YtobeanopikjkeaaGreat
section
variable {w0 w w':World} {M:Mp} {z:Z}
theorem Rel.ev (R:Rel w0 M z w) (h1:w'.os=w.os) (h2:w'.tape=w.tape) (h3:w'.output=w.output) (h4:w.heap.size≤w'.heap.size) (hk:∀ b,b < w.heap.size→w'.heap[b]?=w.heap[b]?):Rel w0 M z w' :=
 ⟨h1.trans R.os,h2.trans R.tape,h3.trans R.output,Nat.le_trans R.size h4,fun b hb=>(hk b (Nat.lt_of_lt_of_le hb R.size)).trans (R.old b hb),R.nx,R.fresh,R.inj,
  fun i x e h1 h2=>(R.hp i x e h1 h2).mono (Le.refl M) fun b hb=>hk b ((R.hp i x e h1 h2).lt hb)⟩
theorem Rel.got (R:Rel w0 M z w) (h1:w'.os=w.os) (h2:w'.tape=w.tape) (h3:w'.output=w.output) (h4:w.heap.size≤w'.heap.size) (hk:∀ b,b < w.heap.size→w'.heap[b]?=w.heap[b]?) {en:En} {b:Bk}
  (Eb:∀ x,en.blk=some x→w.heap.size≤x) (hB:BR (ki M z.n en) w' en b):Ext z M (new z b) (ki M z.n en)∧Rel w0 (ki M z.n en) (new z b) w':=by
 have hn:M z.n=none:=R.nx z.n (Nat.le_refl _)
 have R':=R.ev h1 h2 h3 h4 hk
 have eS:∀ i x e b,get z.h i=some x→M i=some e→e.blk=some b→b < w.heap.size:=fun i x e b h1 h2 h3=>(R.hp i x e h1 h2).lt h3
 refine ⟨⟨gK hn,fun i hi=>dB _ _ (by omega),Nat.le_succ _⟩,R'.os,R'.tape,R'.output,R'.size,R'.old,?_,?_,?_,?_⟩
 ·intro i hi
  have hi:z.n+1≤i:=hi
  rw [dB _ _ (by omega)]
  exact R.nx i (by omega)
 ·intro i e b h1 h2
  by_cases xZ:i=z.n
  ·subst xZ
   rw [eJ] at h1
   cases h1
   exact Nat.le_trans R.size (Eb b h2)
  ·rw [dB _ _ xZ] at h1
   exact R.fresh i e b h1 h2
 ·intro i j x y e e' b hi hj h1 h2 h3 h4
  rcases mo hi with ⟨rfl,_⟩ | ⟨wC,hi⟩ <;> rcases mo hj with ⟨rfl,_⟩ | ⟨P7,hj⟩
  ·rfl
  ·rw [eJ] at h1
   rw [dB _ _ P7] at h2
   cases h1
   have:=eS j y e' b hj h2 h4
   have:=Eb b h3
   omega
  ·rw [eJ] at h2
   rw [dB _ _ wC] at h1
   cases h2
   have:=eS i x e b hi h1 h3
   have:=Eb b h4
   omega
  ·rw [dB _ _ wC] at h1
   rw [dB _ _ P7] at h2
   exact R.inj i j x y e e' b hi hj h1 h2 h3 h4
 ·intro i x e hi h1
  rcases mo hi with ⟨rfl,hx⟩ | ⟨wC,hi⟩
  ·rw [eJ] at h1
   cases h1
   rw [← hx]
   exact hB
  ·rw [dB _ _ wC] at h1
   exact (R'.hp i x e hi h1).mono (gK hn) fun _ _=>rfl
theorem EZ {x y:Value × V1 × Nat} (h:E1 x y=true):x=y:=by
 obtain ⟨a,b,c⟩:=x
 obtain ⟨a',b',c'⟩:=y
 simp only [E1,Bool.and_eq_true] at h
 rw [sK h.1,j9 h.2.1,beq_iff.1 h.2.2]
theorem IL {q:List V1} {av:AV} {z':Z} (h:Sn z q=some (some (av,z'))) :
  ∃ i j k,q=[.s (.c i)]∧get z.h i=some (.f 378 [] [.s (.p j 0)])∧get z.h j=some (.c [.m k])∧get z.h k=some (.m K0 6)∧av=.o (.s (.sl z.n 0 1 6))∧z'=new z (.c KB):=by
 unfold Sn at h
 split at h
 ·rename_i i
  unfold hkS1 at h
  split at h
  ·rename_i f j o hi
   obtain ⟨hb,h2⟩:=fw h
   rw [Bool.and_eq_true] at hb
   have e1:=beq_iff.1 hb.1
   have e2:=beq_iff.1 hb.2
   clear h hb
   subst e1 e2
   unfold P4 at h2
   split at h2
   ·rename_i k hj
    unfold hkS3 at h2
    split at h2
    ·rename_i es c hk
     obtain ⟨hc,h3⟩:=fw h2
     rw [Bool.and_eq_true] at hc
     have e3:=kj EZ hc.1
     have e4:=beq_iff.1 hc.2
     clear h2 hc
     subst e3 e4
     cases h3
     exact ⟨i,j,k,rfl,hi,hj,hk,rfl,rfl⟩
    ·cases h2
   ·cases h2
  ·cases h
 ·cases h
def Rt:Value→Option (DataW Unit × List MemPlace):=fun _=>some (.lit (.bool true),[])
def L6:List (Lit × DataW Unit):=[(.int .i64 0,.lit (.bool true)),(.int .i64 4,.lit (.bool true)),(.int .i64 8,.lit (.bool true)),(.int .i64 12,.lit (.bool true)),(.int .i64 16,.lit (.bool true)),(.int .i64 20,.lit (.bool true))]
def D6:DataW Unit:=.map (L6.foldr DataW.insert [])
theorem uD {e:MapEntry} {a:Int} (h:e.key=.int .i64 a) (hw:(Lit.int .i64 a).wf=true):WideElems.rd Tryz.prog 3 Rt e=some (.int .i64 a,.lit (.bool true)):=by
 unfold WideElems.rd
 rw [h,Maps.keyOf_int_mk Tryz.underlying3 hw]
 rfl
theorem FL.c {α β:Type} {R:α→β→Prop} {a:α} {l:List α} {q:List β} (h:FL R (a :: l) q):∃ b q',q=b :: q'∧R a b∧FL R l q':=by
 cases q with
 | nil=>exact h.elim
 | cons b q'=>exact ⟨b,q',rfl,h.1,h.2⟩
theorem FL.n {α β:Type} {R:α→β→Prop} {q:List β} (h:FL R [] q):q=[]:=by
 cases q with
 | nil=>rfl
 | cons b q'=>exact h.elim
theorem O7 {bm:Nat} {arr:Array MapEntry} (hb:w.heap[bm]?=some (.map arr 6)) (h:FL (EN M) K0 arr.toList):w.ownsMap Tryz.prog 3 Rt bm 6 D6:=by
 obtain ⟨e0,q,hq,⟨k0,_,b0⟩,h⟩:=FL.c h
 obtain ⟨e1,q,rfl,⟨k1,_,b1⟩,h⟩:=FL.c h
 obtain ⟨e2,q,rfl,⟨k2,_,b2⟩,h⟩:=FL.c h
 obtain ⟨e3,q,rfl,⟨k3,_,b3⟩,h⟩:=FL.c h
 obtain ⟨e4,q,rfl,⟨k4,_,b4⟩,h⟩:=FL.c h
 obtain ⟨e5,q,rfl,⟨k5,_,b5⟩,h⟩:=FL.c h
 obtain rfl:=FL.n h
 have gB:arr.size=6:=by rw [← Array.length_toList,hq]; rfl
 have r0:=uD k0 (by decide)
 have r1:=uD k1 (by decide)
 have r2:=uD k2 (by decide)
 have r3:=uD k3 (by decide)
 have r4:=uD k4 (by decide)
 have r5:=uD k5 (by decide)
 refine ⟨arr,6,hb,⟨by rw [gB]; decide,⟨?_,?_,?_⟩,?_⟩,by omega,?_⟩
 ·rw [hq]
  intro x hx
  simp only [List.mem_cons,List.not_mem_nil,or_false] at hx
  rcases hx with rfl | rfl | rfl | rfl | rfl | rfl
  ·rw [b0]; decide
  ·rw [b1]; decide
  ·rw [b2]; decide
  ·rw [b3]; decide
  ·rw [b4]; decide
  ·rw [b5]; decide
 ·rw [hq]
  simp only [List.map_cons,List.map_nil,b0,b1,b2,b3,b4,b5]
  decide
 ·rw [hq]
  simp only [List.map_cons,List.map_nil,k0,k1,k2,k3,k4,k5]
  simp
 ·rw [hq]
  intro x hx
  simp only [List.mem_cons,List.not_mem_nil,or_false] at hx
  rcases hx with rfl | rfl | rfl | rfl | rfl | rfl
  ·exact ⟨_,r0⟩
  ·exact ⟨_,r1⟩
  ·exact ⟨_,r2⟩
  ·exact ⟨_,r3⟩
  ·exact ⟨_,r4⟩
  ·exact ⟨_,r5⟩
 ·rw [hq]
  simp only [List.map_cons,List.map_nil,WideElems.rg,r0,r1,r2,r3,r4,r5]
  rfl
theorem Pk:intKeys D6=[0,4,8,12,16,20]:=by kernel_rfl
theorem H2:([0,4,8,12,16,20]:List Int).mergeSort (fun x y=>decide (x≤y))=[0,4,8,12,16,20] :=
 List.mergeSort_of_pairwise (by simp)
theorem Jh {b s k:Nat} {l:List Value} {arr:Array Value} {t:TypeId} (h:w.heap[b]?=some (.cells arr t (0,0))) (hk:l=(arr.toList.drop s).take 1) {v:Value} (hl:l=[v]):w.cell? ⟨b,s,none⟩=some v:=by
 have:arr.toList[s]?=some v:=by
  have h1:((arr.toList.drop s).take 1)[0]?=some v:=by rw [← hk,hl]; rfl
  rw [List.getElem?_take] at h1
  simpa using h1
 unfold World.cell?
 rw [h]
 simpa using this
theorem MR {q:List V1} {av:AV} {z':Z} (h:Sn z q=some (some (av,z'))) {vals:List Value} (hv:VVs M q vals) (R:Rel w0 M z w) :
  Calls Tryz.prog 136 vals.toArray w (fun e w'=>∃ v M',e=.returned v∧Ext z M z' M'∧VA M' av v∧Rel w0 M' z' w'):=by
 obtain ⟨i,j,k,rfl,hi,hj,hk,rfl,rfl⟩:=IL h
 obtain ⟨v,q,rfl,hv1,hq⟩:=FL.c hv
 obtain rfl:=FL.n hq
 obtain ⟨hMi,_⟩:M i=some (.f v)∧∃ p q r,v=.func p q r:=hv1
 obtain ⟨vp,vq,rfl,h1,h2⟩:=R.hp i _ _ hi hMi
 obtain rfl:=FL.n h1
 obtain ⟨u,q,rfl,⟨b,s,N,hMj,rfl⟩,hq⟩:=FL.c h2
 obtain rfl:=FL.n hq
 obtain ⟨arr,t,c1,c2,c3,c4⟩:=R.hp j _ _ hj hMj
 obtain ⟨u,q,hu,⟨bm,hMk,rfl⟩,hq⟩:=FL.c c4
 obtain rfl:=FL.n hq
 obtain ⟨ma,m1,m2⟩:=R.hp k _ _ hk hMk
 have jc:w.cell? ⟨b,s+0,none⟩=some (.map (some bm)):=Jh (k:=k) c1 rfl hu
 have wz:=O7 m1 m2
 have eS:b < w.heap.size:=(Array.getElem?_eq_some_iff.1 c1).1
 refine Calls.mono (Tryz.zg b (s+0) bm 6 D6 w eS jc wz (by decide) (by decide)) ?_
 rintro e w' ⟨v,ss,rfl,hp,jH,PS,hB⟩
 rw [Pk] at hp
 have hs:ss.mergeSort (fun x y=>decide (x≤y))=[0,4,8,12,16,20]:=(mergeSort_of_perm_i hp).trans H2
 have hlen:ss.length=6:=hp.length_eq
 rw [hs,hlen] at jH
 obtain ⟨_,⟨_,h0⟩ | ⟨g,cap,cur,rfl,hg,hc,hle,_,gB,Kh⟩⟩:=jH
 ·cases h0
 ·have Kh:(cur.toList.drop 0).take 6=[.int .i64 0,.int .i64 4,.int .i64 8,.int .i64 12,.int .i64 16,.int .i64 20]:=Kh
  obtain ⟨x1,x2⟩:=R.got hB.os hB.tape hB.output hB.size hB.block (en:=.b g 0 cap) (b:=.c KB) (fun x hx=>by cases hx; exact hg)
   ⟨cur,3,hc,by omega,hle,by
    show VL _ KB ((cur.toList.drop 0).take 6)
    rw [Kh]
    exact ⟨rfl,rfl,rfl,rfl,rfl,rfl,trivial⟩⟩
  exact ⟨_,_,rfl,x1,⟨g,0,cap,cap,_,eJ _ _ _,rfl,hle,.inl ⟨rfl,by omega⟩⟩,x2⟩
theorem take_one {α:Type} {l:List α} {k:Nat} {u:α} (h:l[k]?=some u):(l.drop k).take 1=[u]:=by
 obtain ⟨eS,rfl⟩:=List.getElem?_eq_some_iff.1 h
 rw [List.drop_eq_getElem_cons eS]
 rfl
theorem Lg {α:Type} {T:ct α} (hT:T.n=1) (hp:Hp M z.h w) {i n:Nat} {l:List S} (hl:get z.h i=some (.c l)) {v:Value} (hv:VS M (.sl i 0 1 n) v) {xs:List α} (hn:n=xs.length) (h0:xs≠[]) (hb:xs.length * T.bytes≤140737488355328)
  (hx:FL (fun x y=>∀ u,VS M y u→T.R w (fun _=>0) [u] x) xs l):∃ a c,v=.slice a xs.length c∧RS T w (fun _=>0) a xs c:=by
 subst hn
 obtain ⟨b,s,N,cap,a,hM,rfl,hle,ha⟩:=hv
 obtain ⟨arr,t,h1,h2,h3,h4⟩:=hp i _ _ hl hM
 have ud:1≤xs.length:=by cases xs with
  | nil=>exact absurd rfl h0
  | cons _ _=>simp
 rcases ha with ⟨rfl,_⟩ | ha
 ·refine ⟨_,_,rfl,hle,hb,fun h=>(by cases h),fun _=>⟨b,s,arr,t,(0,0),rfl,rfl,h1,fun j x hj=>?_⟩⟩
  obtain ⟨y,hy,hR⟩:=hx.get j x hj
  obtain ⟨u,hu,Zb⟩:=h4.get j y hy
  have hu:arr.toList[s+j]?=some u:=by
   rw [List.getElem?_take] at hu
   split at hu
   ·simpa using hu
   ·cases hu
  have:chunk arr s T.n j=[u]:=by
   unfold chunk
   rw [hT,Nat.mul_one]
   exact take_one hu
  rw [this]
  exact hR u Zb
 ·omega
theorem uw {i n:Nat} {xs:List Int} (hp:Hp M z.h w) (hl:get z.h i=some (.c (xs.map fun x=>.v (.int .i64 x)))) (hn:n=xs.length) (h0:xs≠[]) (hb:xs.length * 8≤140737488355328):∀ u,VS M (.sl i 0 1 n) u→(aA tI).R w (fun _=>0) [u] xs:=fun u hu=>by
 obtain ⟨a,c,rfl,h⟩:=Lg (T:=tI) rfl hp hl hu hn h0 hb (by
  have:∀ xs:List Int,FL (fun (x:Int) (y:S)=>∀ u,VS M y u→(tI).R w (fun _=>0) [u] x) xs (xs.map fun x=>.v (.int .i64 x)):=fun xs=>by
   induction xs with
   | nil=>trivial
   | cons x l ih=>exact ⟨fun u hu=>congrArg (fun v=>[v]) hu,ih⟩
  exact this xs)
 exact ⟨a,c,rfl,h⟩
def F4:aL:=⟨4,[[1],[3],[3],[4],[2],[-1,-2,-3]]⟩
theorem ND:ff F4=(0,0):=by kernel_rfl
theorem IM {q:List V1} {av:AV} {z':Z} (h:P5 z q=some (some (av,z'))) :
  q=[.g [.v (.int .i64 4),.sl 1199 0 1 6]]∧(∀ x∈hN,get z.h x.1=some x.2)∧av=.t [.s (.v (.int .i64 0)),.s (.v (.int .i64 0))]∧z'=z:=by
 unfold P5 at h
 split at h
 ·obtain ⟨hb,h⟩:=fw h
  rw [Bool.and_eq_true] at hb
  cases h
  exact ⟨by rw [j9 hb.1],nv qo hb.2,rfl,rfl⟩
 ·cases h
theorem MT (k7:S7) {q:List V1} {av:AV} {z':Z} (h:P5 z q=some (some (av,z'))) {vals:List Value} (hv:VVs M q vals) (R:Rel w0 M z w) :
  Calls Tryz.prog 7 vals.toArray w (fun e w'=>∃ v M',e=.returned v∧Ext z M z' M'∧VA M' av v∧Rel w0 M' z' w'):=by
 obtain ⟨rfl,hN,rfl,rfl⟩:=IM h
 obtain ⟨v,q,rfl,⟨vs,rfl,hv1⟩,hq⟩:=FL.c hv
 obtain rfl:=FL.n hq
 obtain ⟨u,q,rfl,hu,hv2⟩:=FL.c hv1
 have hu:u=.int .i64 4:=hu
 subst hu
 obtain ⟨u,q,rfl,hu,hv3⟩:=FL.c hv2
 obtain rfl:=FL.n hv3
 obtain ⟨a,c,rfl,M8⟩:=Lg (T:=aA tI) (xs:=F4.ai) rfl R.hp (hN (1199,_) (List.mem_cons_self ..)) hu rfl (by simp [F4]) (by decide)
  ⟨uw (xs:=[1]) R.hp (hN (1177,_) (.tail _ (.head _))) rfl (by simp) (by decide),
   uw (xs:=[3]) R.hp (hN (1181,_) (.tail _ (.tail _ (.head _)))) rfl (by simp) (by decide),
   uw (xs:=[3]) R.hp (hN (1185,_) (.tail _ (.tail _ (.tail _ (.head _))))) rfl (by simp) (by decide),
   uw (xs:=[4]) R.hp (hN (1189,_) (.tail _ (.tail _ (.tail _ (.tail _ (.head _)))))) rfl (by simp) (by decide),
   uw (xs:=[2]) R.hp (hN (1193,_) (.tail _ (.tail _ (.tail _ (.tail _ (.tail _ (.head _))))))) rfl (by simp) (by decide),
   uw (xs:=[-1,-2,-3]) R.hp (hN (1197,_) (.tail _ (.tail _ (.tail _ (.tail _ (.tail _ (.tail _ (.head _)))))))) rfl (by simp) (by decide),trivial⟩
 refine Calls.mono (k7 w (fun _=>0) F4 a c M8) ?_
 rintro e w' ⟨v,χ',rfl,hE,rfl⟩
 rw [ND]
 exact ⟨_,M,rfl,Ext.refl _ _,⟨[.int .i64 0,.int .i64 0],rfl,rfl,rfl,trivial⟩,R.ev hE.os hE.tape hE.output hE.size fun b hb=>(hE.bW b hb rfl).1⟩
end
theorem hb136:aD Tryz.prog 136=true:=by kernel_rfl
theorem UI:aD Tryz.prog 7=true:=by kernel_rfl
theorem H0 (k7:S7):Ho Tryz.prog Gf:=fun f q z av z' h=>by
 unfold Gf at h
 cases h1:Nat.beq f 136 with
 | true =>
  rw [h1] at h
  have:=beq_iff.1 h1
  subst this
  exact ⟨hb136,fun w0 M w vals hv R=>MR h hv R⟩
 | false =>
  rw [h1] at h
  have h:(bif Nat.beq f 7 then P5 z q else none)=some (some (av,z')):=h
  obtain ⟨h2,h⟩:=fw h
  have:=beq_iff.1 h2
  subst this
  exact ⟨UI,fun w0 M w vals hv R=>MT k7 h hv R⟩
end Go.Ex
