/- Walks of the functions: each returns what its condition asks. -/
import Derived.Test.YteahldlmkheleaaGreatLWalksS
set_option linter.all false
namespace Go.Proofs.YteahldlmkheleaaGreat
open Go Go.Sv
set_option maxHeartbeats 1000000
theorem W40 (GJ:S68) (w0) (X0) (objects:List aj) (ops:List ab) (of:List Int) (order:List Int) (a1) (c1) (a2) (c2) (a3) (c3) (a4) (c4) (Q:(List aa) × Bool->Prop) (hm:VC40 objects ops of order Q) (h1:RS aB w0 X0 a1 objects c1) (h2:RS ar w0 X0 a2 ops c2) (h3:RS tI w0 X0 a3 of c3) (h4:RS tI w0 X0 a4 order c4) :
  Ret Tryz.prog 40 #[.slice a1 objects.length c1,.slice a2 ops.length c2,.slice a3 of.length c3,.slice a4 order.length c4] aL w0 X0 (fun w X' v=>∃ r,Q r/\∃ cz cy,v=.tuple #[.slice cz r.1.length cy,.bool r.2]/\RS av w X' cz r.1 cy):=by
 unfold VC40 at hm
 replace hm:=hm (h1.sm kr)
 replace hm:=hm (h2.sm kr)
 replace hm:=hm (h3.sm kr)
 replace hm:=hm (h4.sm kr)
 refine enter Tryz.func40 rfl (vals:=[.slice a1 objects.length c1,.slice a2 ops.length c2,.slice a3 of.length c3,.slice a4 order.length c4]) kr ?_
 intro Z a hS hO hM
 replace h1:=h1.m0 hM
 replace h2:=h2.m0 hM
 replace h3:=h3.m0 hM
 replace h4:=h4.m0 hM
 refine rPe T hS [] [] fun a hS=>?_
 refine rPe T hS [] [(10,V (.slice none 0 0))] fun a hS=>?_
 refine cb (fun a w=>∃ (Z:Nat->Nat) (X:Nat->Nat) (fY:List Int) (jn:Option Addr) (jl:Nat),VC40_J1 objects ops of order Q fY/\St Tryz.f40.ntmps ⟨[(0,Sl a1 objects c1),(1,Sl a2 ops c2),(2,Sl a3 of c3),(3,Sl a4 order c4),(10,Sl jn fY jl)],[]⟩ Z a w X/\Old w0 X0 w X/\RS aB w X a1 objects c1/\RS ar w X a2 ops c2/\RS tI w X a3 of c3/\RS tI w X a4 order c4/\OS tI 3 w X 1011 jn fY jl) ?_ ?_
 ·refine rPe T hS [] [(11,I 0)] fun a hS=>?_
  refine aN ?_
  obtain ⟨I2,μ2,cx,hm⟩:=hm
  refine ct (σ:=(List Int) × Int) (fun s a w=>∃ Z X Db CT,I2 s.1 s.2/\St Tryz.f40.ntmps ⟨[(0,Sl a1 objects c1),(1,Sl a2 ops c2),(2,Sl a3 of c3),(3,Sl a4 order c4),(10,Sl Db s.1 CT),(11,I s.2)],[]⟩ Z a w X/\Old w0 X0 w X/\RS aB w X a1 objects c1/\RS ar w X a2 ops c2/\RS tI w X a3 of c3/\RS tI w X a4 order c4/\OS tI 3 w X 1011 Db s.1 CT) (fun s=>μ2 s.1 s.2) (⟨[],0⟩) ?_ ?_
  ·exact ⟨Z,_,none,0,cx,hS.sl _,hO,h1,h2,h3,h4,(OS.nil _ _ _ _ _)⟩
  rintro ⟨pS,qk⟩ a H8 ⟨Z,J6,Db,CT,hI,hS,hO,h181,h182,h183,h184,h188⟩
  replace hm:=hm pS qk hI
  clear hI cx
  refine bg ?_
  refine rPe T hS [] [(21,B (decide (qk < (lN objects))))] fun a hS=>?_
  refine aJ hS (b:=decide (qk < (lN objects))) kr (fun hb=>?_) fun hb=>?_
  ·replace hm:=hm.1 hb
   refine aM (bg ?_)
   refine aN ?_
   refine region ?_
   refine oPe T hS 3 [21] [(24,Sl Db pS CT),(25,Sl a1 objects c1),(26,I qk)] fun a hS=>?_
   obtain ⟨hq,hm⟩:=hm
   refine op1 (index (e:=48) (k:=.i64) T hS kr kr kr kr h181 kr kr hq.1 hq.2 ?_)
   intro Ko a h191 hS
   refine op1 (fw (off:=2) (fsz:=1) (ft:=3) (TF:=tI) (y:=(gi objects qk).aH) T hS kr kr kr h191 kr kr kr (fun cs h=>ns h) ?_)
   intro Sj a h193 hS
   refine op1 (dW T hS kr kr kr h193 rfl kr ?_)
   intro v194 a hv hS
   cases hv
   refine op1 (lit (E:=3) (col:=0) (T:=tI) (vals:=[.int .i64 ((gi objects qk).aH)]) (ys:=[(gi objects qk).aH]) T hS kr kr kr kr (by exact ⟨rfl,trivial⟩) rfl kr kr kr kr ?_)
   intro b195 a Ic NM hE h198 hN hS
   clear hN
   replace hO:=hO.m2 hE
   replace h181:=h181.m1 hE
   replace h182:=h182.m1 hE
   replace h183:=h183.m1 hE
   replace h184:=h184.m1 hE
   replace h188:=h188.m2 hE
   replace h191:=h191.m1 hE
   replace h193:=h193.m1 hE
   replace h198:=h198.rs0
   obtain ⟨hq,hm⟩:=hm
   obtain ⟨news,hN⟩:=h198.src
   refine op1 (append (E:=3) (T:=tI) (col:=1011) (xs:=pS) T hS kr kr kr kr h188 hN kr kr kr kr hq ?_)
   intro JZ JK a PC NL hE h201 hS
   clear hq hN
   clear h188
   replace hO:=hO.m2 hE
   replace h181:=h181.m1 hE
   replace h182:=h182.m1 hE
   replace h183:=h183.m1 hE
   replace h184:=h184.m1 hE
   replace h191:=h191.m1 hE
   replace h193:=h193.m1 hE
   replace h198:=h198.m1 hE
   refine ePe T hS [25,26,27,28,29,30,31] [(10,Sl JZ (pS++[(gi objects qk).aH]) JK)] fun a hS=>?_
   refine region (ePe T hS [] [(11,I (wR (qk+1)))] fun a hS=>?_)
   exact ⟨⟨pS++[(gi objects qk).aH],wR (qk+1)⟩,⟨Z,_,JZ,JK,hm.1,hS.sl _,hO,h181,h182,h183,h184,h201⟩,hm.2⟩
  replace hm:=hm.2 hb
  refine cm (by rfl) ?_
  exact ⟨Z,_,pS,Db,CT,hm,hS.sl _,hO,h181,h182,h183,h184,h188⟩
 rintro a H7 ⟨Z,Hx,fY,jn,jl,hm,hS,hO,h101,h102,h103,h104,h108⟩
 unfold VC40_J1 at hm
 refine rPe T hS [] [(12,V (.slice none 0 0))] fun a hS=>?_
 refine cb (fun a w=>∃ (Z:Nat->Nat) (X:Nat->Nat) (cr:List aa) (fg:Option Addr) (ff:Nat),VC40_J2 Q cr/\St Tryz.f40.ntmps ⟨[(12,Sl fg cr ff)],[]⟩ Z a w X/\Old w0 X0 w X/\OS av 56 w X 1009 fg cr ff) ?_ ?_
 ·refine rPe T hS [] [(13,I 0)] fun a hS=>?_
  refine aN ?_
  obtain ⟨I1,μ1,cx,hm⟩:=hm
  refine ct (σ:=(List Int) × (List aa) × Int) (fun s a w=>∃ Z X ib hZ ia hY,I1 s.1 s.2.1 s.2.2/\St Tryz.f40.ntmps ⟨[(0,Sl a1 objects c1),(1,Sl a2 ops c2),(2,Sl a3 of c3),(3,Sl a4 order c4),(10,Sl ib s.1 hZ),(12,Sl ia s.2.1 hY),(13,I s.2.2)],[]⟩ Z a w X/\Old w0 X0 w X/\RS aB w X a1 objects c1/\RS ar w X a2 ops c2/\RS tI w X a3 of c3/\RS tI w X a4 order c4/\OS tI 3 w X 1011 ib s.1 hZ/\OS av 56 w X 1009 ia s.2.1 hY) (fun s=>μ1 s.1 s.2.1 s.2.2) (⟨fY,[],0⟩) ?_ ?_
  ·exact ⟨Z,_,jn,jl,none,0,cx,hS.sl _,hO,h101,h102,h103,h104,h108,(OS.nil _ _ _ _ _)⟩
  rintro ⟨bp,eL,c9⟩ a Bk ⟨Z,RY,ib,hZ,ia,hY,hI,hS,hO,h115,h116,h117,h118,h122,h126⟩
  replace hm:=hm bp eL c9 hI
  clear hI cx
  refine bg ?_
  refine rPe T hS [] [(35,B (decide (c9 < (lN order))))] fun a hS=>?_
  refine aJ hS (b:=decide (c9 < (lN order))) kr (fun hb=>?_) fun hb=>?_
  ·replace hm:=hm.1 hb
   refine aM (bg ?_)
   refine aN ?_
   refine bq ?_
   refine oPe T hS 3 [35] [(38,Sl a3 of c3),(39,Sl a4 order c4),(40,I c9)] fun a hS=>?_
   obtain ⟨hq,hm⟩:=hm
   refine op1 (index (e:=3) (k:=.i64) T hS kr kr kr kr h118 kr kr hq.1 hq.2 ?_)
   intro Kt a h129 hS
   refine op1 (dW T hS kr kr kr h129 rfl kr ?_)
   intro v130 a hv hS
   cases hv
   obtain ⟨hq,hm⟩:=hm
   refine op1 (index (e:=3) (k:=.i64) T hS kr kr kr kr h117 kr kr hq.1 hq.2 ?_)
   intro HL a h132 hS
   refine op1 (dW T hS kr kr kr h132 rfl kr ?_)
   intro v133 a hv hS
   cases hv
   refine ePe T hS [38,39,40,41,42,43,44] [(14,I (gi of (gi order c9)))] fun a hS=>?_
   refine dG [] mixed hS ?_
   intro uH uz hS hE hD hH
   replace hO:=hO.m2 hE
   replace h115:=h115.m1 hE
   replace h116:=h116.m1 hE
   replace h117:=h117.m1 hE
   replace h118:=h118.m1 hE
   replace h122:=h122.m2 hE
   replace h126:=h126.m2 hE
   refine tke T [0,1,4,5,8,9,10] [] hS hH #[true,true,false,false,true,true,false,false,true,true,true,false,false,false,false,false,false,false,false,false,false,false,false,false] 17 [] [(46,Sl a1 objects c1),(47,I (gi of (gi order c9))),(50,Sl ib bp hZ),(51,I (gi of (gi order c9))),(54,Sl a2 ops c2),(55,Sl a4 order c4),(56,I c9)] fun a hS=>?_
   obtain ⟨hq,hm⟩:=hm
   refine dm (e:=48) (k:=.i64) T 2 hS kr kr kr (by rfl) kr hH kr kr h115 kr kr hq.1 hq.2 ?_
   intro E6 a h137 hS
   have sW:=h137.here
   refine ku T 3 hS kr kr kr (by rfl) kr hH kr h137 sW kr kr ?_
   intro v138 a hv hS
   obtain ⟨xV,xU,hv,h141⟩:=hv
   subst hv
   replace hm:=hm (h141.sm kr)
   obtain ⟨hq,hm⟩:=hm
   refine dm (e:=3) (k:=.i64) T 11 hS kr kr kr (by rfl) kr hH kr kr h118 kr kr hq.1 hq.2 ?_
   intro Kr a h143 hS
   have zj:=h143.here
   refine eu T 12 hS kr kr kr (by rfl) kr hH kr h143 zj rfl kr ?_
   intro v144 a hv hS
   cases hv
   obtain ⟨hq,hm⟩:=hm
   refine dm (e:=102) (k:=.i64) T 13 hS kr kr kr (by rfl) kr hH kr kr h116 kr kr hq.1 hq.2 ?_
   intro A3 a h146 hS
   have Jk:=h146.here
   refine dE (off:=1) (fsz:=1) (ft:=3) (TF:=tI) (y:=(gi ops (gi order c9)).Kind) 14 T hS kr kr kr (by rfl) kr hH kr h146 kr kr kr (fun cs h=>kX h) ?_
   intro N5 a h148 fR hS
   have zi:=Jk
   rw [← fR] at zi
   clear fR
   refine eu T 15 hS kr kr kr (by rfl) kr hH kr h148 zi rfl kr ?_
   intro v149 a hv hS
   cases hv
   obtain ⟨Fq,hm⟩:=hm
   refine only 6 kr (by rfl) (lQ (E:=3) (k:=.i64) T hS kr kr kr kr h122 kr kr Fq.1 Fq.2 ?_)
   intro SH a h152 h151 hS
   refine di (bP.of hS (bks:=[]) kr hD) ?_
   intro hH
   refine only 7 kr (by rfl) (GD T hS kr kr kr h151 rfl kr ?_)
   intro v154 a hv hS
   cases hv
   refine di (bP.of hS (bks:=[]) kr hD) ?_
   intro hH
   refine only 16 kr (by rfl) (call hS kr kr hb68 kr (fun _ _=>rfl) (GJ _ _ (gi objects (gi of (gi order c9))) (gi bp (gi of (gi order c9))) ((gi ops (gi order c9)).Kind) xV xU h141) ?_)
   intro v155 a Im E0 hE hp hS
   replace hO:=hO.m2 hE
   replace hD:=hD.ev hE rfl
   replace h115:=h115.m1 hE
   replace h116:=h116.m1 hE
   replace h117:=h117.m1 hE
   replace h118:=h118.m1 hE
   replace h122:=h122.m2 hE
   replace h126:=h126.m2 hE
   replace h137:=h137.m1 hE
   replace h141:=h141.m1 hE
   replace h143:=h143.m1 hE
   replace h146:=h146.m1 hE
   replace h148:=h148.m1 hE
   clear h151 h152
   obtain ⟨jt,hr⟩:∃ r,bA (gi objects (gi of (gi order c9))) (gi bp (gi of (gi order c9))) ((gi ops (gi order c9)).Kind)=r:=⟨_,rfl⟩
   replace hm:=hm jt hr
   rw [hr] at hp
   clear hr
   subst hp
   refine di (bP.of hS (bks:=[]) kr hD) ?_
   intro hH
   refine tke T [17,18,19,20,21,22,23] [] hS hH (tts 24) 0 [46,47,50,51,54,55,56,48,49,57,58,59,60,61,53,62] [(15,I jt.1),(16,I jt.2.1),(17,B jt.2.2)] fun a hS=>?_
   refine aX kr ?_
   replace hS:=hS.sle [] []
   refine bg ?_
   refine rPe T hS [17] [(67,B (!jt.2.2))] fun a hS=>?_
   refine aJ hS (b:=(!jt.2.2)) kr (fun hb=>?_) fun hb=>?_
   ·replace hm:=hm.1 hb
    refine rPe T hS [0,1,2,3,10,12,13,14,15,16,67] [(8,V (.slice none 0 0)),(9,B false)] fun a hS=>?_
    refine aY ?_
    exact fin T hS hO (fun c=>c) rfl (r:=[.slice none 0 0,.bool false]) kr (fun X' hM hC=>⟨([],false),hm,none,0,rfl,RS.empty _ _ _⟩)
   replace hm:=hm.2 hb
   refine aM ?_
   refine bq ?_
   refine oPe T hS 3 [14,15,67] [(68,Sl ib bp hZ),(69,I (gi of (gi order c9))),(70,I jt.1)] fun a hS=>?_
   obtain ⟨vt,hm⟩:=hm
   refine op1 (lQ (E:=3) (k:=.i64) T hS kr kr kr kr h122 kr kr vt.1 vt.2 ?_)
   intro SF a h161 h160 hS
   refine op1 (wX (x:=jt.1) (v:=I jt.1) (i:=(gi of (gi order c9)).toNat) (E:=3) (xs:=bp) T hS kr kr kr kr h122 h161 (by have:=vt.1; have:=vt.2; omega) kr (fun _ _ _=>rfl) ?_)
   intro a Ik hE h164 hS
   clear h122 h161 h160 vt
   replace hO:=hO.m2 hE
   replace h115:=h115.m1 hE
   replace h116:=h116.m1 hE
   replace h117:=h117.m1 hE
   replace h118:=h118.m1 hE
   replace h126:=h126.m2 hE
   replace hS:=hS.conv (t:=10) (y:=.slice ib (bp.set (gi of (gi order c9)).toNat jt.1).length hZ) kr (by rw [List.length_set])
   replace hS:=hS.conv (t:=68) (y:=.slice ib (bp.set (gi of (gi order c9)).toNat jt.1).length hZ) kr (by rw [List.length_set])
   refine gY ?_
   refine region ?_
   refine oPe T hS 3 [] [(72,Sl ia eL hY),(73,Sl a4 order c4),(74,I c9)] fun a hS=>?_
   obtain ⟨hq,hm⟩:=hm
   refine op1 (index (e:=3) (k:=.i64) T hS kr kr kr kr h118 kr kr hq.1 hq.2 ?_)
   intro SB a h166 hS
   refine op1 (dW T hS kr kr kr h166 rfl kr ?_)
   intro v167 a hv hS
   cases hv
   refine oPe T hS 2 [16,73,74,75,76] [(78,V (.agg #[.int .i64 (gi order c9),.int .i64 jt.2.1]))] fun a hS=>?_
   refine op1 (lit (E:=56) (col:=0) (T:=av) (vals:=[.agg #[.int .i64 (gi order c9),.int .i64 jt.2.1]]) (ys:=[(⟨gi order c9,jt.2.1⟩:aa)]) T hS kr kr kr kr (by exact ⟨rfl,trivial⟩) rfl kr kr kr kr ?_)
   intro b168 a Ii NT hE h171 hN hS
   clear hN
   replace hO:=hO.m2 hE
   replace h115:=h115.m1 hE
   replace h116:=h116.m1 hE
   replace h117:=h117.m1 hE
   replace h118:=h118.m1 hE
   replace h126:=h126.m2 hE
   replace h164:=h164.m2 hE
   replace h171:=h171.rs0
   obtain ⟨hq,hm⟩:=hm
   obtain ⟨news,hN⟩:=h171.src
   refine op1 (append (E:=56) (T:=av) (col:=1009) (xs:=eL) T hS kr kr kr kr h126 hN kr kr kr kr hq ?_)
   intro jx jw a Gb Hz hE h174 hS
   clear hq hN
   clear h126
   replace hO:=hO.m2 hE
   replace h115:=h115.m1 hE
   replace h116:=h116.m1 hE
   replace h117:=h117.m1 hE
   replace h118:=h118.m1 hE
   replace h164:=h164.m2 hE
   replace h171:=h171.m1 hE
   refine ePe T hS [78,79,80] [(12,Sl jx (eL++[(⟨gi order c9,jt.2.1⟩:aa)]) jw)] fun a hS=>?_
   refine region (ePe T hS [] [(13,I (wR (c9+1)))] fun a hS=>?_)
   exact ⟨⟨(bp.set (gi of (gi order c9)).toNat jt.1),eL++[(⟨gi order c9,jt.2.1⟩:aa)],wR (c9+1)⟩,⟨Z,_,ib,hZ,jx,jw,hm.1,hS.sl _,hO,h115,h116,h117,h118,h164,h174⟩,hm.2⟩
  replace hm:=hm.2 hb
  refine cm (by rfl) ?_
  exact ⟨Z,_,eL,ia,hY,hm,hS.sl _,hO,h126⟩
 rintro a Ga ⟨Z,Dh,cr,fg,ff,hm,hS,hO,h112⟩
 unfold VC40_J2 at hm
 refine rPe T hS [12] [(8,Sl fg cr ff),(9,B true)] fun a hS=>?_
 refine aY ?_
 obtain ⟨rN,hE,hF⟩:=h112.freeze (by decide)
 replace hS:=hS.ev hE (cA kr)
 replace hO:=hO.m2 hE
 have h114:=hF; clear hE hF
 exact fin T hS hO (fun c=>c) rfl (r:=[.slice fg cr.length ff,.bool true]) kr (fun X' hM hC=>⟨(cr,true),hm,fg,ff,rfl,h114.m0 hM⟩)
theorem C40 (GJ:S68) (v:∀ (objects:List aj) (ops:List ab) (of:List Int) (order:List Int),vi objects ops of order->VC40 objects ops of order (fun r=>r=dj objects ops of order)):S40:=by
 intro w X objects ops of order a1 c1 a2 c2 a3 c3 a4 c4   hp h1 h2 h3 h4
 refine (W40 GJ w X objects ops of order a1 c1 a2 c2 a3 c3 a4 c4   _ (v objects ops of order hp) h1 h2 h3 h4).mono ?_
 rintro _ _ _ _ ⟨r,rfl,h⟩
 exact h
theorem W14 (Ml:S13) (GU:S16) (Ma:S39) (L9:S40) (w0) (X0) (objects:List aj) (l_:List aG) (a1) (c1) (a2) (c2) (Q:Bool->Prop) (hm:VC14 objects l_ Q) (h1:RS aB w0 X0 a1 objects c1) (h2:RS bG w0 X0 a2 l_ c2) :
  Ret Tryz.prog 14 #[.slice a1 objects.length c1,.slice a2 l_.length c2] aL w0 X0 (fun w X' v=>∃ r,Q r/\v=.bool r):=by
 unfold VC14 at hm
 replace hm:=hm (h1.sm kr)
 replace hm:=hm (h2.sm kr)
 refine enter Tryz.func14 rfl (vals:=[.slice a1 objects.length c1,.slice a2 l_.length c2]) kr ?_
 intro Z a hS hO hM
 replace h1:=h1.m0 hM
 replace h2:=h2.m0 hM
 refine rPe T hS [] [] fun a hS=>?_
 refine bq ?_
 refine oPe T hS 2 [] [(12,Sl a1 objects c1),(13,Sl a2 l_ c2)] fun a hS=>?_
 obtain ⟨hq,hm⟩:=hm
 refine op1 (call hS kr kr hb16 kr (fun _ _=>rfl) (GU _ _ objects l_ a1 c1 a2 c2 hq h1 h2) ?_)
 intro v101 a fp fx hE hp hS
 replace hO:=hO.m2 hE
 replace h1:=h1.m1 hE
 replace h2:=h2.m1 hE
 obtain ⟨dS,dR,gQ,gP,hp,h107,h110⟩:=hp
 obtain ⟨ax,hr⟩:∃ r,bf objects l_=r:=⟨_,rfl⟩
 replace hm:=hm ax hr
 rw [hr] at hp h107 h110
 clear hr
 subst hp
 replace hm:=hm (h107.sm kr)
 replace hm:=hm (h110.sm kr)
 refine ePe T hS [12,13,14] [(5,Sl dS ax.1 dR),(6,Sl gQ ax.2 gP)] fun a hS=>?_
 refine bq ?_
 refine oPe T hS 2 [] [(18,I (lN ax.1))] fun a hS=>?_
 obtain ⟨hq,hm⟩:=hm
 refine op1 (call hS kr kr hb39 kr (fun _ _=>rfl) (Ma _ _ (lN ax.1) hq) ?_)
 intro v111 a zK rN hE hp hS
 replace hO:=hO.m2 hE
 replace h1:=h1.m1 hE
 replace h2:=h2.m1 hE
 replace h107:=h107.m1 hE
 replace h110:=h110.m1 hE
 obtain ⟨r9,r7,hp,h117⟩:=hp
 obtain ⟨da,hr⟩:∃ r,dh (lN ax.1)=r:=⟨_,rfl⟩
 replace hm:=hm da hr
 rw [hr] at hp h117
 clear hr
 subst hp
 replace hm:=hm (h117.sm kr)
 refine ePe T hS [18,19] [(7,Sl r9 da r7)] fun a hS=>?_
 refine cb (fun a w=>∃ Z X,VC14_J1 Q/\St Tryz.f14.ntmps ⟨[],[]⟩ Z a w X/\Old w0 X0 w X) ?_ ?_
 ·refine rPe T hS [] [(8,I 0)] fun a hS=>?_
  refine aN ?_
  obtain ⟨I1,μ1,cx,hm⟩:=hm
  refine ct (σ:=Int) (fun s a w=>∃ Z X,I1 s/\St Tryz.f14.ntmps ⟨[(0,Sl a1 objects c1),(1,Sl a2 l_ c2),(5,Sl dS ax.1 dR),(6,Sl gQ ax.2 gP),(7,Sl r9 da r7),(8,I s)],[]⟩ Z a w X/\Old w0 X0 w X/\RS aB w X a1 objects c1/\RS bG w X a2 l_ c2/\RS ar w X dS ax.1 dR/\RS tI w X gQ ax.2 gP/\RS (cd tI) w X r9 da r7) (fun s=>μ1 s) (0) ?_ ?_
  ·exact ⟨Z,_,cx,hS.sl _,hO,h1,h2,h107,h110,h117⟩
  rintro eL a Bn ⟨Z,xY,hI,hS,hO,h118,h119,h120,h121,h122⟩
  replace hm:=hm eL hI
  clear hI cx
  refine bg ?_
  refine rPe T hS [] [(23,B (decide (eL < (lN da))))] fun a hS=>?_
  refine aJ hS (b:=decide (eL < (lN da))) kr (fun hb=>?_) fun hb=>?_
  ·replace hm:=hm.1 hb
   refine aM (bg ?_)
   refine aN ?_
   refine bq ?_
   refine oPe T hS 5 [23] [(27,Sl a1 objects c1),(28,Sl dS ax.1 dR),(29,Sl gQ ax.2 gP),(30,Sl r9 da r7),(31,I eL)] fun a hS=>?_
   obtain ⟨hq,hm⟩:=hm
   refine op1 (index (e:=43) (k:=.i64) T hS kr kr kr kr h122 kr kr hq.1 hq.2 ?_)
   intro E7 a h125 hS
   refine op1 (dW T hS kr kr kr h125 rfl kr ?_)
   intro v126 a hv hS
   obtain ⟨Nu,Nl,hv,h129⟩:=hv
   cases hv
   replace hm:=hm (h129.sm kr)
   obtain ⟨hq,hm⟩:=hm
   refine op1 (call hS kr kr hb40 kr (fun _ _=>rfl) (L9 _ _ objects ax.1 ax.2 (gi da eL) a1 c1 dS dR gQ gP Nu Nl hq h118 h120 h121 h129) ?_)
   intro v130 a pU pq hE hp hS
   replace hO:=hO.m2 hE
   replace h118:=h118.m1 hE
   replace h119:=h119.m1 hE
   replace h120:=h120.m1 hE
   replace h121:=h121.m1 hE
   replace h122:=h122.m1 hE
   replace h125:=h125.m1 hE
   replace h129:=h129.m1 hE
   obtain ⟨pn,pd,hp,h136⟩:=hp
   obtain ⟨gk,hr⟩:∃ r,dj objects ax.1 ax.2 (gi da eL)=r:=⟨_,rfl⟩
   replace hm:=hm gk hr
   rw [hr] at hp h136
   clear hr
   subst hp
   replace hm:=hm (h136.sm kr)
   refine ePe T hS [27,28,29,30,31,32,33,34] [(9,Sl pn gk.1 pd),(10,B gk.2)] fun a hS=>?_
   refine cb (fun a w=>∃ (Z:Nat->Nat) (X:Nat->Nat) (DL:Bool),VC14_J2 Q I1 μ1 eL DL/\St Tryz.f14.ntmps ⟨[(0,Sl a1 objects c1),(1,Sl a2 l_ c2),(5,Sl dS ax.1 dR),(6,Sl gQ ax.2 gP),(7,Sl r9 da r7),(8,I eL),(43,B DL)],[]⟩ Z a w X/\Old w0 X0 w X/\RS aB w X a1 objects c1/\RS bG w X a2 l_ c2/\RS ar w X dS ax.1 dR/\RS tI w X gQ ax.2 gP/\RS (cd tI) w X r9 da r7) ?_ ?_
   ·refine region ?_
    refine oPe T hS 2 [10] [(38,B gk.2)] fun a hS=>?_
    rcases bft gk.2 with hb | hb
    ·replace hS:=hS.lit (t:=38) kr hb
     replace hm:=hm.1 hb
     refine oPe T hS 3 [9] [(39,Sl a1 objects c1),(40,Sl a2 l_ c2),(41,Sl pn gk.1 pd)] fun a hS=>?_
     obtain ⟨hq,hm⟩:=hm
     refine op1 (call hS kr kr hb13 kr (fun _ _=>rfl) (Ml _ _ objects l_ gk.1 a1 c1 a2 c2 pn pd hq h118 h119 h136) ?_)
     intro v143 a Bp xZ hE hp hS
     replace hO:=hO.m2 hE
     replace h118:=h118.m1 hE
     replace h119:=h119.m1 hE
     replace h120:=h120.m1 hE
     replace h121:=h121.m1 hE
     replace h122:=h122.m1 hE
     replace h136:=h136.m1 hE
     obtain ⟨z3,hr⟩:∃ r,eA objects l_ gk.1=r:=⟨_,rfl⟩
     replace hm:=hm z3 hr
     rw [hr] at hp
     clear hr
     subst hp
     refine ePe T hS [38,39,40,41,42] [(43,B z3)] fun a hS=>?_
     exact ⟨Z,_,z3,hm,hS.sl _,hO,h118,h119,h120,h121,h122⟩
    replace hS:=hS.lit (t:=38) kr hb
    replace hm:=hm.2 hb
    refine ePe T hS [9,38] [(43,B false)] fun a hS=>?_
    exact ⟨Z,_,false,hm,hS.sl _,hO,h118,h119,h120,h121,h122⟩
   rintro a Bo ⟨Z,HF,DL,hm,hS,hO,h137,h138,h139,h140,h141⟩
   unfold VC14_J2 at hm
   refine aJ hS (b:=DL) kr (fun hb=>?_) fun hb=>?_
   ·replace hm:=hm.1 hb
    refine rPe T hS [0,1,5,6,7,8,43] [(4,B true)] fun a hS=>?_
    refine aY ?_
    exact fin T hS hO (fun c=>c) rfl (r:=[.bool true]) kr (fun X' hM hC=>⟨true,hm,rfl⟩)
   replace hm:=hm.2 hb
   refine aM ?_
   refine region (ePe T hS [43] [(8,I (wR (eL+1)))] fun a hS=>?_)
   exact ⟨wR (eL+1),⟨Z,_,hm.1,hS.sl _,hO,h137,h138,h139,h140,h141⟩,hm.2⟩
  replace hm:=hm.2 hb
  refine cm (by rfl) ?_
  exact ⟨Z,_,hm,hS.sl _,hO⟩
 rintro a Ge ⟨Z,HD,hm,hS,hO⟩
 unfold VC14_J1 at hm
 refine rPe T hS [] [(4,B false)] fun a hS=>?_
 refine aY ?_
 exact fin T hS hO (fun c=>c) rfl (r:=[.bool false]) kr (fun X' hM hC=>⟨false,hm,rfl⟩)
theorem C14 (Ml:S13) (GU:S16) (Ma:S39) (L9:S40) (v:∀ (objects:List aj) (l_:List aG),qL objects l_->VC14 objects l_ (fun r=>r=fM objects l_)):S14:=by
 intro w X objects l_ a1 c1 a2 c2   hp h1 h2
 refine (W14 Ml GU Ma L9 w X objects l_ a1 c1 a2 c2   _ (v objects l_ hp) h1 h2).mono ?_
 rintro _ _ _ _ ⟨r,rfl,h⟩
 exact h
theorem W4 (PO:S11) (PN:S14) (k6:S6) (k7:S7) (k8:S8) (k9:S9) (w0) (X0) (h_:al) (a1) (c1) (a2) (c2) (Q:Bool->Prop) (hm:VC4 h_ Q) (h1:RS aB w0 X0 a1 h_.ae c1) (h2:RS aP w0 X0 a2 h_.aq c2) :
  Ret Tryz.prog 4 #[.agg #[.slice a1 h_.ae.length c1,.slice a2 h_.aq.length c2]] aL w0 X0 (fun w X' v=>∃ r,Q r/\v=.bool r):=by
 unfold VC4 at hm
 replace hm:=hm (h1.sm kr)
 replace hm:=hm (h2.sm kr)
 refine enter Tryz.func4 rfl (vals:=[.agg #[.slice a1 h_.ae.length c1,.slice a2 h_.aq.length c2]]) kr ?_
 intro Z a hS hO hM
 replace h1:=h1.m0 hM
 replace h2:=h2.m0 hM
 refine rM T hS ⟨[(1,Pt 2 0)],[(2,(25,[Sl a1 h_.ae c1,Sl a2 h_.aq c2]))]⟩ fun Z a Gh NW hS hE hr=>?_
 replace hO:=hO.m2 hE
 replace h1:=h1.m1 hE
 replace h2:=h2.m1 hE
 clear hE hr
 refine bg ?_
 refine cb (fun a w=>∃ (Z:Nat->Nat) (X:Nat->Nat) (bE:Bool),VC4_J1 h_ Q bE/\St Tryz.f4.ntmps ⟨[(1,Pt 2 0),(12,B bE)],[(2,(25,[Sl a1 h_.ae c1,Sl a2 h_.aq c2]))]⟩ Z a w X/\Old w0 X0 w X/\RS aB w X a1 h_.ae c1/\RS aP w X a2 h_.aq c2) ?_ ?_
 ·refine region ?_
  refine oPe T hS 1 [] [(5,V (.agg #[.slice a1 h_.ae.length c1,.slice a2 h_.aq.length c2]))] fun a hS=>?_
  refine op1 (call hS kr kr hb6 kr (fun _ _=>rfl) (k6 _ _ h_ a1 c1 a2 c2 h1 h2) ?_)
  intro v133 a uH uz hE hp hS
  replace hO:=hO.m2 hE
  replace h1:=h1.m1 hE
  replace h2:=h2.m1 hE
  obtain ⟨xj,hr⟩:∃ r,hK h_=r:=⟨_,rfl⟩
  replace hm:=hm xj hr
  rw [hr] at hp
  clear hr
  subst hp
  refine oPe T hS 2 [5,6] [(8,B (!xj))] fun a hS=>?_
  rcases bft (!xj) with hb | hb
  ·replace hS:=hS.lit (t:=8) kr hb
   replace hm:=hm.1 hb
   refine ePe T hS [8] [(12,B true)] fun a hS=>?_
   exact ⟨Z,_,true,hm,hS.sl _,hO,h1,h2⟩
  replace hS:=hS.lit (t:=8) kr hb
  replace hm:=hm.2 hb
  refine oPe T hS 1 [] [(9,V (.agg #[.slice a1 h_.ae.length c1,.slice a2 h_.aq.length c2]))] fun a hS=>?_
  refine op1 (call hS kr kr hb7 kr (fun _ _=>rfl) (k7 _ _ h_ a1 c1 a2 c2 h1 h2) ?_)
  intro v137 a Bq E3 hE hp hS
  replace hO:=hO.m2 hE
  replace h1:=h1.m1 hE
  replace h2:=h2.m1 hE
  obtain ⟨z4,hr⟩:∃ r,fj h_=r:=⟨_,rfl⟩
  replace hm:=hm z4 hr
  rw [hr] at hp
  clear hr
  subst hp
  refine ePe T hS [8,9,10] [(12,B (decide (z4 > 5)))] fun a hS=>?_
  exact ⟨Z,_,decide (z4 > 5),hm,hS.sl _,hO,h1,h2⟩
 rintro a qn ⟨Z,x3,bE,hm,hS,hO,h102,h103⟩
 unfold VC4_J1 at hm
 refine aJ hS (b:=bE) kr (fun hb=>?_) fun hb=>?_
 ·replace hm:=hm.1 hb
  refine bq ?_
  refine op1 (call hS kr kr hb8 kr (fun _ _=>rfl) (k8 _ _) ?_)
  intro v104 a nz mi hE hp hS
  replace hO:=hO.m2 hE
  replace h102:=h102.m1 hE
  replace h103:=h103.m1 hE
  obtain ⟨nC,hr⟩:∃ r,fI=r:=⟨_,rfl⟩
  replace hm:=hm nC hr
  rw [hr] at hp
  clear hr
  subst hp
  refine eP T hS ⟨[(2,B nC)],[]⟩ fun a hS=>?_
  refine aY ?_
  exact fin T hS hO (fun c=>c) rfl (r:=[.bool nC]) kr (fun X' hM hC=>⟨nC,hm,rfl⟩)
 replace hm:=hm.2 hb
 refine aM ?_
 refine bq ?_
 refine oPe T hS 1 [12] [(15,V (.agg #[.slice a1 h_.ae.length c1,.slice a2 h_.aq.length c2]))] fun a hS=>?_
 obtain ⟨hq,hm⟩:=hm
 refine op1 (call hS kr kr hb9 kr (fun _ _=>rfl) (k9 _ _ (⟨h_.ae,h_.aq⟩:al) a1 c1 a2 c2 hq h102 h103) ?_)
 intro v108 a qo sc hE hp hS
 replace hO:=hO.m2 hE
 replace h102:=h102.m1 hE
 replace h103:=h103.m1 hE
 obtain ⟨df,hr⟩:∃ r,dF (⟨h_.ae,h_.aq⟩:al)=r:=⟨_,rfl⟩
 replace hm:=hm df hr
 rw [hr] at hp
 clear hr
 subst hp
 refine ePe T hS [15,16] [(3,B df.1),(4,I df.2)] fun a hS=>?_
 refine bg ?_
 refine rPe T hS [4] [(20,B (df.2 != 0))] fun a hS=>?_
 refine aJ hS (b:=(df.2 != 0)) kr (fun hb=>?_) fun hb=>?_
 ·replace hm:=hm.1 hb
  refine bq ?_
  refine oP T hS 3 ⟨[(23,B (!df.1))],[]⟩ fun a hS=>?_
  rcases bft (!df.1) with hb | hb
  ·replace hS:=hS.lit (t:=23) kr hb
   replace hm:=hm.1 hb
   refine op1 (call hS kr kr hb8 kr (fun _ _=>rfl) (k8 _ _) ?_)
   intro v112 a uM wC hE hp hS
   replace hO:=hO.m2 hE
   obtain ⟨cY,hr⟩:∃ r,fI=r:=⟨_,rfl⟩
   replace hm:=hm cY hr
   rw [hr] at hp
   clear hr
   subst hp
   refine ePe T hS [23,24] [(2,B cY)] fun a hS=>?_
   refine aY ?_
   exact fin T hS hO (fun c=>c) rfl (r:=[.bool cY]) kr (fun X' hM hC=>⟨cY,hm,rfl⟩)
  replace hS:=hS.lit (t:=23) kr hb
  replace hm:=hm.2 hb
  refine ePe T hS [23] [(2,B false)] fun a hS=>?_
  refine aY ?_
  exact fin T hS hO (fun c=>c) rfl (r:=[.bool false]) kr (fun X' hM hC=>⟨false,hm,rfl⟩)
 replace hm:=hm.2 hb
 refine aM ?_
 refine dG [2] mixed hS ?_
 intro wT A1 hS hE hD hH
 replace hO:=hO.m2 hE
 replace h102:=h102.m1 hE
 replace h103:=h103.m1 hE
 refine tke T [0,1,3,2] [2] hS hH #[true,true,true,true,false,false,false,false,false,false,false] 7 [1,3] [(26,B df.1),(28,Sl a1 h_.ae c1),(29,V (.agg #[.slice a1 h_.ae.length c1,.slice a2 h_.aq.length c2]))] fun a hS=>?_
 obtain ⟨hq,hm⟩:=hm
 refine only 4 kr (by rfl) (call hS kr kr hb11 kr (fun _ _=>rfl) (PO _ _ (⟨h_.ae,h_.aq⟩:al) a1 c1 a2 c2 hq h102 h103) ?_)
 intro v118 a uL A0 hE hp hS
 replace hO:=hO.m2 hE
 replace hD:=hD.ev hE rfl
 replace h102:=h102.m1 hE
 replace h103:=h103.m1 hE
 obtain ⟨kF,kB,hp,h124⟩:=hp
 obtain ⟨e8,hr⟩:∃ r,eO (⟨h_.ae,h_.aq⟩:al)=r:=⟨_,rfl⟩
 replace hm:=hm e8 hr
 rw [hr] at hp h124
 clear hr
 subst hp
 replace hm:=hm (h124.sm kr)
 replace hS:=hS.sle [] [(30,Sl kF e8 kB)]
 refine di (bP.of hS (bks:=[2]) kr hD) ?_
 intro hH
 obtain ⟨hq,hm⟩:=hm
 refine only 5 kr (by rfl) (call hS kr kr hb14 kr (fun _ _=>rfl) (PN _ _ h_.ae e8 a1 c1 kF kB hq h102 h124) ?_)
 intro v125 a tm p9 hE hp hS
 replace hO:=hO.m2 hE
 replace hD:=hD.ev hE rfl
 replace h102:=h102.m1 hE
 replace h103:=h103.m1 hE
 replace h124:=h124.m1 hE
 obtain ⟨bO,hr⟩:∃ r,fM h_.ae e8=r:=⟨_,rfl⟩
 replace hm:=hm bO hr
 rw [hr] at hp
 clear hr
 subst hp
 replace hS:=hS.sle [] [(31,B bO)]
 refine di (bP.of hS (bks:=[2]) kr hD) ?_
 intro hH
 refine tke T [6,7] [2] hS hH #[true,true,true,true,true,true,true,true,false,false,false] 3 [26,28,29,30,31] [(33,B (df.1 == bO))] fun a hS=>?_
 rcases bft (df.1 == bO) with hb | hb
 ·replace hS:=hS.lit (t:=33) kr hb
  replace hm:=hm.1 hb
  refine only 8 kr (by rfl) (call hS kr kr hb8 kr (fun _ _=>rfl) (k8 _ _) ?_)
  intro v129 a uI Dl hE hp hS
  replace hO:=hO.m2 hE
  replace hD:=hD.ev hE rfl
  replace h102:=h102.m1 hE
  replace h103:=h103.m1 hE
  replace h124:=h124.m1 hE
  obtain ⟨gI,hr⟩:∃ r,fI=r:=⟨_,rfl⟩
  replace hm:=hm gI hr
  rw [hr] at hp
  clear hr
  subst hp
  replace hS:=hS.sle [] [(34,B gI)]
  refine di (bP.of hS (bks:=[2]) kr hD) ?_
  intro hH
  refine tke T [9,10] [2] hS hH (tts 11) 0 [33,34] [(2,B gI)] fun a hS=>?_
  refine aX kr ?_
  replace hS:=hS.sl ⟨[(2,B gI)],[]⟩
  refine aY ?_
  exact fin T hS hO (fun c=>c) rfl (r:=[.bool gI]) kr (fun X' hM hC=>⟨gI,hm,rfl⟩)
 replace hS:=hS.lit (t:=33) kr hb
 replace hm:=hm.2 hb
 refine tke T [8,9,10] [2] hS hH (tts 11) 0 [33] [(2,B false)] fun a hS=>?_
 refine aX kr ?_
 replace hS:=hS.sl ⟨[(2,B false)],[]⟩
 refine aY ?_
 exact fin T hS hO (fun c=>c) rfl (r:=[.bool false]) kr (fun X' hM hC=>⟨false,hm,rfl⟩)
end Go.Proofs.YteahldlmkheleaaGreat
