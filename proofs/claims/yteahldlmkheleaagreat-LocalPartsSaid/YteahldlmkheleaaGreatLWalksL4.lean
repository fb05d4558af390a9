import Derived.Test.YteahldlmkheleaaGreatLWalksS
set_option linter.all false
namespace Go.Proofs.YteahldlmkheleaaGreat
open Go Go.Sv
set_option maxHeartbeats 1000000
theorem W40 (Fs:S68) (w0) (X0) (objects:List ah) (ops:List ab) (of:List Int) (order:List Int) (a1) (c1) (a2) (c2) (a3) (c3) (a4) (c4) (Q:(List aa) × Bool->Prop) (hm:VC40 objects ops of order Q) (h1:RS ay w0 X0 a1 objects c1) (h2:RS aq w0 X0 a2 ops c2) (h3:RS tI w0 X0 a3 of c3) (h4:RS tI w0 X0 a4 order c4) :
  Ret Tryz.prog 40 #[.slice a1 objects.length c1,.slice a2 ops.length c2,.slice a3 of.length c3,.slice a4 order.length c4] aI w0 X0 (fun w X' v=>∃ r,Q r/\∃ co cn,v=.tuple #[.slice co r.1.length cn,.bool r.2]/\RS au w X' co r.1 cn):=by
 unfold VC40 at hm
 replace hm:=hm (h1.sm kr)
 replace hm:=hm (h2.sm kr)
 replace hm:=hm (h3.sm kr)
 replace hm:=hm (h4.sm kr)
 refine enter Tryz.func40 rfl (vals:=[.slice a1 objects.length c1,.slice a2 ops.length c2,.slice a3 of.length c3,.slice a4 order.length c4]) kr ?_
 intro Z a hS hO hM
 replace h1:=h1.m0 hM
 replace h2:=h2.m0 hM
 replace h3:=h3.m0 hM
 replace h4:=h4.m0 hM
 refine rPe T hS [] [] fun a hS=>?_
 refine rPe T hS [] [(10,V (.slice none 0 0))] fun a hS=>?_
 refine b5 (fun a w=>∃ (Z:Nat->Nat) (X:Nat->Nat) (fG:List Int) (iL:Option Addr) (iJ:Nat),VC40_J1 objects ops of order Q fG/\St Tryz.f40.ntmps ⟨[(0,Sl a1 objects c1),(1,Sl a2 ops c2),(2,Sl a3 of c3),(3,Sl a4 order c4),(10,Sl iL fG iJ)],[]⟩ Z a w X/\Old w0 X0 w X/\RS ay w X a1 objects c1/\RS aq w X a2 ops c2/\RS tI w X a3 of c3/\RS tI w X a4 order c4/\OS tI 3 w X 1011 iL fG iJ) ?_ ?_
 ·refine rPe T hS [] [(11,I 0)] fun a hS=>?_
  refine aK ?_
  obtain ⟨I2,μ2,ci,hm⟩:=hm
  refine cg (σ:=(List Int) × Int) (fun s a w=>∃ Z X BV BF,I2 s.1 s.2/\St Tryz.f40.ntmps ⟨[(0,Sl a1 objects c1),(1,Sl a2 ops c2),(2,Sl a3 of c3),(3,Sl a4 order c4),(10,Sl BV s.1 BF),(11,I s.2)],[]⟩ Z a w X/\Old w0 X0 w X/\RS ay w X a1 objects c1/\RS aq w X a2 ops c2/\RS tI w X a3 of c3/\RS tI w X a4 order c4/\OS tI 3 w X 1011 BV s.1 BF) (fun s=>μ2 s.1 s.2) (⟨[],0⟩) ?_ ?_
  ·exact ⟨Z,_,none,0,ci,hS.sl _,hO,h1,h2,h3,h4,(OS.nil _ _ _ _ _)⟩
  rintro ⟨oU,pm⟩ a GP ⟨Z,IH,BV,BF,hI,hS,hO,h181,h182,h183,h184,h188⟩
  replace hm:=hm oU pm hI
  clear hI ci
  refine bc ?_
  refine rPe T hS [] [(21,B (decide (pm < (lN objects))))] fun a hS=>?_
  refine aG hS (b:=decide (pm < (lN objects))) kr (fun hb=>?_) fun hb=>?_
  ·replace hm:=hm.1 hb
   refine aJ (bc ?_)
   refine aK ?_
   refine region ?_
   refine oPe T hS 3 [21] [(24,Sl BV oU BF),(25,Sl a1 objects c1),(26,I pm)] fun a hS=>?_
   obtain ⟨hq,hm⟩:=hm
   refine op1 (index (e:=48) (k:=.i64) T hS kr kr kr kr h181 kr kr hq.1 hq.2 ?_)
   intro I0 a h191 hS
   refine op1 (e7 (off:=2) (fsz:=1) (ft:=3) (TF:=tI) (y:=(gi objects pm).aE) T hS kr kr kr h191 kr kr kr (fun cs h=>mz h) ?_)
   intro QO a h193 hS
   refine op1 (dL T hS kr kr kr h193 rfl kr ?_)
   intro v194 a hv hS
   cases hv
   refine op1 (lit (E:=3) (col:=0) (T:=tI) (vals:=[.int .i64 ((gi objects pm).aE)]) (ys:=[(gi objects pm).aE]) T hS kr kr kr kr (by exact ⟨rfl,trivial⟩) rfl kr kr kr kr ?_)
   intro b195 a GT Mk hE h198 hN hS
   clear hN
   replace hO:=hO.m2 hE
   replace h181:=h181.m1 hE
   replace h182:=h182.m1 hE
   replace h183:=h183.m1 hE
   replace h184:=h184.m1 hE
   replace h188:=h188.m2 hE
   replace h191:=h191.m1 hE
   replace h193:=h193.m1 hE
   replace h198:=h198.rs0
   obtain ⟨hq,hm⟩:=hm
   obtain ⟨news,hN⟩:=h198.src
   refine op1 (append (E:=3) (T:=tI) (col:=1011) (xs:=oU) T hS kr kr kr kr h188 hN kr kr kr kr hq ?_)
   intro Iz Ij a N5 Mj hE h201 hS
   clear hq hN
   clear h188
   replace hO:=hO.m2 hE
   replace h181:=h181.m1 hE
   replace h182:=h182.m1 hE
   replace h183:=h183.m1 hE
   replace h184:=h184.m1 hE
   replace h191:=h191.m1 hE
   replace h193:=h193.m1 hE
   replace h198:=h198.m1 hE
   refine ePe T hS [25,26,27,28,29,30,31] [(10,Sl Iz (oU++[(gi objects pm).aE]) Ij)] fun a hS=>?_
   refine region (ePe T hS [] [(11,I (wR (pm+1)))] fun a hS=>?_)
   exact ⟨⟨oU++[(gi objects pm).aE],wR (pm+1)⟩,⟨Z,_,Iz,Ij,hm.1,hS.sl _,hO,h181,h182,h183,h184,h201⟩,hm.2⟩
  replace hm:=hm.2 hb
  refine cb (by rfl) ?_
  exact ⟨Z,_,oU,BV,BF,hm,hS.sl _,hO,h181,h182,h183,h184,h188⟩
 rintro a GO ⟨Z,Gf,fG,iL,iJ,hm,hS,hO,h101,h102,h103,h104,h108⟩
 unfold VC40_J1 at hm
 refine rPe T hS [] [(12,V (.slice none 0 0))] fun a hS=>?_
 refine b5 (fun a w=>∃ (Z:Nat->Nat) (X:Nat->Nat) (ce:List aa) (eR:Option Addr) (d9:Nat),VC40_J2 Q ce/\St Tryz.f40.ntmps ⟨[(12,Sl eR ce d9)],[]⟩ Z a w X/\Old w0 X0 w X/\OS au 56 w X 1009 eR ce d9) ?_ ?_
 ·refine rPe T hS [] [(13,I 0)] fun a hS=>?_
  refine aK ?_
  obtain ⟨I1,μ1,ci,hm⟩:=hm
  refine cg (σ:=(List Int) × (List aa) × Int) (fun s a w=>∃ Z X gO gL gN gK,I1 s.1 s.2.1 s.2.2/\St Tryz.f40.ntmps ⟨[(0,Sl a1 objects c1),(1,Sl a2 ops c2),(2,Sl a3 of c3),(3,Sl a4 order c4),(10,Sl gO s.1 gL),(12,Sl gN s.2.1 gK),(13,I s.2.2)],[]⟩ Z a w X/\Old w0 X0 w X/\RS ay w X a1 objects c1/\RS aq w X a2 ops c2/\RS tI w X a3 of c3/\RS tI w X a4 order c4/\OS tI 3 w X 1011 gO s.1 gL/\OS au 56 w X 1009 gN s.2.1 gK) (fun s=>μ1 s.1 s.2.1 s.2.2) (⟨fG,[],0⟩) ?_ ?_
  ·exact ⟨Z,_,iL,iJ,none,0,ci,hS.sl _,hO,h101,h102,h103,h104,h108,(OS.nil _ _ _ _ _)⟩
  rintro ⟨bi,d5,cU⟩ a z7 ⟨Z,Qt,gO,gL,gN,gK,hI,hS,hO,h115,h116,h117,h118,h122,h126⟩
  replace hm:=hm bi d5 cU hI
  clear hI ci
  refine bc ?_
  refine rPe T hS [] [(35,B (decide (cU < (lN order))))] fun a hS=>?_
  refine aG hS (b:=decide (cU < (lN order))) kr (fun hb=>?_) fun hb=>?_
  ·replace hm:=hm.1 hb
   refine aJ (bc ?_)
   refine aK ?_
   refine bl ?_
   refine oPe T hS 3 [35] [(38,Sl a3 of c3),(39,Sl a4 order c4),(40,I cU)] fun a hS=>?_
   obtain ⟨hq,hm⟩:=hm
   refine op1 (index (e:=3) (k:=.i64) T hS kr kr kr kr h118 kr kr hq.1 hq.2 ?_)
   intro I9 a h129 hS
   refine op1 (dL T hS kr kr kr h129 rfl kr ?_)
   intro v130 a hv hS
   cases hv
   obtain ⟨hq,hm⟩:=hm
   refine op1 (index (e:=3) (k:=.i64) T hS kr kr kr kr h117 kr kr hq.1 hq.2 ?_)
   intro Gu a h132 hS
   refine op1 (dL T hS kr kr kr h132 rfl kr ?_)
   intro v133 a hv hS
   cases hv
   refine ePe T hS [38,39,40,41,42,43,44] [(14,I (gi of (gi order cU)))] fun a hS=>?_
   refine dw [] mixed hS ?_
   intro tz tp hS hE hD hH
   replace hO:=hO.m2 hE
   replace h115:=h115.m1 hE
   replace h116:=h116.m1 hE
   replace h117:=h117.m1 hE
   replace h118:=h118.m1 hE
   replace h122:=h122.m2 hE
   replace h126:=h126.m2 hE
   refine tke T [0,1,4,5,8,9,10] [] hS hH #[true,true,false,false,true,true,false,false,true,true,true,false,false,false,false,false,false,false,false,false,false,false,false,false] 17 [] [(46,Sl a1 objects c1),(47,I (gi of (gi order cU))),(50,Sl gO bi gL),(51,I (gi of (gi order cU))),(54,Sl a2 ops c2),(55,Sl a4 order c4),(56,I cU)] fun a hS=>?_
   obtain ⟨hq,hm⟩:=hm
   refine db (e:=48) (k:=.i64) T 2 hS kr kr kr (by rfl) kr hH kr kr h115 kr kr hq.1 hq.2 ?_
   intro DP a h137 hS
   have rL:=h137.here
   refine jJ T 3 hS kr kr kr (by rfl) kr hH kr h137 rL kr kr ?_
   intro v138 a hv hS
   obtain ⟨wC,ww,hv,h141⟩:=hv
   subst hv
   replace hm:=hm (h141.sm kr)
   obtain ⟨hq,hm⟩:=hm
   refine db (e:=3) (k:=.i64) T 11 hS kr kr kr (by rfl) kr hH kr kr h118 kr kr hq.1 hq.2 ?_
   intro I7 a h143 hS
   have xR:=h143.here
   refine dU T 12 hS kr kr kr (by rfl) kr hH kr h143 xR rfl kr ?_
   intro v144 a hv hS
   cases hv
   obtain ⟨hq,hm⟩:=hm
   refine db (e:=102) (k:=.i64) T 13 hS kr kr kr (by rfl) kr hH kr kr h116 kr kr hq.1 hq.2 ?_
   intro zO a h146 hS
   have HQ:=h146.here
   refine du (off:=1) (fsz:=1) (ft:=3) (TF:=tI) (y:=(gi ops (gi order cU)).Kind) 14 T hS kr kr kr (by rfl) kr hH kr h146 kr kr kr (fun cs h=>kf h) ?_
   intro MD a h148 fy hS
   have xQ:=HQ
   rw [← fy] at xQ
   clear fy
   refine dU T 15 hS kr kr kr (by rfl) kr hH kr h148 xQ rfl kr ?_
   intro v149 a hv hS
   cases hv
   obtain ⟨D6,hm⟩:=hm
   refine only 6 kr (by rfl) (k5 (E:=3) (k:=.i64) T hS kr kr kr kr h122 kr kr D6.1 D6.2 ?_)
   intro Q7 a h152 h151 hS
   refine c8 (bJ.of hS (bks:=[]) kr hD) ?_
   intro hH
   refine only 7 kr (by rfl) (Fl T hS kr kr kr h151 rfl kr ?_)
   intro v154 a hv hS
   cases hv
   refine c8 (bJ.of hS (bks:=[]) kr hD) ?_
   intro hH
   refine only 16 kr (by rfl) (call hS kr kr hb68 kr (fun _ _=>rfl) (Fs _ _ (gi objects (gi of (gi order cU))) (gi bi (gi of (gi order cU))) ((gi ops (gi order cU)).Kind) wC ww h141) ?_)
   intro v155 a G1 DK hE hp hS
   replace hO:=hO.m2 hE
   replace hD:=hD.ev hE rfl
   replace h115:=h115.m1 hE
   replace h116:=h116.m1 hE
   replace h117:=h117.m1 hE
   replace h118:=h118.m1 hE
   replace h122:=h122.m2 hE
   replace h126:=h126.m2 hE
   replace h137:=h137.m1 hE
   replace h141:=h141.m1 hE
   replace h143:=h143.m1 hE
   replace h146:=h146.m1 hE
   replace h148:=h148.m1 hE
   clear h151 h152
   obtain ⟨iR,hr⟩:∃ r,bq (gi objects (gi of (gi order cU))) (gi bi (gi of (gi order cU))) ((gi ops (gi order cU)).Kind)=r:=⟨_,rfl⟩
   replace hm:=hm iR hr
   rw [hr] at hp
   clear hr
   subst hp
   refine c8 (bJ.of hS (bks:=[]) kr hD) ?_
   intro hH
   refine tke T [17,18,19,20,21,22,23] [] hS hH (tts 24) 0 [46,47,50,51,54,55,56,48,49,57,58,59,60,61,53,62] [(15,I iR.1),(16,I iR.2.1),(17,B iR.2.2)] fun a hS=>?_
   refine aU kr ?_
   replace hS:=hS.sle [] []
   refine bc ?_
   refine rPe T hS [17] [(67,B (!iR.2.2))] fun a hS=>?_
   refine aG hS (b:=(!iR.2.2)) kr (fun hb=>?_) fun hb=>?_
   ·replace hm:=hm.1 hb
    refine rPe T hS [0,1,2,3,10,12,13,14,15,16,67] [(8,V (.slice none 0 0)),(9,B false)] fun a hS=>?_
    refine aV ?_
    exact fin T hS hO (fun c=>c) rfl (r:=[.slice none 0 0,.bool false]) kr (fun X' hM hC=>⟨([],false),hm,none,0,rfl,RS.empty _ _ _⟩)
   replace hm:=hm.2 hb
   refine aJ ?_
   refine bl ?_
   refine oPe T hS 3 [14,15,67] [(68,Sl gO bi gL),(69,I (gi of (gi order cU))),(70,I iR.1)] fun a hS=>?_
   obtain ⟨ul,hm⟩:=hm
   refine op1 (k5 (E:=3) (k:=.i64) T hS kr kr kr kr h122 kr kr ul.1 ul.2 ?_)
   intro Q5 a h161 h160 hS
   refine op1 (vE (x:=iR.1) (v:=I iR.1) (i:=(gi of (gi order cU)).toNat) (E:=3) (xs:=bi) T hS kr kr kr kr h122 h161 (by have:=ul.1; have:=ul.2; omega) kr (fun _ _ _=>rfl) ?_)
   intro a GZ hE h164 hS
   clear h122 h161 h160 ul
   replace hO:=hO.m2 hE
   replace h115:=h115.m1 hE
   replace h116:=h116.m1 hE
   replace h117:=h117.m1 hE
   replace h118:=h118.m1 hE
   replace h126:=h126.m2 hE
   replace hS:=hS.conv (t:=10) (y:=.slice gO (bi.set (gi of (gi order cU)).toNat iR.1).length gL) kr (by rw [List.length_set])
   replace hS:=hS.conv (t:=68) (y:=.slice gO (bi.set (gi of (gi order cU)).toNat iR.1).length gL) kr (by rw [List.length_set])
   refine gA ?_
   refine region ?_
   refine oPe T hS 3 [] [(72,Sl gN d5 gK),(73,Sl a4 order c4),(74,I cU)] fun a hS=>?_
   obtain ⟨hq,hm⟩:=hm
   refine op1 (index (e:=3) (k:=.i64) T hS kr kr kr kr h118 kr kr hq.1 hq.2 ?_)
   intro Q1 a h166 hS
   refine op1 (dL T hS kr kr kr h166 rfl kr ?_)
   intro v167 a hv hS
   cases hv
   refine oPe T hS 2 [16,73,74,75,76] [(78,V (.agg #[.int .i64 (gi order cU),.int .i64 iR.2.1]))] fun a hS=>?_
   refine op1 (lit (E:=56) (col:=0) (T:=au) (vals:=[.agg #[.int .i64 (gi order cU),.int .i64 iR.2.1]]) (ys:=[(⟨gi order cU,iR.2.1⟩:aa)]) T hS kr kr kr kr (by exact ⟨rfl,trivial⟩) rfl kr kr kr kr ?_)
   intro b168 a GX Mr hE h171 hN hS
   clear hN
   replace hO:=hO.m2 hE
   replace h115:=h115.m1 hE
   replace h116:=h116.m1 hE
   replace h117:=h117.m1 hE
   replace h118:=h118.m1 hE
   replace h126:=h126.m2 hE
   replace h164:=h164.m2 hE
   replace h171:=h171.rs0
   obtain ⟨hq,hm⟩:=hm
   obtain ⟨news,hN⟩:=h171.src
   refine op1 (append (E:=56) (T:=au) (col:=1009) (xs:=d5) T hS kr kr kr kr h126 hN kr kr kr kr hq ?_)
   intro iV iU a ES Gh hE h174 hS
   clear hq hN
   clear h126
   replace hO:=hO.m2 hE
   replace h115:=h115.m1 hE
   replace h116:=h116.m1 hE
   replace h117:=h117.m1 hE
   replace h118:=h118.m1 hE
   replace h164:=h164.m2 hE
   replace h171:=h171.m1 hE
   refine ePe T hS [78,79,80] [(12,Sl iV (d5++[(⟨gi order cU,iR.2.1⟩:aa)]) iU)] fun a hS=>?_
   refine region (ePe T hS [] [(13,I (wR (cU+1)))] fun a hS=>?_)
   exact ⟨⟨(bi.set (gi of (gi order cU)).toNat iR.1),d5++[(⟨gi order cU,iR.2.1⟩:aa)],wR (cU+1)⟩,⟨Z,_,gO,gL,iV,iU,hm.1,hS.sl _,hO,h115,h116,h117,h118,h164,h174⟩,hm.2⟩
  replace hm:=hm.2 hb
  refine cb (by rfl) ?_
  exact ⟨Z,_,d5,gN,gK,hm,hS.sl _,hO,h126⟩
 rintro a ER ⟨Z,B2,ce,eR,d9,hm,hS,hO,h112⟩
 unfold VC40_J2 at hm
 refine rPe T hS [12] [(8,Sl eR ce d9),(9,B true)] fun a hS=>?_
 refine aV ?_
 obtain ⟨qL,hE,hF⟩:=h112.freeze (by decide)
 replace hS:=hS.ev hE (cq kr)
 replace hO:=hO.m2 hE
 have h114:=hF; clear hE hF
 exact fin T hS hO (fun c=>c) rfl (r:=[.slice eR ce.length d9,.bool true]) kr (fun X' hM hC=>⟨(ce,true),hm,eR,d9,rfl,h114.m0 hM⟩)
theorem C40 (Fs:S68) (v:∀ (objects:List ah) (ops:List ab) (of:List Int) (order:List Int),uc objects ops of order->VC40 objects ops of order (fun r=>r=c9 objects ops of order)):S40:=by
 intro w X objects ops of order a1 c1 a2 c2 a3 c3 a4 c4   hp h1 h2 h3 h4
 refine (W40 Fs w X objects ops of order a1 c1 a2 c2 a3 c3 a4 c4   _ (v objects ops of order hp) h1 h2 h3 h4).mono ?_
 rintro _ _ _ _ ⟨r,rfl,h⟩
 exact h
theorem W14 (KW:S13) (FC:S16) (KL:S39) (KK:S40) (w0) (X0) (objects:List ah) (l_:List aD) (a1) (c1) (a2) (c2) (Q:Bool->Prop) (hm:VC14 objects l_ Q) (h1:RS ay w0 X0 a1 objects c1) (h2:RS bA w0 X0 a2 l_ c2) :
  Ret Tryz.prog 14 #[.slice a1 objects.length c1,.slice a2 l_.length c2] aI w0 X0 (fun w X' v=>∃ r,Q r/\v=.bool r):=by
 unfold VC14 at hm
 replace hm:=hm (h1.sm kr)
 replace hm:=hm (h2.sm kr)
 refine enter Tryz.func14 rfl (vals:=[.slice a1 objects.length c1,.slice a2 l_.length c2]) kr ?_
 intro Z a hS hO hM
 replace h1:=h1.m0 hM
 replace h2:=h2.m0 hM
 refine rPe T hS [] [] fun a hS=>?_
 refine bl ?_
 refine oPe T hS 2 [] [(12,Sl a1 objects c1),(13,Sl a2 l_ c2)] fun a hS=>?_
 obtain ⟨hq,hm⟩:=hm
 refine op1 (call hS kr kr hb16 kr (fun _ _=>rfl) (FC _ _ objects l_ a1 c1 a2 c2 hq h1 h2) ?_)
 intro v101 a eX e8 hE hp hS
 replace hO:=hO.m2 hE
 replace h1:=h1.m1 hE
 replace h2:=h2.m1 hE
 obtain ⟨dH,dG,gr,gq,hp,h107,h110⟩:=hp
 obtain ⟨am,hr⟩:∃ r,bb objects l_=r:=⟨_,rfl⟩
 replace hm:=hm am hr
 rw [hr] at hp h107 h110
 clear hr
 subst hp
 replace hm:=hm (h107.sm kr)
 replace hm:=hm (h110.sm kr)
 refine ePe T hS [12,13,14] [(5,Sl dH am.1 dG),(6,Sl gr am.2 gq)] fun a hS=>?_
 refine bl ?_
 refine oPe T hS 2 [] [(18,I (lN am.1))] fun a hS=>?_
 obtain ⟨hq,hm⟩:=hm
 refine op1 (call hS kr kr hb39 kr (fun _ _=>rfl) (KL _ _ (lN am.1) hq) ?_)
 intro v111 a yk qL hE hp hS
 replace hO:=hO.m2 hE
 replace h1:=h1.m1 hE
 replace h2:=h2.m1 hE
 replace h107:=h107.m1 hE
 replace h110:=h110.m1 hE
 obtain ⟨q5,qY,hp,h117⟩:=hp
 obtain ⟨cV,hr⟩:∃ r,c7 (lN am.1)=r:=⟨_,rfl⟩
 replace hm:=hm cV hr
 rw [hr] at hp h117
 clear hr
 subst hp
 replace hm:=hm (h117.sm kr)
 refine ePe T hS [18,19] [(7,Sl q5 cV qY)] fun a hS=>?_
 refine b5 (fun a w=>∃ Z X,VC14_J1 Q/\St Tryz.f14.ntmps ⟨[],[]⟩ Z a w X/\Old w0 X0 w X) ?_ ?_
 ·refine rPe T hS [] [(8,I 0)] fun a hS=>?_
  refine aK ?_
  obtain ⟨I1,μ1,ci,hm⟩:=hm
  refine cg (σ:=Int) (fun s a w=>∃ Z X,I1 s/\St Tryz.f14.ntmps ⟨[(0,Sl a1 objects c1),(1,Sl a2 l_ c2),(5,Sl dH am.1 dG),(6,Sl gr am.2 gq),(7,Sl q5 cV qY),(8,I s)],[]⟩ Z a w X/\Old w0 X0 w X/\RS ay w X a1 objects c1/\RS bA w X a2 l_ c2/\RS aq w X dH am.1 dG/\RS tI w X gr am.2 gq/\RS (b7 tI) w X q5 cV qY) (fun s=>μ1 s) (0) ?_ ?_
  ·exact ⟨Z,_,ci,hS.sl _,hO,h1,h2,h107,h110,h117⟩
  rintro d5 a Aa ⟨Z,wF,hI,hS,hO,h118,h119,h120,h121,h122⟩
  replace hm:=hm d5 hI
  clear hI ci
  refine bc ?_
  refine rPe T hS [] [(23,B (decide (d5 < (lN cV))))] fun a hS=>?_
  refine aG hS (b:=decide (d5 < (lN cV))) kr (fun hb=>?_) fun hb=>?_
  ·replace hm:=hm.1 hb
   refine aJ (bc ?_)
   refine aK ?_
   refine bl ?_
   refine oPe T hS 5 [23] [(27,Sl a1 objects c1),(28,Sl dH am.1 dG),(29,Sl gr am.2 gq),(30,Sl q5 cV qY),(31,I d5)] fun a hS=>?_
   obtain ⟨hq,hm⟩:=hm
   refine op1 (index (e:=43) (k:=.i64) T hS kr kr kr kr h122 kr kr hq.1 hq.2 ?_)
   intro DQ a h125 hS
   refine op1 (dL T hS kr kr kr h125 rfl kr ?_)
   intro v126 a hv hS
   obtain ⟨L3,LT,hv,h129⟩:=hv
   cases hv
   replace hm:=hm (h129.sm kr)
   obtain ⟨hq,hm⟩:=hm
   refine op1 (call hS kr kr hb40 kr (fun _ _=>rfl) (KK _ _ objects am.1 am.2 (gi cV d5) a1 c1 dH dG gr gq L3 LT hq h118 h120 h121 h129) ?_)
   intro v130 a oW ow hE hp hS
   replace hO:=hO.m2 hE
   replace h118:=h118.m1 hE
   replace h119:=h119.m1 hE
   replace h120:=h120.m1 hE
   replace h121:=h121.m1 hE
   replace h122:=h122.m1 hE
   replace h125:=h125.m1 hE
   replace h129:=h129.m1 hE
   obtain ⟨ou,ol,hp,h136⟩:=hp
   obtain ⟨fP,hr⟩:∃ r,c9 objects am.1 am.2 (gi cV d5)=r:=⟨_,rfl⟩
   replace hm:=hm fP hr
   rw [hr] at hp h136
   clear hr
   subst hp
   replace hm:=hm (h136.sm kr)
   refine ePe T hS [27,28,29,30,31,32,33,34] [(9,Sl ou fP.1 ol),(10,B fP.2)] fun a hS=>?_
   refine b5 (fun a w=>∃ (Z:Nat->Nat) (X:Nat->Nat) (Cu:Bool),VC14_J2 Q I1 μ1 d5 Cu/\St Tryz.f14.ntmps ⟨[(0,Sl a1 objects c1),(1,Sl a2 l_ c2),(5,Sl dH am.1 dG),(6,Sl gr am.2 gq),(7,Sl q5 cV qY),(8,I d5),(43,B Cu)],[]⟩ Z a w X/\Old w0 X0 w X/\RS ay w X a1 objects c1/\RS bA w X a2 l_ c2/\RS aq w X dH am.1 dG/\RS tI w X gr am.2 gq/\RS (b7 tI) w X q5 cV qY) ?_ ?_
   ·refine region ?_
    refine oPe T hS 2 [10] [(38,B fP.2)] fun a hS=>?_
    rcases bft fP.2 with hb | hb
    ·replace hS:=hS.lit (t:=38) kr hb
     replace hm:=hm.1 hb
     refine oPe T hS 3 [9] [(39,Sl a1 objects c1),(40,Sl a2 l_ c2),(41,Sl ou fP.1 ol)] fun a hS=>?_
     obtain ⟨hq,hm⟩:=hm
     refine op1 (call hS kr kr hb13 kr (fun _ _=>rfl) (KW _ _ objects l_ fP.1 a1 c1 a2 c2 ou ol hq h118 h119 h136) ?_)
     intro v143 a Ac wG hE hp hS
     replace hO:=hO.m2 hE
     replace h118:=h118.m1 hE
     replace h119:=h119.m1 hE
     replace h120:=h120.m1 hE
     replace h121:=h121.m1 hE
     replace h122:=h122.m1 hE
     replace h136:=h136.m1 hE
     obtain ⟨yD,hr⟩:∃ r,dW objects l_ fP.1=r:=⟨_,rfl⟩
     replace hm:=hm yD hr
     rw [hr] at hp
     clear hr
     subst hp
     refine ePe T hS [38,39,40,41,42] [(43,B yD)] fun a hS=>?_
     exact ⟨Z,_,yD,hm,hS.sl _,hO,h118,h119,h120,h121,h122⟩
    replace hS:=hS.lit (t:=38) kr hb
    replace hm:=hm.2 hb
    refine ePe T hS [9,38] [(43,B false)] fun a hS=>?_
    exact ⟨Z,_,false,hm,hS.sl _,hO,h118,h119,h120,h121,h122⟩
   rintro a Ab ⟨Z,Gn,Cu,hm,hS,hO,h137,h138,h139,h140,h141⟩
   unfold VC14_J2 at hm
   refine aG hS (b:=Cu) kr (fun hb=>?_) fun hb=>?_
   ·replace hm:=hm.1 hb
    refine rPe T hS [0,1,5,6,7,8,43] [(4,B true)] fun a hS=>?_
    refine aV ?_
    exact fin T hS hO (fun c=>c) rfl (r:=[.bool true]) kr (fun X' hM hC=>⟨true,hm,rfl⟩)
   replace hm:=hm.2 hb
   refine aJ ?_
   refine region (ePe T hS [43] [(8,I (wR (d5+1)))] fun a hS=>?_)
   exact ⟨wR (d5+1),⟨Z,_,hm.1,hS.sl _,hO,h137,h138,h139,h140,h141⟩,hm.2⟩
  replace hm:=hm.2 hb
  refine cb (by rfl) ?_
  exact ⟨Z,_,hm,hS.sl _,hO⟩
 rintro a EV ⟨Z,Gl,hm,hS,hO⟩
 unfold VC14_J1 at hm
 refine rPe T hS [] [(4,B false)] fun a hS=>?_
 refine aV ?_
 exact fin T hS hO (fun c=>c) rfl (r:=[.bool false]) kr (fun X' hM hC=>⟨false,hm,rfl⟩)
theorem C14 (KW:S13) (FC:S16) (KL:S39) (KK:S40) (v:∀ (objects:List ah) (l_:List aD),pV objects l_->VC14 objects l_ (fun r=>r=fq objects l_)):S14:=by
 intro w X objects l_ a1 c1 a2 c2   hp h1 h2
 refine (W14 KW FC KL KK w X objects l_ a1 c1 a2 c2   _ (v objects l_ hp) h1 h2).mono ?_
 rintro _ _ _ _ ⟨r,rfl,h⟩
 exact h
theorem W4 (Oh:S11) (Og:S14) (k6:S6) (k7:S7) (k8:S8) (k9:S9) (w0) (X0) (h_:ak) (a1) (c1) (a2) (c2) (Q:Bool->Prop) (hm:VC4 h_ Q) (h1:RS ay w0 X0 a1 h_.ae c1) (h2:RS aM w0 X0 a2 h_.ao c2) :
  Ret Tryz.prog 4 #[.agg #[.slice a1 h_.ae.length c1,.slice a2 h_.ao.length c2]] aI w0 X0 (fun w X' v=>∃ r,Q r/\v=.bool r):=by
 unfold VC4 at hm
 replace hm:=hm (h1.sm kr)
 replace hm:=hm (h2.sm kr)
 refine enter Tryz.func4 rfl (vals:=[.agg #[.slice a1 h_.ae.length c1,.slice a2 h_.ao.length c2]]) kr ?_
 intro Z a hS hO hM
 replace h1:=h1.m0 hM
 replace h2:=h2.m0 hM
 refine rM T hS ⟨[(1,Pt 2 0)],[(2,(25,[Sl a1 h_.ae c1,Sl a2 h_.ao c2]))]⟩ fun Z a EY Mu hS hE hr=>?_
 replace hO:=hO.m2 hE
 replace h1:=h1.m1 hE
 replace h2:=h2.m1 hE
 clear hE hr
 refine bc ?_
 refine b5 (fun a w=>∃ (Z:Nat->Nat) (X:Nat->Nat) (bv:Bool),VC4_J1 h_ Q bv/\St Tryz.f4.ntmps ⟨[(1,Pt 2 0),(12,B bv)],[(2,(25,[Sl a1 h_.ae c1,Sl a2 h_.ao c2]))]⟩ Z a w X/\Old w0 X0 w X/\RS ay w X a1 h_.ae c1/\RS aM w X a2 h_.ao c2) ?_ ?_
 ·refine region ?_
  refine oPe T hS 1 [] [(5,V (.agg #[.slice a1 h_.ae.length c1,.slice a2 h_.ao.length c2]))] fun a hS=>?_
  refine op1 (call hS kr kr hb6 kr (fun _ _=>rfl) (k6 _ _ h_ a1 c1 a2 c2 h1 h2) ?_)
  intro v133 a tz tp hE hp hS
  replace hO:=hO.m2 hE
  replace h1:=h1.m1 hE
  replace h2:=h2.m1 hE
  obtain ⟨vT,hr⟩:∃ r,gH h_=r:=⟨_,rfl⟩
  replace hm:=hm vT hr
  rw [hr] at hp
  clear hr
  subst hp
  refine oPe T hS 2 [5,6] [(8,B (!vT))] fun a hS=>?_
  rcases bft (!vT) with hb | hb
  ·replace hS:=hS.lit (t:=8) kr hb
   replace hm:=hm.1 hb
   refine ePe T hS [8] [(12,B true)] fun a hS=>?_
   exact ⟨Z,_,true,hm,hS.sl _,hO,h1,h2⟩
  replace hS:=hS.lit (t:=8) kr hb
  replace hm:=hm.2 hb
  refine oPe T hS 1 [] [(9,V (.agg #[.slice a1 h_.ae.length c1,.slice a2 h_.ao.length c2]))] fun a hS=>?_
  refine op1 (call hS kr kr hb7 kr (fun _ _=>rfl) (k7 _ _ h_ a1 c1 a2 c2 h1 h2) ?_)
  intro v137 a Ad DL hE hp hS
  replace hO:=hO.m2 hE
  replace h1:=h1.m1 hE
  replace h2:=h2.m1 hE
  obtain ⟨yE,hr⟩:∃ r,eT h_=r:=⟨_,rfl⟩
  replace hm:=hm yE hr
  rw [hr] at hp
  clear hr
  subst hp
  refine ePe T hS [8,9,10] [(12,B (decide (yE > 5)))] fun a hS=>?_
  exact ⟨Z,_,decide (yE > 5),hm,hS.sl _,hO,h1,h2⟩
 rintro a py ⟨Z,wH,bv,hm,hS,hO,h102,h103⟩
 unfold VC4_J1 at hm
 refine aG hS (b:=bv) kr (fun hb=>?_) fun hb=>?_
 ·replace hm:=hm.1 hb
  refine bl ?_
  refine op1 (call hS kr kr hb8 kr (fun _ _=>rfl) (k8 _ _) ?_)
  intro v104 a mE lB hE hp hS
  replace hO:=hO.m2 hE
  replace h102:=h102.m1 hE
  replace h103:=h103.m1 hE
  obtain ⟨mH,hr⟩:∃ r,fk=r:=⟨_,rfl⟩
  replace hm:=hm mH hr
  rw [hr] at hp
  clear hr
  subst hp
  refine eP T hS ⟨[(2,B mH)],[]⟩ fun a hS=>?_
  refine aV ?_
  exact fin T hS hO (fun c=>c) rfl (r:=[.bool mH]) kr (fun X' hM hC=>⟨mH,hm,rfl⟩)
 replace hm:=hm.2 hb
 refine aJ ?_
 refine bl ?_
 refine oPe T hS 1 [12] [(15,V (.agg #[.slice a1 h_.ae.length c1,.slice a2 h_.ao.length c2]))] fun a hS=>?_
 obtain ⟨hq,hm⟩:=hm
 refine op1 (call hS kr kr hb9 kr (fun _ _=>rfl) (k9 _ _ (⟨h_.ae,h_.ao⟩:ak) a1 c1 a2 c2 hq h102 h103) ?_)
 intro v108 a pz q8 hE hp hS
 replace hO:=hO.m2 hE
 replace h102:=h102.m1 hE
 replace h103:=h103.m1 hE
 obtain ⟨cZ,hr⟩:∃ r,dv (⟨h_.ae,h_.ao⟩:ak)=r:=⟨_,rfl⟩
 replace hm:=hm cZ hr
 rw [hr] at hp
 clear hr
 subst hp
 refine ePe T hS [15,16] [(3,B cZ.1),(4,I cZ.2)] fun a hS=>?_
 refine bc ?_
 refine rPe T hS [4] [(20,B (cZ.2 != 0))] fun a hS=>?_
 refine aG hS (b:=(cZ.2 != 0)) kr (fun hb=>?_) fun hb=>?_
 ·replace hm:=hm.1 hb
  refine bl ?_
  refine oP T hS 3 ⟨[(23,B (!cZ.1))],[]⟩ fun a hS=>?_
  rcases bft (!cZ.1) with hb | hb
  ·replace hS:=hS.lit (t:=23) kr hb
   replace hm:=hm.1 hb
   refine op1 (call hS kr kr hb8 kr (fun _ _=>rfl) (k8 _ _) ?_)
   intro v112 a tE vj hE hp hS
   replace hO:=hO.m2 hE
   obtain ⟨cJ,hr⟩:∃ r,fk=r:=⟨_,rfl⟩
   replace hm:=hm cJ hr
   rw [hr] at hp
   clear hr
   subst hp
   refine ePe T hS [23,24] [(2,B cJ)] fun a hS=>?_
   refine aV ?_
   exact fin T hS hO (fun c=>c) rfl (r:=[.bool cJ]) kr (fun X' hM hC=>⟨cJ,hm,rfl⟩)
  replace hS:=hS.lit (t:=23) kr hb
  replace hm:=hm.2 hb
  refine ePe T hS [23] [(2,B false)] fun a hS=>?_
  refine aV ?_
  exact fin T hS hO (fun c=>c) rfl (r:=[.bool false]) kr (fun X' hM hC=>⟨false,hm,rfl⟩)
 replace hm:=hm.2 hb
 refine aJ ?_
 refine dw [2] mixed hS ?_
 intro vA zM hS hE hD hH
 replace hO:=hO.m2 hE
 replace h102:=h102.m1 hE
 replace h103:=h103.m1 hE
 refine tke T [0,1,3,2] [2] hS hH #[true,true,true,true,false,false,false,false,false,false,false] 7 [1,3] [(26,B cZ.1),(28,Sl a1 h_.ae c1),(29,V (.agg #[.slice a1 h_.ae.length c1,.slice a2 h_.ao.length c2]))] fun a hS=>?_
 obtain ⟨hq,hm⟩:=hm
 refine only 4 kr (by rfl) (call hS kr kr hb11 kr (fun _ _=>rfl) (Oh _ _ (⟨h_.ae,h_.ao⟩:ak) a1 c1 a2 c2 hq h102 h103) ?_)
 intro v118 a tD zL hE hp hS
 replace hO:=hO.m2 hE
 replace hD:=hD.ev hE rfl
 replace h102:=h102.m1 hE
 replace h103:=h103.m1 hE
 obtain ⟨jR,jN,hp,h124⟩:=hp
 obtain ⟨d7,hr⟩:∃ r,eu (⟨h_.ae,h_.ao⟩:ak)=r:=⟨_,rfl⟩
 replace hm:=hm d7 hr
 rw [hr] at hp h124
 clear hr
 subst hp
 replace hm:=hm (h124.sm kr)
 replace hS:=hS.sle [] [(30,Sl jR d7 jN)]
 refine c8 (bJ.of hS (bks:=[2]) kr hD) ?_
 intro hH
 obtain ⟨hq,hm⟩:=hm
 refine only 5 kr (by rfl) (call hS kr kr hb14 kr (fun _ _=>rfl) (Og _ _ h_.ae d7 a1 c1 jR jN hq h102 h124) ?_)
 intro v125 a r9 pc hE hp hS
 replace hO:=hO.m2 hE
 replace hD:=hD.ev hE rfl
 replace h102:=h102.m1 hE
 replace h103:=h103.m1 hE
 replace h124:=h124.m1 hE
 obtain ⟨bI,hr⟩:∃ r,fq h_.ae d7=r:=⟨_,rfl⟩
 replace hm:=hm bI hr
 rw [hr] at hp
 clear hr
 subst hp
 replace hS:=hS.sle [] [(31,B bI)]
 refine c8 (bJ.of hS (bks:=[2]) kr hD) ?_
 intro hH
 refine tke T [6,7] [2] hS hH #[true,true,true,true,true,true,true,true,false,false,false] 3 [26,28,29,30,31] [(33,B (cZ.1 == bI))] fun a hS=>?_
 rcases bft (cZ.1 == bI) with hb | hb
 ·replace hS:=hS.lit (t:=33) kr hb
  replace hm:=hm.1 hb
  refine only 8 kr (by rfl) (call hS kr kr hb8 kr (fun _ _=>rfl) (k8 _ _) ?_)
  intro v129 a tA B6 hE hp hS
  replace hO:=hO.m2 hE
  replace hD:=hD.ev hE rfl
  replace h102:=h102.m1 hE
  replace h103:=h103.m1 hE
  replace h124:=h124.m1 hE
  obtain ⟨gc,hr⟩:∃ r,fk=r:=⟨_,rfl⟩
  replace hm:=hm gc hr
  rw [hr] at hp
  clear hr
  subst hp
  replace hS:=hS.sle [] [(34,B gc)]
  refine c8 (bJ.of hS (bks:=[2]) kr hD) ?_
  intro hH
  refine tke T [9,10] [2] hS hH (tts 11) 0 [33,34] [(2,B gc)] fun a hS=>?_
  refine aU kr ?_
  replace hS:=hS.sl ⟨[(2,B gc)],[]⟩
  refine aV ?_
  exact fin T hS hO (fun c=>c) rfl (r:=[.bool gc]) kr (fun X' hM hC=>⟨gc,hm,rfl⟩)
 replace hS:=hS.lit (t:=33) kr hb
 replace hm:=hm.2 hb
 refine tke T [8,9,10] [2] hS hH (tts 11) 0 [33] [(2,B false)] fun a hS=>?_
 refine aU kr ?_
 replace hS:=hS.sl ⟨[(2,B false)],[]⟩
 refine aV ?_
 exact fin T hS hO (fun c=>c) rfl (r:=[.bool false]) kr (fun X' hM hC=>⟨false,hm,rfl⟩)
end Go.Proofs.YteahldlmkheleaaGreat
