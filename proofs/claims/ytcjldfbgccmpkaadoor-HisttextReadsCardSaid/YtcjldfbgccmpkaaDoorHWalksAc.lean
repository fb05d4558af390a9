/- Walks: each function returns what its condition asks. Condition: the contracts of its callees, handed in. -/
import Derived.Test.YtcjldfbgccmpkaaDoorHWalksS
set_option linter.all false
namespace Go.Proofs.YtcjldfbgccmpkaaDoor
open Go Go.Sv
set_option maxHeartbeats 1000000
/-- replevin/objtext.Print -/
theorem W25 (k32 : S32) (k50 : S50) (k51 : S51) (k52 : S52) (w0 : World) (χ0 : Nat → Nat) (o_ : Api_Object) (a1 : Option Addr) (c1 : Nat) (Q : (List UInt8) × Int → Prop) (hm : VC25 o_ Q) (h1 : RS tApi_Row w0 χ0 a1 o_.Rows c1) (hAmb : Amb w0 χ0) :
  Ret Tryd.prog 25 #[.agg #[.int .i64 o_.States, .int .i64 o_.Kinds, .int .i64 o_.Init, .slice a1 o_.Rows.length c1]] xnone w0 χ0 (fun w χ' v => ∃ r, Q r ∧ v = .tuple #[.string (bs r.1), .int .i64 r.2]) := by
 unfold VC25 at hm
 replace hm := hm (h1.sm kr)
 refine enter Tryd.func25 rfl (vals := [.agg #[.int .i64 o_.States, .int .i64 o_.Kinds, .int .i64 o_.Init, .slice a1 o_.Rows.length c1]]) kr ?_
 intro ρ a hS hO hM
 replace h1 := h1.m0 hM
 replace hAmb := hAmb.m0 hM
 clear hM
 refine rM T hS ⟨[(1, Pt 2 0)], [(2, (25, [I o_.States, I o_.Kinds, I o_.Init, Sl a1 o_.Rows c1]))]⟩ fun ρ a w159 χ160 hS hE hr => ?_
 replace hO := hO.mv hE rfl rfl
 replace h1 := h1.mv hE rfl
 replace hAmb := hAmb.mv hE rfl
 clear hE hr
 refine wseq ?_
 refine regO ?_
 refine oP T hS 1 ⟨[(1, Pt 2 0), (11, V (.agg #[.int .i64 o_.States, .int .i64 o_.Kinds, .int .i64 o_.Init, .slice a1 o_.Rows.length c1]))], [(2, (25, [I o_.States, I o_.Kinds, I o_.Init, Sl a1 o_.Rows c1]))]⟩ fun a hS => ?_
 obtain ⟨hq, hm⟩ := hm
 refine op1 (call hS kr kr hb32 kr (fun _ _ => rfl) (k32 _ _ o_ a1 c1 hq h1) ?_)
 intro v101 a w102 χ103 hE hp hS
 clear hq
 replace hO := hO.mv hE rfl rfl
 replace h1 := h1.mv hE rfl
 replace hAmb := hAmb.mv hE rfl
 clear hE
 obtain ⟨r104, hr⟩ : ∃ r, object_Check o_ = r := ⟨_, rfl⟩
 replace hm := hm r104 hr
 rw [hr] at hp
 clear hr
 subst hp
 refine eP T hS ⟨[(1, Pt 2 0), (5, I r104.2)], [(2, (25, [I o_.States, I o_.Kinds, I o_.Init, Sl a1 o_.Rows c1]))]⟩ fun a hS => ?_
 refine rP T hS ⟨[(1, Pt 2 0), (5, I r104.2), (16, B (r104.2 != 0))], [(2, (25, [I o_.States, I o_.Kinds, I o_.Init, Sl a1 o_.Rows c1]))]⟩ fun a hS => ?_
 refine wcond hS (b := (r104.2 != 0)) kr (fun hb => ?_) (fun hb => ?_)
 ·replace hm := hm.1 hb
  refine rP T hS ⟨[(2, Z ([] : List UInt8)), (3, I r104.2)], []⟩ fun a hS => ?_
  refine wret ?_
  exact fin T hS hO (fun c => c) rfl (r := [.string (bs ([] : List UInt8)), .int .i64 r104.2]) kr (fun χ' hM hC => ⟨(([] : List UInt8), r104.2), hm, rfl⟩)
 ·replace hm := hm.2 hb
  refine wskip ?_
  refine rP T hS ⟨[(1, Pt 2 0), (6, .f (.func 50) [] [])], [(2, (25, [I o_.States, I o_.Kinds, I o_.Init, Sl a1 o_.Rows c1]))]⟩ fun a hS => ?_
  refine regO ?_
  refine oP T hS 9 ⟨[(1, Pt 2 0), (6, .f (.func 50) [] []), (19, I o_.States), (21, I o_.Kinds), (23, I o_.Init), (26, I ((o_.Rows.length : Nat) : Int))], [(2, (25, [I o_.States, I o_.Kinds, I o_.Init, Sl a1 o_.Rows c1]))]⟩ fun a hS => ?_
  refine op1 (lit (E := 3) (col := 0) (T := tI) (vals := [.int .i64 o_.States, .int .i64 o_.Kinds, .int .i64 o_.Init, .int .i64 ((o_.Rows.length : Nat) : Int)]) (ys := [o_.States, o_.Kinds, o_.Init, ((o_.Rows.length : Nat) : Int)]) T hS kr kr kr kr (by exact ⟨rfl, rfl, rfl, rfl, trivial⟩) rfl kr kr kr kr ?_)
  intro b105 a w106 χ107 hE h108 hN hS
  clear hN
  replace hO := hO.mv hE rfl rfl
  replace h1 := h1.mv hE rfl
  replace hAmb := hAmb.mv hE rfl
  clear hE
  replace h108 := h108.rs0
  obtain ⟨hq, hm⟩ := hm
  refine op1 (call hS kr kr hb51 kr (fun _ _ => rfl) (k51 _ _ ([111, 98, 106, 101, 99, 116] : List UInt8) [o_.States, o_.Kinds, o_.Init, ((o_.Rows.length : Nat) : Int)] (some ⟨b105, 0, none⟩) 4 hq h108 hAmb) ?_)
  intro v109 a w110 χ111 hE hp hS
  clear hq
  replace hO := hO.mv hE rfl rfl
  replace h1 := h1.mv hE rfl
  replace hAmb := hAmb.mv hE rfl
  replace h108 := h108.mv hE rfl
  clear hE
  obtain ⟨a113, c114, hp, h115⟩ := hp
  obtain ⟨r112, hr⟩ : ∃ r, objtext_words ([111, 98, 106, 101, 99, 116] : List UInt8) [o_.States, o_.Kinds, o_.Init, ((o_.Rows.length : Nat) : Int)] = r := ⟨_, rfl⟩
  replace hm := hm r112 hr
  rw [hr] at hp h115
  clear hr
  subst hp
  replace hm := hm (h115.sm kr)
  refine op1 (lit (E := 47) (col := 1008) (T := (tSlice tToken_Token)) (vals := [.slice a113 r112.length c114]) (ys := [r112]) T hS kr kr kr kr (by exact ⟨⟨a113, c114, rfl, h115⟩, trivial⟩) rfl kr kr kr kr ?_)
  intro b116 a w117 χ118 hE h119 hN hS
  clear hN
  replace hO := hO.mv hE rfl rfl
  replace h1 := h1.mv hE rfl
  replace hAmb := hAmb.mv hE rfl
  replace h108 := h108.mv hE rfl
  replace h115 := h115.mv hE rfl
  clear hE
  refine eP T hS ⟨[(1, Pt 2 0), (6, .f (.func 50) [] []), (7, Sl (some ⟨b116, 0, none⟩) [r112] 1)], [(2, (25, [I o_.States, I o_.Kinds, I o_.Init, Sl a1 o_.Rows c1]))]⟩ fun a hS => ?_
  refine wcut (fun a w => ∃ (ρ : Nat → Nat) (χ : Nat → Nat) (lines_120 : List (List Token_Token)) (a121 : Option Addr) (c122 : Nat), VC25_J1 Q lines_120 ∧ St Tryd.f25.ntmps ⟨[(7, Sl a121 lines_120 c122)], []⟩ ρ a w χ ∧ Old w0 χ0 w χ ∧ OS (tSlice tToken_Token) 47 w χ 1008 a121 lines_120 c122 ∧ Amb w χ) ?_ ?_
  ·refine rP T hS ⟨[(6, .f (.func 50) [] []), (7, Sl (some ⟨b116, 0, none⟩) [r112] 1), (31, Sl a1 o_.Rows c1), (32, I ((o_.Rows.length : Nat) : Int)), (33, I 0)], []⟩ fun a hS => ?_
   refine wblock ?_
   obtain ⟨I1, μ1, hm0, hm⟩ := hm
   refine wloop (σ := (List (List Token_Token)) × Int) (fun s a w => ∃ (ρ : Nat → Nat) (χ : Nat → Nat) (a129 : Option Addr) (c130 : Nat), I1 s.1 s.2 ∧ St Tryd.f25.ntmps ⟨[(6, .f (.func 50) [] []), (7, Sl a129 s.1 c130), (31, Sl a1 o_.Rows c1), (32, I ((o_.Rows.length : Nat) : Int)), (33, I s.2)], []⟩ ρ a w χ ∧ Old w0 χ0 w χ ∧ OS (tSlice tToken_Token) 47 w χ 1008 a129 s.1 c130 ∧ RS tApi_Row w χ a1 o_.Rows c1 ∧ Amb w χ) (fun s => μ1 s.1 s.2) (⟨[r112], 0⟩) ?_ ?_
   ·exact ⟨ρ, _, (some ⟨b116, 0, none⟩), 1, hm0, hS.sl _, hO, h119, h1, hAmb⟩
   ·rintro ⟨lines_128, x_133⟩ a w156 ⟨ρ, χ155, a129, c130, hI, hS, hO, h131, h132, hAmb⟩
    replace hm := hm lines_128 x_133 hI
    clear hI hm0
    refine rP T hS ⟨[(6, .f (.func 50) [] []), (7, Sl a129 lines_128 c130), (31, Sl a1 o_.Rows c1), (32, I ((o_.Rows.length : Nat) : Int)), (33, I x_133), (34, B (decide (x_133 < ((o_.Rows.length : Nat) : Int))))], []⟩ fun a hS => ?_
    refine wseq ?_
    refine wcond hS (b := decide (x_133 < ((o_.Rows.length : Nat) : Int))) kr (fun hb => ?_) (fun hb => ?_)
    ·replace hm := hm.1 hb
     refine wskip ?_
     refine wseq ?_
     refine wblock ?_
     refine regO ?_
     obtain ⟨hq, hm⟩ := hm
     refine op1 (index (e := 99) (k := .i64) T hS kr kr kr kr h132 kr kr hq.1 hq.2 ?_)
     intro A134 a h135 hS
     clear hq
     refine op1 (loadA T hS kr kr kr h135 kr kr ?_)
     intro v136 a hv hS
     subst hv
     refine eM T hS ⟨[(6, .f (.func 50) [] []), (7, Sl a129 lines_128 c130), (9, Pt 10 0), (31, Sl a1 o_.Rows c1), (32, I ((o_.Rows.length : Nat) : Int)), (33, I x_133)], [(10, (99, [I ((gi o_.Rows x_133).State), I ((gi o_.Rows x_133).Kind), I ((gi o_.Rows x_133).Next), I ((gi o_.Rows x_133).Result)]))]⟩ fun ρ a w153 χ154 hS hE hr => ?_
     replace hO := hO.mv hE rfl rfl
     replace h131 := h131.mv hE rfl rfl
     replace h132 := h132.mv hE rfl
     replace hAmb := hAmb.mv hE rfl
     clear hE hr
     refine region ?_
     refine oP T hS 3 ⟨[(6, .f (.func 50) [] []), (7, Sl a129 lines_128 c130), (31, Sl a1 o_.Rows c1), (32, I ((o_.Rows.length : Nat) : Int)), (33, I x_133), (37, Sl a129 lines_128 c130), (38, .f (.func 50) [] []), (39, V (.agg #[.int .i64 ((gi o_.Rows x_133).State), .int .i64 ((gi o_.Rows x_133).Kind), .int .i64 ((gi o_.Rows x_133).Next), .int .i64 ((gi o_.Rows x_133).Result)]))], []⟩ fun a hS => ?_
     obtain ⟨hq, hm⟩ := hm
     refine op1 (callC (fi := []) (cp := []) hS kr kr hb50 kr kr (fun _ _ => rfl) (k50 _ _ (⟨(gi o_.Rows x_133).State, (gi o_.Rows x_133).Kind, (gi o_.Rows x_133).Next, (gi o_.Rows x_133).Result⟩ : Api_Row) hq hAmb) ?_)
     intro v137 a w138 χ139 hE hp hS
     clear hq
     replace hO := hO.mv hE rfl rfl
     replace h131 := h131.mv hE rfl rfl
     replace h132 := h132.mv hE rfl
     replace hAmb := hAmb.mv hE rfl
     clear hE
     obtain ⟨a141, c142, hp, h143⟩ := hp
     obtain ⟨r140, hr⟩ : ∃ r, objtext_printed_line (⟨(gi o_.Rows x_133).State, (gi o_.Rows x_133).Kind, (gi o_.Rows x_133).Next, (gi o_.Rows x_133).Result⟩ : Api_Row) = r := ⟨_, rfl⟩
     replace hm := hm r140 hr
     rw [hr] at hp h143
     clear hr
     subst hp
     replace hm := hm (h143.sm kr)
     refine op1 (lit (E := 47) (col := 0) (T := (tSlice tToken_Token)) (vals := [.slice a141 r140.length c142]) (ys := [r140]) T hS kr kr kr kr (by exact ⟨⟨a141, c142, rfl, h143⟩, trivial⟩) rfl kr kr kr kr ?_)
     intro b144 a w145 χ146 hE h147 hN hS
     clear hN
     replace hO := hO.mv hE rfl rfl
     replace h131 := h131.mv hE rfl rfl
     replace h132 := h132.mv hE rfl
     replace hAmb := hAmb.mv hE rfl
     replace h143 := h143.mv hE rfl
     clear hE
     replace h147 := h147.rs0
     obtain ⟨hq, hm⟩ := hm
     obtain ⟨news, hN⟩ := h147.src
     refine op1 (append (E := 47) (T := (tSlice tToken_Token)) (col := 1008) (xs := lines_128) T hS kr kr kr kr h131 hN kr kr kr kr hq ?_)
     intro a151 c152 a w148 χ149 hE h150 hS
     clear hq hN
     clear h131
     replace hO := hO.mv hE rfl rfl
     replace h132 := h132.mv hE rfl
     replace hAmb := hAmb.mv hE rfl
     replace h143 := h143.mv hE rfl
     replace h147 := h147.mv hE rfl
     clear hE
     refine eP T hS ⟨[(6, .f (.func 50) [] []), (7, Sl a151 (lines_128 ++ [r140]) c152), (31, Sl a1 o_.Rows c1), (32, I ((o_.Rows.length : Nat) : Int)), (33, I x_133)], []⟩ fun a hS => ?_
     refine region (eP T hS ⟨[(6, .f (.func 50) [] []), (7, Sl a151 (lines_128 ++ [r140]) c152), (31, Sl a1 o_.Rows c1), (32, I ((o_.Rows.length : Nat) : Int)), (33, I (IntKind.i64.wrap (x_133 + 1)))], []⟩ fun a hS => ?_)
     exact ⟨⟨lines_128 ++ [r140], IntKind.i64.wrap (x_133 + 1)⟩, ⟨ρ, _, a151, c152, hm.1, hS.sl _, hO, h150, h132, hAmb⟩, hm.2⟩
    ·replace hm := hm.2 hb
     refine wexit (by rfl) ?_
     exact ⟨ρ, _, lines_128, a129, c130, hm, hS.sl _, hO, h131, hAmb⟩
  ·rintro a w158 ⟨ρ, χ157, lines_120, a121, c122, hm, hS, hO, h123, hAmb⟩
   unfold VC25_J1 at hm
   refine regO ?_
   refine oP T hS 1 ⟨[(44, Sl a121 lines_120 c122)], []⟩ fun a hS => ?_
   obtain ⟨hq, hm⟩ := hm
   refine op1 (call hS kr kr hb52 kr (fun _ _ => rfl) (Ret.unlend (k52 _ (lend 1008 _) lines_120 a121 c122 hq h123.lend)) ?_)
   intro v124 a w125 χ126 hE hp hS
   clear hq
   replace hO := hO.mv hE rfl rfl
   replace h123 := h123.mv hE rfl rfl
   replace hAmb := hAmb.mv hE rfl
   clear hE
   obtain ⟨_, hp⟩ := hp
   obtain ⟨r127, hr⟩ : ∃ r, token_Join lines_120 = r := ⟨_, rfl⟩
   replace hm := hm r127 hr
   rw [hr] at hp
   clear hr
   subst hp
   refine eP T hS ⟨[(2, Z r127), (3, I 0)], []⟩ fun a hS => ?_
   refine wret ?_
   exact fin T hS hO (fun c => c) rfl (r := [.string (bs r127), .int .i64 0]) kr (fun χ' hM hC => ⟨(r127, 0), hm, rfl⟩)
theorem C25 (k32 : S32) (k50 : S50) (k51 : S51) (k52 : S52) (v : ∀ (o_ : Api_Object), prePr o_ → VC25 o_ (fun r => r = objtext_Print o_)) : S25 := by
 intro w χ o_ a1 c1   hp h1 hAmb
 refine (W25 k32 k50 k51 k52 w χ o_ a1 c1   _ (v o_ hp) h1 hAmb).mono ?_
 rintro _ _ _ _ ⟨r, rfl, h⟩
 exact h
/-- replevin/event.alone -/
theorem W59 (w0 : World) (χ0 : Nat → Nat) (x_ : Api_Event) (Q : Int → Prop) (hm : VC59 x_ Q) :
  Ret Tryd.prog 59 #[.agg #[.int .i64 x_.What, .int .i64 x_.Prc, .int .i64 x_.N]] xnone w0 χ0 (fun w χ' v => ∃ r, Q r ∧ v = .int .i64 r) := by
 unfold VC59 at hm
 refine enter Tryd.func59 rfl (vals := [.agg #[.int .i64 x_.What, .int .i64 x_.Prc, .int .i64 x_.N]]) kr ?_
 intro ρ a hS hO hM
 clear hM
 refine rM T hS ⟨[(1, Pt 2 0)], [(2, (51, [I x_.What, I x_.Prc, I x_.N]))]⟩ fun ρ a w101 χ102 hS hE hr => ?_
 replace hO := hO.mv hE rfl rfl
 clear hE hr
 refine wseq ?_
 refine wblock ?_
 refine rP T hS ⟨[(1, Pt 2 0), (3, B ((x_.What != 1) && (x_.What != 2)))], [(2, (51, [I x_.What, I x_.Prc, I x_.N]))]⟩ (sp := [7]) fun a hS => ?_
 refine wcond hS (b := ((x_.What != 1) && (x_.What != 2))) kr (fun hb => ?_) (fun hb => ?_)
 ·replace hm := hm.1 hb
  refine rP T hS ⟨[(2, I 8)], []⟩ fun a hS => ?_
  refine wret ?_
  exact fin T hS hO (fun c => c) rfl (r := [.int .i64 8]) kr (fun χ' hM hC => ⟨8, hm, rfl⟩)
 ·replace hm := hm.2 hb
  refine rP T hS ⟨[(1, Pt 2 0), (12, B ((decide (x_.Prc < 1)) || (decide (x_.Prc > 1000))))], [(2, (51, [I x_.What, I x_.Prc, I x_.N]))]⟩ (sp := [16]) fun a hS => ?_
  refine wcond hS (b := ((decide (x_.Prc < 1)) || (decide (x_.Prc > 1000)))) kr (fun hb => ?_) (fun hb => ?_)
  ·replace hm := hm.1 hb
   refine rP T hS ⟨[(2, I 2)], []⟩ fun a hS => ?_
   refine wret ?_
   exact fin T hS hO (fun c => c) rfl (r := [.int .i64 2]) kr (fun χ' hM hC => ⟨2, hm, rfl⟩)
  ·replace hm := hm.2 hb
   refine rP T hS ⟨[(1, Pt 2 0), (21, B ((x_.What == 1) && ((decide (x_.N < 0)) || (decide (x_.N ≥ 64)))))], [(2, (51, [I x_.What, I x_.Prc, I x_.N]))]⟩ (sp := [25, 29]) fun a hS => ?_
   refine wcond hS (b := ((x_.What == 1) && ((decide (x_.N < 0)) || (decide (x_.N ≥ 64))))) kr (fun hb => ?_) (fun hb => ?_)
   ·replace hm := hm.1 hb
    refine rP T hS ⟨[(2, I 31)], []⟩ fun a hS => ?_
    refine wret ?_
    exact fin T hS hO (fun c => c) rfl (r := [.int .i64 31]) kr (fun χ' hM hC => ⟨31, hm, rfl⟩)
   ·replace hm := hm.2 hb
    refine rP T hS ⟨[(35, B ((x_.What == 2) && ((decide (x_.N < 0)) || (decide (x_.N > 1000000)))))], []⟩ (sp := [39, 43]) fun a hS => ?_
    refine wcond hS (b := ((x_.What == 2) && ((decide (x_.N < 0)) || (decide (x_.N > 1000000))))) kr (fun hb => ?_) (fun hb => ?_)
    ·replace hm := hm.1 hb
     refine rP T hS ⟨[(2, I 7)], []⟩ fun a hS => ?_
     refine wret ?_
     exact fin T hS hO (fun c => c) rfl (r := [.int .i64 7]) kr (fun χ' hM hC => ⟨7, hm, rfl⟩)
    ·replace hm := hm.2 hb
     refine wskip ?_
     refine rP T hS ⟨[(2, I 0)], []⟩ fun a hS => ?_
     refine wret ?_
     exact fin T hS hO (fun c => c) rfl (r := [.int .i64 0]) kr (fun χ' hM hC => ⟨0, hm, rfl⟩)
theorem C59 (v : ∀ (x_ : Api_Event), VC59 x_ (fun r => r = event_alone x_)) : S59 := by
 intro w χ x_    
 refine (W59 w χ x_    _ (v x_)).mono ?_
 rintro _ _ _ _ ⟨r, rfl, h⟩
 exact h
/-- replevin/event.Check -/
theorem W33 (k59 : S59) (w0 : World) (χ0 : Nat → Nat) (l_ : List Api_Event) (a1 : Option Addr) (c1 : Nat) (Q : Int × Int → Prop) (hm : VC33 l_ Q) (h1 : RS tApi_Event w0 χ0 a1 l_ c1) :
  Ret Tryd.prog 33 #[.slice a1 l_.length c1] xnone w0 χ0 (fun w χ' v => ∃ r, Q r ∧ v = .tuple #[.int .i64 r.1, .int .i64 r.2]) := by
 unfold VC33 at hm
 replace hm := hm (h1.sm kr)
 refine enter Tryd.func33 rfl (vals := [.slice a1 l_.length c1]) kr ?_
 intro ρ a hS hO hM
 replace h1 := h1.m0 hM
 clear hM
 refine rP T hS ⟨[(0, Sl a1 l_ c1)], []⟩ fun a hS => ?_
 refine wseq ?_
 refine rP T hS ⟨[(0, Sl a1 l_ c1), (10, B (decide (((l_.length : Nat) : Int) > 10000)))], []⟩ fun a hS => ?_
 refine wcond hS (b := decide (((l_.length : Nat) : Int) > 10000)) kr (fun hb => ?_) (fun hb => ?_)
 ·replace hm := hm.1 hb
  refine rP T hS ⟨[(2, I 0), (3, I 3)], []⟩ fun a hS => ?_
  refine wret ?_
  exact fin T hS hO (fun c => c) rfl (r := [.int .i64 0, .int .i64 3]) kr (fun χ' hM hC => ⟨(0, 3), hm, rfl⟩)
 ·replace hm := hm.2 hb
  refine wskip ?_
  refine regO ?_
  refine op1 (mkmap kI tI false 1012 hS kr kr ?_)
  intro r101 a w102 χ103 hE h104 hS
  replace hO := hO.mv hE rfl rfl
  replace h1 := h1.mv hE rfl
  clear hE
  refine eP T hS ⟨[(0, Sl a1 l_ c1), (4, V (.map (some r101)))], []⟩ fun a hS => ?_
  refine wcut (fun a w => ∃ (ρ : Nat → Nat) (χ : Nat → Nat), VC33_J1 l_ Q ∧ St Tryd.f33.ntmps ⟨[(0, Sl a1 l_ c1)], []⟩ ρ a w χ ∧ Old w0 χ0 w χ ∧ RS tApi_Event w χ a1 l_ c1) ?_ ?_
  ·refine rP T hS ⟨[(0, Sl a1 l_ c1), (4, V (.map (some r101))), (12, Sl a1 l_ c1), (13, I ((l_.length : Nat) : Int)), (14, I 0)], []⟩ fun a hS => ?_
   refine wblock ?_
   obtain ⟨I1, μ1, hm0, hm⟩ := hm
   refine wloop (σ := (List (Int × Int)) × Int) (fun s a w => ∃ (ρ : Nat → Nat) (χ : Nat → Nat), I1 s.1 s.2 ∧ St Tryd.f33.ntmps ⟨[(0, Sl a1 l_ c1), (4, V (.map (some r101))), (12, Sl a1 l_ c1), (13, I ((l_.length : Nat) : Int)), (14, I s.2)], []⟩ ρ a w χ ∧ Old w0 χ0 w χ ∧ RS tApi_Event w χ a1 l_ c1 ∧ OM kI tI false w χ 1012 r101 s.1 ∧ RS tApi_Event w χ a1 l_ c1) (fun s => μ1 s.1 s.2) (⟨([] : List (Int × Int)), 0⟩) ?_ ?_
   ·exact ⟨ρ, _, hm0, hS.sl _, hO, h1, h104, h1⟩
   ·rintro ⟨open_107, x_110⟩ a w124 ⟨ρ, χ123, hI, hS, hO, h106, h108, h109⟩
    replace hm := hm open_107 x_110 hI
    clear hI hm0
    refine rP T hS ⟨[(0, Sl a1 l_ c1), (4, V (.map (some r101))), (12, Sl a1 l_ c1), (13, I ((l_.length : Nat) : Int)), (14, I x_110), (15, B (decide (x_110 < ((l_.length : Nat) : Int))))], []⟩ fun a hS => ?_
    refine wseq ?_
    refine wcond hS (b := decide (x_110 < ((l_.length : Nat) : Int))) kr (fun hb => ?_) (fun hb => ?_)
    ·replace hm := hm.1 hb
     refine wskip ?_
     refine wseq ?_
     refine wblock ?_
     refine regO ?_
     refine oP T hS 1 ⟨[(0, Sl a1 l_ c1), (4, V (.map (some r101))), (12, Sl a1 l_ c1), (13, I ((l_.length : Nat) : Int)), (14, I x_110), (16, I x_110)], []⟩ fun a hS => ?_
     obtain ⟨hq, hm⟩ := hm
     refine op1 (index (e := 51) (k := .i64) T hS kr kr kr kr h109 kr kr hq.1 hq.2 ?_)
     intro A111 a h112 hS
     clear hq
     refine op1 (loadA T hS kr kr kr h112 kr kr ?_)
     intro v113 a hv hS
     subst hv
     refine eM T hS ⟨[(0, Sl a1 l_ c1), (4, V (.map (some r101))), (5, I x_110), (6, Pt 7 0), (12, Sl a1 l_ c1), (13, I ((l_.length : Nat) : Int)), (14, I x_110)], [(7, (51, [I ((gi l_ x_110).What), I ((gi l_ x_110).Prc), I ((gi l_ x_110).N)]))]⟩ fun ρ a w121 χ122 hS hE hr => ?_
     replace hO := hO.mv hE rfl rfl
     replace h106 := h106.mv hE rfl
     replace h108 := h108.mv hE rfl rfl
     replace h109 := h109.mv hE rfl
     clear hE hr
     refine wseq ?_
     refine regO ?_
     refine oP T hS 1 ⟨[(0, Sl a1 l_ c1), (4, V (.map (some r101))), (5, I x_110), (6, Pt 7 0), (12, Sl a1 l_ c1), (13, I ((l_.length : Nat) : Int)), (14, I x_110), (19, V (.agg #[.int .i64 ((gi l_ x_110).What), .int .i64 ((gi l_ x_110).Prc), .int .i64 ((gi l_ x_110).N)]))], [(7, (51, [I ((gi l_ x_110).What), I ((gi l_ x_110).Prc), I ((gi l_ x_110).N)]))]⟩ fun a hS => ?_
     refine op1 (call hS kr kr hb59 kr (fun _ _ => rfl) (k59 _ _ (gi l_ x_110)) ?_)
     intro v114 a w115 χ116 hE hp hS
     replace hO := hO.mv hE rfl rfl
     replace h106 := h106.mv hE rfl
     replace h108 := h108.mv hE rfl rfl
     replace h109 := h109.mv hE rfl
     clear hE
     obtain ⟨r117, hr⟩ : ∃ r, event_alone (gi l_ x_110) = r := ⟨_, rfl⟩
     replace hm := hm r117 hr
     rw [hr] at hp
     clear hr
     subst hp
     refine eP T hS ⟨[(0, Sl a1 l_ c1), (4, V (.map (some r101))), (5, I x_110), (6, Pt 7 0), (7, I r117), (12, Sl a1 l_ c1), (13, I ((l_.length : Nat) : Int)), (14, I x_110)], [(7, (51, [I ((gi l_ x_110).What), I ((gi l_ x_110).Prc), I ((gi l_ x_110).N)]))]⟩ fun a hS => ?_
     refine rP T hS ⟨[(0, Sl a1 l_ c1), (4, V (.map (some r101))), (5, I x_110), (6, Pt 7 0), (7, I r117), (12, Sl a1 l_ c1), (13, I ((l_.length : Nat) : Int)), (14, I x_110), (22, B (r117 != 0))], [(7, (51, [I ((gi l_ x_110).What), I ((gi l_ x_110).Prc), I ((gi l_ x_110).N)]))]⟩ fun a hS => ?_
     refine wcond hS (b := (r117 != 0)) kr (fun hb => ?_) (fun hb => ?_)
     ·replace hm := hm.1 hb
      refine rP T hS ⟨[(2, I x_110), (3, I r117)], []⟩ fun a hS => ?_
      refine wret ?_
      exact fin T hS hO (fun c => c) rfl (r := [.int .i64 x_110, .int .i64 r117]) kr (fun χ' hM hC => ⟨(x_110, r117), hm, rfl⟩)
     ·replace hm := hm.2 hb
      refine wskip ?_
      refine wseq ?_
      refine regO ?_
      refine oP T hS 3 ⟨[(0, Sl a1 l_ c1), (4, V (.map (some r101))), (5, I x_110), (6, Pt 7 0), (12, Sl a1 l_ c1), (13, I ((l_.length : Nat) : Int)), (14, I x_110), (25, V (.map (some r101))), (27, I ((gi l_ x_110).Prc))], [(7, (51, [I ((gi l_ x_110).What), I ((gi l_ x_110).Prc), I ((gi l_ x_110).N)]))]⟩ fun a hS => ?_
      refine op1 (mlook kI tI false (zv := .int .i64 0) (z := 0) ((gi l_ x_110).Prc) hS kr kr kr kr Tryd.underlying100 Tryd.underlying3 kr rfl h108 ?_)
      intro v118 a hv hS
      replace hv : tI.R _ _ [v118] _ := hv
      cases hv
      refine eP T hS ⟨[(0, Sl a1 l_ c1), (4, V (.map (some r101))), (5, I x_110), (6, Pt 7 0), (12, Sl a1 l_ c1), (13, I ((l_.length : Nat) : Int)), (14, I x_110), (33, B ((((mget open_107 ((gi l_ x_110).Prc)).getD 0) == 1) == (((gi l_ x_110).What) == 1)))], [(7, (51, [I ((gi l_ x_110).What), I ((gi l_ x_110).Prc), I ((gi l_ x_110).N)]))]⟩ fun a hS => ?_
      refine wcond hS (b := ((((mget open_107 ((gi l_ x_110).Prc)).getD 0) == 1) == (((gi l_ x_110).What) == 1))) kr (fun hb => ?_) (fun hb => ?_)
      ·replace hm := hm.1 hb
       refine rP T hS ⟨[(2, I x_110), (3, I 33)], []⟩ fun a hS => ?_
       refine wret ?_
       exact fin T hS hO (fun c => c) rfl (r := [.int .i64 x_110, .int .i64 33]) kr (fun χ' hM hC => ⟨(x_110, 33), hm, rfl⟩)
      ·replace hm := hm.2 hb
       refine wskip ?_
       refine region ?_
       refine oP T hS 5 ⟨[(0, Sl a1 l_ c1), (4, V (.map (some r101))), (12, Sl a1 l_ c1), (13, I ((l_.length : Nat) : Int)), (14, I x_110), (35, V (.map (some r101))), (37, I ((gi l_ x_110).Prc)), (39, I ((gi l_ x_110).What))], []⟩ fun a hS => ?_
       refine op1 (mset kI tI false (v := I ((gi l_ x_110).What)) (u := (gi l_ x_110).What) ((gi l_ x_110).Prc) hS kr kr kr kr Tryd.underlying100 Tryd.underlying3 kr h108 rfl ?_)
       intro a w119 hE h120 hS
       clear h108
       replace hO := hO.mv hE rfl rfl
       replace h106 := h106.mv hE rfl
       replace h109 := h109.mv hE rfl
       clear hE
       refine doneK ?_
       refine region (eP T hS ⟨[(0, Sl a1 l_ c1), (4, V (.map (some r101))), (12, Sl a1 l_ c1), (13, I ((l_.length : Nat) : Int)), (14, I (IntKind.i64.wrap (x_110 + 1)))], []⟩ fun a hS => ?_)
       exact ⟨⟨mput open_107 ((gi l_ x_110).Prc) ((gi l_ x_110).What), IntKind.i64.wrap (x_110 + 1)⟩, ⟨ρ, _, hm.1, hS.sl _, hO, h106, h120, h109⟩, hm.2⟩
    ·replace hm := hm.2 hb
     refine wexit (by rfl) ?_
     exact ⟨ρ, _, hm, hS.sl _, hO, h106⟩
  ·rintro a w126 ⟨ρ, χ125, hm, hS, hO, h105⟩
   unfold VC33_J1 at hm
   refine rP T hS ⟨[(2, I ((l_.length : Nat) : Int)), (3, I 0)], []⟩ fun a hS => ?_
   refine wret ?_
   exact fin T hS hO (fun c => c) rfl (r := [.int .i64 ((l_.length : Nat) : Int), .int .i64 0]) kr (fun χ' hM hC => ⟨(((l_.length : Nat) : Int), 0), hm, rfl⟩)
theorem C33 (k59 : S59) (v : ∀ (l_ : List Api_Event), VC33 l_ (fun r => r = event_Check l_)) : S33 := by
 intro w χ l_ a1 c1   h1
 refine (W33 k59 w χ l_ a1 c1   _ (v l_) h1).mono ?_
 rintro _ _ _ _ ⟨r, rfl, h⟩
 exact h
/-- replevin/event.Kinds -/
theorem W34 (w0 : World) (χ0 : Nat → Nat) (l_ : List Api_Event) (a1 : Option Addr) (c1 : Nat) (Q : Int → Prop) (hm : VC34 l_ Q) (h1 : RS tApi_Event w0 χ0 a1 l_ c1) :
  Ret Tryd.prog 34 #[.slice a1 l_.length c1] xnone w0 χ0 (fun w χ' v => ∃ r, Q r ∧ v = .int .i64 r) := by
 unfold VC34 at hm
 replace hm := hm (h1.sm kr)
 refine enter Tryd.func34 rfl (vals := [.slice a1 l_.length c1]) kr ?_
 intro ρ a hS hO hM
 replace h1 := h1.m0 hM
 clear hM
 refine rP T hS ⟨[(0, Sl a1 l_ c1)], []⟩ fun a hS => ?_
 refine rP T hS ⟨[(0, Sl a1 l_ c1), (3, I (-1))], []⟩ fun a hS => ?_
 refine wcut (fun a w => ∃ (ρ : Nat → Nat) (χ : Nat → Nat) (most_101 : Int), VC34_J1 Q most_101 ∧ St Tryd.f34.ntmps ⟨[(3, I most_101)], []⟩ ρ a w χ ∧ Old w0 χ0 w χ) ?_ ?_
 ·refine rP T hS ⟨[(3, I (-1)), (6, Sl a1 l_ c1), (7, I ((l_.length : Nat) : Int)), (8, I 0)], []⟩ fun a hS => ?_
  refine wblock ?_
  obtain ⟨I1, μ1, hm0, hm⟩ := hm
  refine wloop (σ := Int × Int) (fun s a w => ∃ (ρ : Nat → Nat) (χ : Nat → Nat), I1 s.1 s.2 ∧ St Tryd.f34.ntmps ⟨[(3, I s.1), (6, Sl a1 l_ c1), (7, I ((l_.length : Nat) : Int)), (8, I s.2)], []⟩ ρ a w χ ∧ Old w0 χ0 w χ ∧ RS tApi_Event w χ a1 l_ c1) (fun s => μ1 s.1 s.2) (⟨(-1), 0⟩) ?_ ?_
  ·exact ⟨ρ, _, hm0, hS.sl _, hO, h1⟩
  ·rintro ⟨most_102, x_104⟩ a w115 ⟨ρ, χ114, hI, hS, hO, h103⟩
   replace hm := hm most_102 x_104 hI
   clear hI hm0
   refine rP T hS ⟨[(3, I most_102), (6, Sl a1 l_ c1), (7, I ((l_.length : Nat) : Int)), (8, I x_104), (9, B (decide (x_104 < ((l_.length : Nat) : Int))))], []⟩ fun a hS => ?_
   refine wseq ?_
   refine wcond hS (b := decide (x_104 < ((l_.length : Nat) : Int))) kr (fun hb => ?_) (fun hb => ?_)
   ·replace hm := hm.1 hb
    refine wskip ?_
    refine wcut (fun a w => ∃ (ρ : Nat → Nat) (χ : Nat → Nat) (most_105 : Int), VC34_J2 I1 μ1 most_102 x_104 most_105 ∧ St Tryd.f34.ntmps ⟨[(3, I most_105), (6, Sl a1 l_ c1), (7, I ((l_.length : Nat) : Int)), (8, I x_104)], []⟩ ρ a w χ ∧ Old w0 χ0 w χ ∧ RS tApi_Event w χ a1 l_ c1) ?_ ?_
    ·refine wblock ?_
     refine regO ?_
     obtain ⟨hq, hm⟩ := hm
     refine op1 (index (e := 51) (k := .i64) T hS kr kr kr kr h103 kr kr hq.1 hq.2 ?_)
     intro A107 a h108 hS
     clear hq
     refine op1 (loadA T hS kr kr kr h108 kr kr ?_)
     intro v109 a hv hS
     subst hv
     refine eM T hS ⟨[(3, I most_102), (5, Pt 6 0), (6, Sl a1 l_ c1), (7, I ((l_.length : Nat) : Int)), (8, I x_104)], [(6, (51, [I ((gi l_ x_104).What), I ((gi l_ x_104).Prc), I ((gi l_ x_104).N)]))]⟩ fun ρ a w110 χ111 hS hE hr => ?_
     replace hO := hO.mv hE rfl rfl
     replace h103 := h103.mv hE rfl
     clear hE hr
     refine rP T hS ⟨[(3, I most_102), (5, Pt 6 0), (6, Sl a1 l_ c1), (7, I ((l_.length : Nat) : Int)), (8, I x_104), (14, B (((gi l_ x_104).What) == 1))], [(6, (51, [I ((gi l_ x_104).What), I ((gi l_ x_104).Prc), I ((gi l_ x_104).N)]))]⟩ fun a hS => ?_
     refine wcond hS (b := (((gi l_ x_104).What) == 1)) kr (fun hb => ?_) (fun hb => ?_)
     ·replace hm := hm.1 hb
      refine region (eP T hS ⟨[(3, I (if (if 63 < ((gi l_ x_104).N) then 63 else ((gi l_ x_104).N)) > most_102 then (if 63 < ((gi l_ x_104).N) then 63 else ((gi l_ x_104).N)) else most_102)), (6, Sl a1 l_ c1), (7, I ((l_.length : Nat) : Int)), (8, I x_104)], []⟩ fun a hS => ?_)
      exact ⟨ρ, _, if (if 63 < ((gi l_ x_104).N) then 63 else ((gi l_ x_104).N)) > most_102 then (if 63 < ((gi l_ x_104).N) then 63 else ((gi l_ x_104).N)) else most_102, hm, hS.sl _, hO, h103⟩
     ·replace hm := hm.2 hb
      refine wskip ?_
      exact ⟨ρ, _, most_102, hm, hS.sl _, hO, h103⟩
    ·rintro a w113 ⟨ρ, χ112, most_105, hm, hS, hO, h106⟩
     unfold VC34_J2 at hm
     refine region (eP T hS ⟨[(3, I most_105), (6, Sl a1 l_ c1), (7, I ((l_.length : Nat) : Int)), (8, I (IntKind.i64.wrap (x_104 + 1)))], []⟩ fun a hS => ?_)
     exact ⟨⟨most_105, IntKind.i64.wrap (x_104 + 1)⟩, ⟨ρ, _, hm.1, hS.sl _, hO, h106⟩, hm.2⟩
   ·replace hm := hm.2 hb
    refine wexit (by rfl) ?_
    exact ⟨ρ, _, most_102, hm, hS.sl _, hO⟩
 ·rintro a w117 ⟨ρ, χ116, most_101, hm, hS, hO⟩
  unfold VC34_J1 at hm
  refine rP T hS ⟨[(2, I (IntKind.i64.wrap (most_101 + 1)))], []⟩ fun a hS => ?_
  refine wret ?_
  exact fin T hS hO (fun c => c) rfl (r := [.int .i64 (IntKind.i64.wrap (most_101 + 1))]) kr (fun χ' hM hC => ⟨(IntKind.i64.wrap (most_101 + 1)), hm, rfl⟩)
theorem C34 (v : ∀ (l_ : List Api_Event), VC34 l_ (fun r => r = event_Kinds l_)) : S34 := by
 intro w χ l_ a1 c1   h1
 refine (W34 w χ l_ a1 c1   _ (v l_) h1).mono ?_
 rintro _ _ _ _ ⟨r, rfl, h⟩
 exact h
/-- replevin/histtext.Check -/
theorem W14 (k32 : S32) (k33 : S33) (k34 : S34) (w0 : World) (χ0 : Nat → Nat) (c_ : Histtext_Case) (a1 : Option Addr) (c1 : Nat) (a2 : Option Addr) (c2 : Nat) (Q : Int → Prop) (hm : VC14 c_ Q) (h1 : RS tApi_Row w0 χ0 a1 c_.Object.Rows c1) (h2 : RS tApi_Event w0 χ0 a2 c_.Events c2) :
  Ret Tryd.prog 14 #[.agg #[.int .i64 c_.Object.States, .int .i64 c_.Object.Kinds, .int .i64 c_.Object.Init, .slice a1 c_.Object.Rows.length c1, .slice a2 c_.Events.length c2]] xnone w0 χ0 (fun w χ' v => ∃ r, Q r ∧ v = .int .i64 r) := by
 unfold VC14 at hm
 replace hm := hm (h1.sm kr)
 replace hm := hm (h2.sm kr)
 refine enter Tryd.func14 rfl (vals := [.agg #[.int .i64 c_.Object.States, .int .i64 c_.Object.Kinds, .int .i64 c_.Object.Init, .slice a1 c_.Object.Rows.length c1, .slice a2 c_.Events.length c2]]) kr ?_
 intro ρ a hS hO hM
 replace h1 := h1.m0 hM
 replace h2 := h2.m0 hM
 clear hM
 refine rM T hS ⟨[(1, Pt 2 0)], [(2, (28, [I c_.Object.States, I c_.Object.Kinds, I c_.Object.Init, Sl a1 c_.Object.Rows c1, Sl a2 c_.Events c2]))]⟩ fun ρ a w115 χ116 hS hE hr => ?_
 replace hO := hO.mv hE rfl rfl
 replace h1 := h1.mv hE rfl
 replace h2 := h2.mv hE rfl
 clear hE hr
 refine wseq ?_
 refine regO ?_
 refine oP T hS 2 ⟨[(1, Pt 2 0), (9, V (.agg #[.int .i64 c_.Object.States, .int .i64 c_.Object.Kinds, .int .i64 c_.Object.Init, .slice a1 c_.Object.Rows.length c1]))], [(2, (28, [I c_.Object.States, I c_.Object.Kinds, I c_.Object.Init, Sl a1 c_.Object.Rows c1, Sl a2 c_.Events c2]))]⟩ fun a hS => ?_
 obtain ⟨hq, hm⟩ := hm
 refine op1 (call hS kr kr hb32 kr (fun _ _ => rfl) (k32 _ _ c_.Object a1 c1 hq h1) ?_)
 intro v101 a w102 χ103 hE hp hS
 clear hq
 replace hO := hO.mv hE rfl rfl
 replace h1 := h1.mv hE rfl
 replace h2 := h2.mv hE rfl
 clear hE
 obtain ⟨r104, hr⟩ : ∃ r, object_Check c_.Object = r := ⟨_, rfl⟩
 replace hm := hm r104 hr
 rw [hr] at hp
 clear hr
 subst hp
 refine eP T hS ⟨[(1, Pt 2 0), (4, I r104.2)], [(2, (28, [I c_.Object.States, I c_.Object.Kinds, I c_.Object.Init, Sl a1 c_.Object.Rows c1, Sl a2 c_.Events c2]))]⟩ fun a hS => ?_
 refine rP T hS ⟨[(1, Pt 2 0), (4, I r104.2), (14, B (r104.2 != 0))], [(2, (28, [I c_.Object.States, I c_.Object.Kinds, I c_.Object.Init, Sl a1 c_.Object.Rows c1, Sl a2 c_.Events c2]))]⟩ fun a hS => ?_
 refine wcond hS (b := (r104.2 != 0)) kr (fun hb => ?_) (fun hb => ?_)
 ·replace hm := hm.1 hb
  refine rP T hS ⟨[(2, I r104.2)], []⟩ fun a hS => ?_
  refine wret ?_
  exact fin T hS hO (fun c => c) rfl (r := [.int .i64 r104.2]) kr (fun χ' hM hC => ⟨r104.2, hm, rfl⟩)
 ·replace hm := hm.2 hb
  refine wskip ?_
  refine wseq ?_
  refine regO ?_
  refine oP T hS 2 ⟨[(1, Pt 2 0), (18, Sl a2 c_.Events c2)], [(2, (28, [I c_.Object.States, I c_.Object.Kinds, I c_.Object.Init, Sl a1 c_.Object.Rows c1, Sl a2 c_.Events c2]))]⟩ fun a hS => ?_
  refine op1 (call hS kr kr hb33 kr (fun _ _ => rfl) (k33 _ _ c_.Events a2 c2 h2) ?_)
  intro v105 a w106 χ107 hE hp hS
  replace hO := hO.mv hE rfl rfl
  replace h1 := h1.mv hE rfl
  replace h2 := h2.mv hE rfl
  clear hE
  obtain ⟨r108, hr⟩ : ∃ r, event_Check c_.Events = r := ⟨_, rfl⟩
  replace hm := hm r108 hr
  rw [hr] at hp
  clear hr
  subst hp
  refine eP T hS ⟨[(1, Pt 2 0), (6, I r108.2)], [(2, (28, [I c_.Object.States, I c_.Object.Kinds, I c_.Object.Init, Sl a1 c_.Object.Rows c1, Sl a2 c_.Events c2]))]⟩ fun a hS => ?_
  refine rP T hS ⟨[(1, Pt 2 0), (6, I r108.2), (23, B (r108.2 != 0))], [(2, (28, [I c_.Object.States, I c_.Object.Kinds, I c_.Object.Init, Sl a1 c_.Object.Rows c1, Sl a2 c_.Events c2]))]⟩ fun a hS => ?_
  refine wcond hS (b := (r108.2 != 0)) kr (fun hb => ?_) (fun hb => ?_)
  ·replace hm := hm.1 hb
   refine rP T hS ⟨[(2, I r108.2)], []⟩ fun a hS => ?_
   refine wret ?_
   exact fin T hS hO (fun c => c) rfl (r := [.int .i64 r108.2]) kr (fun χ' hM hC => ⟨r108.2, hm, rfl⟩)
  ·replace hm := hm.2 hb
   refine wskip ?_
   refine wseq ?_
   refine drawnSX [2] mixed hS ?_
   intro w109 χ110 hS hE hD hH
   replace hO := hO.mv hE rfl rfl
   replace h1 := h1.mv hE rfl
   replace h2 := h2.mv hE rfl
   clear hE
   refine tk T [0, 3, 1, 4, 5] [2] hS hH #[true, true, false, true, true, true, false] 2 ⟨[(26, Sl a2 c_.Events c2), (30, I c_.Object.Kinds)], [(2, (28, [I c_.Object.States, I c_.Object.Kinds, I c_.Object.Init, Sl a1 c_.Object.Rows c1, Sl a2 c_.Events c2]))]⟩ fun a hS => ?_
   refine only 2 kr (by rfl) (call hS kr kr hb34 kr (fun _ _ => rfl) (k34 _ _ c_.Events a2 c2 h2) ?_)
   intro v111 a w112 χ113 hE hp hS
   replace hO := hO.mv hE rfl rfl
   replace hD := hD.ev hE rfl
   replace h1 := h1.mv hE rfl
   replace h2 := h2.mv hE rfl
   clear hE
   obtain ⟨r114, hr⟩ : ∃ r, event_Kinds c_.Events = r := ⟨_, rfl⟩
   replace hm := hm r114 hr
   rw [hr] at hp
   clear hr
   subst hp
   replace hS := hS.sl ⟨[(26, Sl a2 c_.Events c2), (30, I c_.Object.Kinds), (27, I r114)], [(2, (28, [I c_.Object.States, I c_.Object.Kinds, I c_.Object.Init, Sl a1 c_.Object.Rows c1, Sl a2 c_.Events c2]))]⟩
   refine andH (Hold.of hS (bks := [2]) kr hD) ?_
   intro hH
   refine tk T [6] [2] hS hH #[true, true, true, true, true, true, true] 0 ⟨[(31, B (decide (r114 > c_.Object.Kinds)))], [(2, (28, [I c_.Object.States, I c_.Object.Kinds, I c_.Object.Init, Sl a1 c_.Object.Rows c1, Sl a2 c_.Events c2]))]⟩ fun a hS => ?_
   refine drawnDone kr ?_
   clear hD hH
   replace hS := hS.sl ⟨[(31, B (decide (r114 > c_.Object.Kinds)))], []⟩
   refine wcond hS (b := decide (r114 > c_.Object.Kinds)) kr (fun hb => ?_) (fun hb => ?_)
   ·replace hm := hm.1 hb
    refine rP T hS ⟨[(2, I 31)], []⟩ fun a hS => ?_
    refine wret ?_
    exact fin T hS hO (fun c => c) rfl (r := [.int .i64 31]) kr (fun χ' hM hC => ⟨31, hm, rfl⟩)
   ·replace hm := hm.2 hb
    refine wskip ?_
    refine rP T hS ⟨[(2, I 0)], []⟩ fun a hS => ?_
    refine wret ?_
    exact fin T hS hO (fun c => c) rfl (r := [.int .i64 0]) kr (fun χ' hM hC => ⟨0, hm, rfl⟩)
theorem C14 (k32 : S32) (k33 : S33) (k34 : S34) (v : ∀ (c_ : Histtext_Case), preHc c_ → VC14 c_ (fun r => r = histtext_Check c_)) : S14 := by
 intro w χ c_ a1 c1 a2 c2   hp h1 h2
 refine (W14 k32 k33 k34 w χ c_ a1 c1 a2 c2   _ (v c_ hp) h1 h2).mono ?_
 rintro _ _ _ _ ⟨r, rfl, h⟩
 exact h
/-- replevin/histtext.reader$1 -/
theorem W43 (k42 : S42) (w0 : World) (χ0 : Nat → Nat) (l_ : List Token_Token) (cap1 : Api_Object) (cap2 : Int) (cap3 : List (Int × Int)) (a1 : Option Addr) (c1 : Nat) (a2 : Option Addr) (c2 : Nat) (r3 : Nat) (m3 : Nat) (b1 : Nat) (i1 : Nat) (b2 : Nat) (i2 : Nat) (b3 : Nat) (i3 : Nat) (Q : Api_Event × Int × Int × (List (Int × Int)) → Prop) (hm : VC43 l_ cap1 cap2 cap3 Q) (h1 : RS tToken_Token w0 χ0 a1 l_ c1) (h2 : RS tApi_Row w0 χ0 a2 cap1.Rows c2) (h3 : OM kI tI false w0 χ0 m3 r3 cap3) (hc1 : Cell w0 χ0 b1 i1 25 [.int .i64 cap1.States, .int .i64 cap1.Kinds, .int .i64 cap1.Init, .slice a2 cap1.Rows.length c2]) (hc2 : Cell w0 χ0 b2 i2 3 [.int .i64 cap2]) (hc3 : Cell w0 χ0 b3 i3 100 [.map (some r3)]) (hA : Apart [i1, i2, i3, m3]) :
  Ret Tryd.prog 43 #[.slice a1 l_.length c1, .pointer (some ⟨b1, 0, none⟩), .pointer (some ⟨b2, 0, none⟩), .pointer (some ⟨b3, 0, none⟩)] (pR [i1, i2, i3, m3]) w0 χ0 (fun w χ' v => ∃ r, Q r ∧ v = .tuple #[.agg #[.int .i64 r.1.What, .int .i64 r.1.Prc, .int .i64 r.1.N], .int .i64 r.2.1, .int .i64 r.2.2.1] ∧ Cell w χ' b1 i1 25 [.int .i64 cap1.States, .int .i64 cap1.Kinds, .int .i64 cap1.Init, .slice a2 cap1.Rows.length c2] ∧ Cell w χ' b2 i2 3 [.int .i64 cap2] ∧ Cell w χ' b3 i3 100 [.map (some r3)] ∧ OM kI tI false w χ' m3 r3 r.2.2.2) := by
 unfold VC43 at hm
 replace hm := hm (h1.sm kr)
 replace hm := hm (h2.sm kr)
 refine enterR Tryd.func43 rfl (f0of [(i1, 901), (i2, 902), (i3, 903), (m3, 2003)]) (fun id => (bif Nat.beq id 901 then b1 else (bif Nat.beq id 902 then b2 else (bif Nat.beq id 903 then b3 else 0)))) (args := [Sl a1 l_ c1, Pt 901 0, Pt 902 0, Pt 903 0]) (bxs := [(901, (25, [I cap1.States, I cap1.Kinds, I cap1.Init, Sl a2 cap1.Rows c2])), (902, (3, [I cap2])), (903, (100, [V (.map (some r3))]))]) kr rfl (BoxesOK.cons kr (hc1.map (f0of_at 0 hA.1 rfl)) (BoxesOK.cons kr (hc2.map (f0of_at 1 hA.1 rfl)) (BoxesOK.cons kr (hc3.map (f0of_at 2 hA.1 rfl)) BoxesOK.nil))) (f0of_0 (fun q hq => (hA.2 q.1 (List.mem_map.2 ⟨q, hq, rfl⟩)).1)) ?_
 intro a hS hO hM
 have hP : Pin [(901, b1), (902, b2), (903, b3)] (fun id => (bif Nat.beq id 901 then b1 else (bif Nat.beq id 902 then b2 else (bif Nat.beq id 903 then b3 else 0)))) := by intro q hq; simp at hq; rcases hq with rfl | rfl | rfl <;> rfl
 generalize (fun id => (bif Nat.beq id 901 then b1 else (bif Nat.beq id 902 then b2 else (bif Nat.beq id 903 then b3 else 0)))) = ρ at hS hP
 clear hc1 hc2 hc3
 replace h1 := h1.m0 hM
 replace h2 := h2.m0 hM
 replace h3 := h3.map (f := f0of [(i1, 901), (i2, 902), (i3, 903), (m3, 2003)]) (f0of_at 3 hA.1 rfl) hM
 clear hM
 refine rM T hS ⟨[(0, Sl a1 l_ c1), (1, Pt 901 0), (2, Pt 902 0), (3, Pt 903 0), (5, Pt 6 0)], [(6, (51, [I 0, I 0, I 0])), (901, (25, [I cap1.States, I cap1.Kinds, I cap1.Init, Sl a2 cap1.Rows c2])), (902, (3, [I cap2])), (903, (100, [V (.map (some r3))]))]⟩ fun ρ a w190 χ191 hS hE hr => ?_
 replace hO := hO.mv hE rfl rfl
 replace h1 := h1.mv hE rfl
 replace h2 := h2.mv hE rfl
 replace h3 := h3.mv hE rfl rfl
 replace hP := hP.mv hr kr
 clear hE hr
 refine rM T hS ⟨[(0, Sl a1 l_ c1), (1, Pt 901 0), (2, Pt 902 0), (3, Pt 903 0), (5, Pt 6 0), (8, Pt 9 0)], [(6, (51, [I 0, I 0, I 0])), (9, (51, [I 2, I 0, I 0])), (901, (25, [I cap1.States, I cap1.Kinds, I cap1.Init, Sl a2 cap1.Rows c2])), (902, (3, [I cap2])), (903, (100, [V (.map (some r3))]))]⟩ fun ρ a w188 χ189 hS hE hr => ?_
 replace hO := hO.mv hE rfl rfl
 replace h1 := h1.mv hE rfl
 replace h2 := h2.mv hE rfl
 replace h3 := h3.mv hE rfl rfl
 replace hP := hP.mv hr kr
 clear hE hr
 refine regO ?_
 refine op1 (lit (E := 3) (col := 0) (T := tI) (vals := [.int .i64 1, .int .i64 0]) (ys := [1, 0]) T hS kr kr kr kr (by exact ⟨rfl, rfl, trivial⟩) rfl kr kr kr kr ?_)
 intro b101 a w102 χ103 hE h104 hN hS
 clear hN
 replace hO := hO.mv hE rfl rfl
 replace h1 := h1.mv hE rfl
 replace h2 := h2.mv hE rfl
 replace h3 := h3.mv hE rfl rfl
 clear hE
 replace h104 := h104.rs0
 refine op1 (lit (E := 3) (col := 1011) (T := tI) (vals := [.int .i64 1000, .int .i64 1000000]) (ys := [1000, 1000000]) T hS kr kr kr kr (by exact ⟨rfl, rfl, trivial⟩) rfl kr kr kr kr ?_)
 intro b105 a w106 χ107 hE h108 hN hS
 clear hN
 replace hO := hO.mv hE rfl rfl
 replace h1 := h1.mv hE rfl
 replace h2 := h2.mv hE rfl
 replace h3 := h3.mv hE rfl rfl
 replace h104 := h104.mv hE rfl
 clear hE
 refine eP T hS ⟨[(0, Sl a1 l_ c1), (1, Pt 901 0), (2, Pt 902 0), (3, Pt 903 0), (5, Pt 6 0), (8, Pt 9 0), (9, Sl (some ⟨b101, 0, none⟩) [1, 0] 2), (10, Sl (some ⟨b105, 0, none⟩) [1000, 1000000] 2)], [(6, (51, [I 0, I 0, I 0])), (9, (51, [I 2, I 0, I 0])), (901, (25, [I cap1.States, I cap1.Kinds, I cap1.Init, Sl a2 cap1.Rows c2])), (902, (3, [I cap2])), (903, (100, [V (.map (some r3))]))]⟩ fun a hS => ?_
 refine wcut (fun a w => ∃ (ρ : Nat → Nat) (χ : Nat → Nat) (hi_111 : List Int) (x_115 : Int) (a112 : Option Addr) (c113 : Nat), VC43_J1 l_ cap2 cap3 Q hi_111 x_115 ∧ St Tryd.f43.ntmps ⟨[(0, Sl a1 l_ c1), (2, Pt 902 0), (3, Pt 903 0), (5, Pt 6 0), (8, Pt 9 0), (9, Sl (some ⟨b101, 0, none⟩) [1, 0] 2), (10, Sl a112 hi_111 c113)], [(6, (51, [I 0, I 0, I 0])), (9, (51, [I x_115, I 0, I 0])), (901, (25, [I cap1.States, I cap1.Kinds, I cap1.Init, Sl a2 cap1.Rows c2])), (902, (3, [I cap2])), (903, (100, [V (.map (some r3))]))]⟩ ρ a w χ ∧ OldR (f0of [(i1, 901), (i2, 902), (i3, 903), (m3, 2003)]) w0 χ0 w χ ∧ Pin [(901, b1), (902, b2), (903, b3)] ρ ∧ RS tToken_Token w χ a1 l_ c1 ∧ RS tI w χ (some ⟨b101, 0, none⟩) [1, 0] 2 ∧ OS tI 3 w χ 1011 a112 hi_111 c113 ∧ RS tApi_Row w χ a2 cap1.Rows c2 ∧ OM kI tI false w χ 2003 r3 cap3) ?_ ?_
 ·refine regO ?_
  refine oP T hS 1 ⟨[(0, Sl a1 l_ c1), (1, Pt 901 0), (2, Pt 902 0), (3, Pt 903 0), (5, Pt 6 0), (8, Pt 9 0), (9, Sl (some ⟨b101, 0, none⟩) [1, 0] 2), (10, Sl (some ⟨b105, 0, none⟩) [1000, 1000000] 2), (17, Sl a1 l_ c1)], [(6, (51, [I 0, I 0, I 0])), (9, (51, [I 2, I 0, I 0])), (901, (25, [I cap1.States, I cap1.Kinds, I cap1.Init, Sl a2 cap1.Rows c2])), (902, (3, [I cap2])), (903, (100, [V (.map (some r3))]))]⟩ fun a hS => ?_
  obtain ⟨hq, hm⟩ := hm
  refine op1 (index (e := 49) (k := .i64) T hS kr kr kr kr h1 kr kr hq.1 hq.2 ?_)
  intro A164 a h165 hS
  clear hq
  refine op1 (fieldA (off := 2) (fsz := 1) (ft := 9) (TF := tStr) (y := (gi l_ 0).Text) T hS kr kr kr h165 kr kr kr (fun cs h => Token_Token_f2 h) ?_)
  intro A166 a h167 hS
  refine op1 (load1 T hS kr kr kr h167 rfl kr ?_)
  intro v168 a hv hS
  cases hv
  refine doneK ?_
  refine wblock ?_
  refine rP T hS ⟨[(0, Sl a1 l_ c1), (1, Pt 901 0), (2, Pt 902 0), (3, Pt 903 0), (5, Pt 6 0), (8, Pt 9 0), (9, Sl (some ⟨b101, 0, none⟩) [1, 0] 2), (10, Sl (some ⟨b105, 0, none⟩) [1000, 1000000] 2), (20, Z ((gi l_ 0).Text)), (26, B (((gi l_ 0).Text) == ([99, 97, 108, 108] : List UInt8)))], [(6, (51, [I 0, I 0, I 0])), (9, (51, [I 2, I 0, I 0])), (901, (25, [I cap1.States, I cap1.Kinds, I cap1.Init, Sl a2 cap1.Rows c2])), (902, (3, [I cap2])), (903, (100, [V (.map (some r3))]))]⟩ fun a hS => ?_
  refine wcond hS (b := (((gi l_ 0).Text) == ([99, 97, 108, 108] : List UInt8))) kr (fun hb => ?_) (fun hb => ?_)
  ·replace hm := hm.1 hb
   refine rM T hS ⟨[(0, Sl a1 l_ c1), (1, Pt 901 0), (2, Pt 902 0), (3, Pt 903 0), (5, Pt 6 0), (8, Pt 9 0), (9, Sl (some ⟨b101, 0, none⟩) [1, 0] 2), (10, Sl (some ⟨b105, 0, none⟩) [1000, 1000000] 2)], [(6, (51, [I 0, I 0, I 0])), (9, (51, [I 1, I 0, I 0])), (901, (25, [I cap1.States, I cap1.Kinds, I cap1.Init, Sl a2 cap1.Rows c2])), (902, (3, [I cap2])), (903, (100, [V (.map (some r3))]))]⟩ fun ρ a w175 χ176 hS hE hr => ?_
   replace hO := hO.mv hE rfl rfl
   replace h1 := h1.mv hE rfl
   replace h2 := h2.mv hE rfl
   replace h3 := h3.mv hE rfl rfl
   replace h104 := h104.mv hE rfl
   replace h108 := h108.mv hE rfl rfl
   replace hP := hP.mv hr kr
   clear hE hr
   refine region ?_
   refine oP T hS 4 ⟨[(0, Sl a1 l_ c1), (2, Pt 902 0), (3, Pt 903 0), (5, Pt 6 0), (8, Pt 9 0), (9, Sl (some ⟨b101, 0, none⟩) [1, 0] 2), (10, Sl (some ⟨b105, 0, none⟩) [1000, 1000000] 2), (29, Sl (some ⟨b105, 0, none⟩) [1000, 1000000] 2), (32, I (IntKind.i64.wrap (cap1.Kinds - 1)))], [(6, (51, [I 0, I 0, I 0])), (9, (51, [I 1, I 0, I 0])), (901, (25, [I cap1.States, I cap1.Kinds, I cap1.Init, Sl a2 cap1.Rows c2])), (902, (3, [I cap2])), (903, (100, [V (.map (some r3))]))]⟩ fun a hS => ?_
   obtain ⟨hq172, hm⟩ := hm
   refine op1 (indexX (E := 3) (k := .i64) T hS kr kr kr kr h108 kr kr hq172.1 hq172.2 ?_)
   intro A169 a h171 h170 hS
   refine op1 (storeO (x := IntKind.i64.wrap (cap1.Kinds - 1)) (v := I (IntKind.i64.wrap (cap1.Kinds - 1))) (i := (1 : Int).toNat) (E := 3) (xs := [1000, 1000000]) T hS kr kr kr kr h108 h171 (by have := hq172.1; have := hq172.2; omega) kr (fun _ _ _ => rfl) ?_)
   intro a w173 hE h174 hS
   clear h108 h171 h170 hq172
   replace hO := hO.mv hE rfl rfl
   replace h1 := h1.mv hE rfl
   replace h2 := h2.mv hE rfl
   replace h3 := h3.mv hE rfl rfl
   replace h104 := h104.mv hE rfl
   clear hE
   replace hS := hS.conv (t := 10) (y := .slice (some ⟨b105, 0, none⟩) ([1000, 1000000].set (1 : Int).toNat (IntKind.i64.wrap (cap1.Kinds - 1))).length 2) kr (by rw [List.length_set])
   replace hS := hS.conv (t := 29) (y := .slice (some ⟨b105, 0, none⟩) ([1000, 1000000].set (1 : Int).toNat (IntKind.i64.wrap (cap1.Kinds - 1))).length 2) kr (by rw [List.length_set])
   refine doneK ?_
   exact ⟨ρ, _, ([1000, 1000000].set (1 : Int).toNat (IntKind.i64.wrap (cap1.Kinds - 1))), 1, (some ⟨b105, 0, none⟩), 2, hm, hS.sl _, hO, hP, h1, h104, h174, h2, h3⟩
  ·replace hm := hm.2 hb
   refine rP T hS ⟨[(0, Sl a1 l_ c1), (2, Pt 902 0), (3, Pt 903 0), (5, Pt 6 0), (8, Pt 9 0), (9, Sl (some ⟨b101, 0, none⟩) [1, 0] 2), (10, Sl (some ⟨b105, 0, none⟩) [1000, 1000000] 2), (34, B (((gi l_ 0).Text) == ([114, 101, 116] : List UInt8)))], [(6, (51, [I 0, I 0, I 0])), (9, (51, [I 2, I 0, I 0])), (901, (25, [I cap1.States, I cap1.Kinds, I cap1.Init, Sl a2 cap1.Rows c2])), (902, (3, [I cap2])), (903, (100, [V (.map (some r3))]))]⟩ fun a hS => ?_
   refine wcond hS (b := (((gi l_ 0).Text) == ([114, 101, 116] : List UInt8))) kr (fun hb => ?_) (fun hb => ?_)
   ·replace hm := hm.1 hb
    refine wskip ?_
    exact ⟨ρ, _, [1000, 1000000], 2, (some ⟨b105, 0, none⟩), 2, hm, hS.sl _, hO, hP, h1, h104, h108, h2, h3⟩
   ·replace hm := hm.2 hb
    refine drawnSX [9, 901, 902, 903] mixed hS ?_
    intro w177 χ178 hS hE hD hH
    replace hO := hO.mv hE rfl rfl
    replace h1 := h1.mv hE rfl
    replace h2 := h2.mv hE rfl
    replace h3 := h3.mv hE rfl rfl
    clear hE
    refine tk T [0, 1] [9, 901, 902, 903] hS hH #[true, true, false, false, false, false, false, false] 6 ⟨[(5, Pt 6 0), (21, V (.agg #[.int .i64 2, .int .i64 0, .int .i64 0])), (22, Sl a1 l_ c1)], [(6, (51, [I 0, I 0, I 0])), (9, (51, [I 2, I 0, I 0])), (901, (25, [I cap1.States, I cap1.Kinds, I cap1.Init, Sl a2 cap1.Rows c2])), (902, (3, [I cap2])), (903, (100, [V (.map (some r3))]))]⟩ fun a hS => ?_
    obtain ⟨hq, hm⟩ := hm
    refine dindex (e := 49) (k := .i64) T 2 hS kr kr kr (by rfl) kr hH kr kr h1 kr kr hq.1 hq.2 ?_
    intro A179 a h180 hS
    clear hq
    have h180b := h180.here
    refine dfieldA (off := 1) (fsz := 1) (ft := 3) (TF := tI) (y := (gi l_ 0).At) 3 T hS kr kr kr (by rfl) kr hH kr h180 kr kr kr (fun cs h => Token_Token_f1 h) ?_
    intro A181 a h182 hbl hS
    have h182b := h180b
    rw [← hbl] at h182b
    clear hbl
    refine dload1 T 4 hS kr kr kr (by rfl) kr hH kr h182 h182b rfl kr ?_
    intro v183 a hv hS
    cases hv
    replace hS := hS.sl ⟨[(5, Pt 6 0), (21, V (.agg #[.int .i64 2, .int .i64 0, .int .i64 0])), (22, Sl a1 l_ c1), (23, V (.pointer (some A179))), (24, V (.pointer (some A181))), (25, I ((gi l_ 0).At))], [(6, (51, [I 0, I 0, I 0])), (9, (51, [I 2, I 0, I 0])), (901, (25, [I cap1.States, I cap1.Kinds, I cap1.Init, Sl a2 cap1.Rows c2])), (902, (3, [I cap2])), (903, (100, [V (.map (some r3))]))]⟩
    refine only 5 kr (by rfl) (store1 T hS kr kr (sy' := ⟨[(5, Pt 6 0), (21, V (.agg #[.int .i64 2, .int .i64 0, .int .i64 0])), (22, Sl a1 l_ c1), (23, V (.pointer (some A179))), (24, V (.pointer (some A181))), (25, I ((gi l_ 0).At))], [(6, (51, [I 2, I 0, I 0])), (6, (51, [I 0, I 0, I 0])), (9, (51, [I 2, I 0, I 0])), (901, (25, [I cap1.States, I cap1.Kinds, I cap1.Init, Sl a2 cap1.Rows c2])), (902, (3, [I cap2])), (903, (100, [V (.map (some r3))]))]⟩) kr ?_)
    intro a w184 χ185 hS hE
    replace hO := hO.mv hE rfl rfl
    replace hD := hD.ev hE rfl
    replace h1 := h1.mv hE rfl
    replace h2 := h2.mv hE rfl
    replace h3 := h3.mv hE rfl rfl
    replace h180 := h180.mv hE rfl
    replace h182 := h182.mv hE rfl
    clear hE
    replace hS := hS.sl ⟨[(5, Pt 6 0), (21, V (.agg #[.int .i64 2, .int .i64 0, .int .i64 0])), (22, Sl a1 l_ c1), (23, V (.pointer (some A179))), (24, V (.pointer (some A181))), (25, I ((gi l_ 0).At))], [(6, (51, [I 2, I 0, I 0])), (9, (51, [I 2, I 0, I 0])), (901, (25, [I cap1.States, I cap1.Kinds, I cap1.Init, Sl a2 cap1.Rows c2])), (902, (3, [I cap2])), (903, (100, [V (.map (some r3))]))]⟩
    refine andH (Hold.of hS (bks := [9, 901, 902, 903]) kr hD) ?_
    intro hH
    refine tk T [6, 7] [9, 901, 902, 903] hS hH #[true, true, true, true, true, true, true, true] 0 ⟨[(5, Pt 6 0), (6, I ((gi l_ 0).At)), (7, I 8)], [(6, (51, [I 2, I 0, I 0])), (9, (51, [I 2, I 0, I 0])), (901, (25, [I cap1.States, I cap1.Kinds, I cap1.Init, Sl a2 cap1.Rows c2])), (902, (3, [I cap2])), (903, (100, [V (.map (some r3))]))]⟩ fun a hS => ?_
    refine drawnDone kr ?_
    clear hD hH
    replace hS := hS.sl ⟨[(5, Pt 6 0), (6, I ((gi l_ 0).At)), (7, I 8)], [(6, (51, [I 2, I 0, I 0])), (901, (25, [I cap1.States, I cap1.Kinds, I cap1.Init, Sl a2 cap1.Rows c2])), (902, (3, [I cap2])), (903, (100, [V (.map (some r3))]))]⟩
    refine wret ?_
    exact finR T hS hO (fun c h => f0of_zero kr h) (fun c h => f0of_else (l := [(i1, 901), (i2, 902), (i3, 903), (m3, 2003)]) h) (f1of [(i1, 901), (i2, 902), (i3, 903), (m3, 2003)]) rfl (r := [.agg #[.int .i64 2, .int .i64 0, .int .i64 0], .int .i64 ((gi l_ 0).At), .int .i64 8]) kr (fun χ' hM hC => ⟨((⟨2, 0, 0⟩ : Api_Event), (gi l_ 0).At, 8, cap3), hm, rfl, ((hS.cell (id := 901) (t := 25) (cs := [I cap1.States, I cap1.Kinds, I cap1.Init, Sl a2 cap1.Rows c2]) kr).out (f := (f1of [(i1, 901), (i2, 902), (i3, 903), (m3, 2003)])) hC kr kr (hP.at 0 rfl)), ((hS.cell (id := 902) (t := 3) (cs := [I cap2]) kr).out (f := (f1of [(i1, 901), (i2, 902), (i3, 903), (m3, 2003)])) hC kr kr (hP.at 1 rfl)), ((hS.cell (id := 903) (t := 100) (cs := [V (.map (some r3))]) kr).out (f := (f1of [(i1, 901), (i2, 902), (i3, 903), (m3, 2003)])) hC kr kr (hP.at 2 rfl)), (h3.out (f := (f1of [(i1, 901), (i2, 902), (i3, 903), (m3, 2003)])) hM hC kr kr)⟩)
 ·rintro a w187 ⟨ρ, χ186, hi_111, x_115, a112, c113, hm, hS, hO, hP, h109, h110, h114, h116, h117⟩
  unfold VC43_J1 at hm
  refine drawnSX [6, 9, 901, 902, 903] mixed hS ?_
  intro w118 χ119 hS hE hD hH
  replace hO := hO.mv hE rfl rfl
  replace h109 := h109.mv hE rfl
  replace h110 := h110.mv hE rfl
  replace h114 := h114.mv hE rfl rfl
  replace h116 := h116.mv hE rfl
  replace h117 := h117.mv hE rfl rfl
  clear hE
  refine tk T [0, 1, 5, 6, 7] [6, 9, 901, 902, 903] hS hH #[true, true, false, false, false, true, true, true, false, false, false, false, false, false, false, false] 11 ⟨[(0, Sl a1 l_ c1), (2, Pt 902 0), (3, Pt 903 0), (5, Pt 6 0), (8, Pt 9 0), (37, Sl a1 l_ c1), (38, Sl a1 l_ c1), (42, Sl (some ⟨b101, 0, none⟩) [1, 0] 2), (43, Sl a112 hi_111 c113), (44, I cap2)], [(6, (51, [I 0, I 0, I 0])), (9, (51, [I x_115, I 0, I 0])), (901, (25, [I cap1.States, I cap1.Kinds, I cap1.Init, Sl a2 cap1.Rows c2])), (902, (3, [I cap2])), (903, (100, [V (.map (some r3))]))]⟩ fun a hS => ?_
  obtain ⟨hq, hm⟩ := hm
  refine dindex (e := 49) (k := .i64) T 2 hS kr kr kr (by rfl) kr hH kr kr h109 kr kr hq.1 hq.2 ?_
  intro A120 a h121 hS
  clear hq
  have h121b := h121.here
  refine dfieldA (off := 2) (fsz := 1) (ft := 9) (TF := tStr) (y := (gi l_ 0).Text) 3 T hS kr kr kr (by rfl) kr hH kr h121 kr kr kr (fun cs h => Token_Token_f2 h) ?_
  intro A122 a h123 hbl hS
  have h123b := h121b
  rw [← hbl] at h123b
  clear hbl
  refine dload1 T 4 hS kr kr kr (by rfl) kr hH kr h123 h123b rfl kr ?_
  intro v124 a hv hS
  cases hv
  obtain ⟨χ125, hE, hF⟩ := h114.freeze (by decide)
  replace hS := hS.ev hE (xone_box kr)
  replace hO := hO.mv hE rfl rfl
  replace hD := hD.ev hE rfl
  replace h109 := h109.mv hE rfl
  replace h110 := h110.mv hE rfl
  replace h116 := h116.mv hE rfl
  replace h117 := h117.mv hE rfl rfl
  replace h121 := h121.mv hE rfl
  replace h123 := h123.mv hE rfl
  have h126 := hF; clear hE hF
  obtain ⟨hq, hm⟩ := hm
  refine only 8 kr (by rfl) (call hS kr kr hb42 kr (fun _ _ => rfl) (k42 _ _ l_ ((gi l_ 0).Text) [1, 0] hi_111 cap2 a1 c1 (some ⟨b101, 0, none⟩) 2 a112 c113 hq h109 h110 h126) ?_)
  intro v127 a w128 χ129 hE hp hS
  clear hq
  replace hO := hO.mv hE rfl rfl
  replace hD := hD.ev hE rfl
  replace h109 := h109.mv hE rfl
  replace h110 := h110.mv hE rfl
  replace h116 := h116.mv hE rfl
  replace h117 := h117.mv hE rfl rfl
  replace h121 := h121.mv hE rfl
  replace h123 := h123.mv hE rfl
  replace h126 := h126.mv hE rfl
  clear hE
  obtain ⟨a131, c132, hp, h133⟩ := hp
  obtain ⟨r130, hr⟩ : ∃ r, objtext_Numbers l_ ((gi l_ 0).Text) [1, 0] hi_111 cap2 = r := ⟨_, rfl⟩
  replace hm := hm r130 hr
  rw [hr] at hp h133
  clear hr
  subst hp
  replace hm := hm (h133.sm kr)
  replace hS := hS.sl ⟨[(0, Sl a1 l_ c1), (2, Pt 902 0), (3, Pt 903 0), (5, Pt 6 0), (8, Pt 9 0), (37, Sl a1 l_ c1), (38, Sl a1 l_ c1), (42, Sl (some ⟨b101, 0, none⟩) [1, 0] 2), (43, Sl a112 hi_111 c113), (44, I cap2), (39, V (.pointer (some A120))), (40, V (.pointer (some A122))), (41, Z ((gi l_ 0).Text)), (45, V (.tuple #[.slice a131 r130.1.length c132, .int .i64 r130.2.1, .int .i64 r130.2.2]))], [(6, (51, [I 0, I 0, I 0])), (9, (51, [I x_115, I 0, I 0])), (901, (25, [I cap1.States, I cap1.Kinds, I cap1.Init, Sl a2 cap1.Rows c2])), (902, (3, [I cap2])), (903, (100, [V (.map (some r3))]))]⟩
  refine andH (Hold.of hS (bks := [6, 9, 901, 902, 903]) kr hD) ?_
  intro hH
  refine tk T [9, 10, 11, 12, 13, 14, 15] [6, 9, 901, 902, 903] hS hH #[true, true, true, true, true, true, true, true, true, true, true, true, true, true, true, true] 0 ⟨[(0, Sl a1 l_ c1), (2, Pt 902 0), (3, Pt 903 0), (5, Pt 6 0), (8, Pt 9 0), (11, Sl a131 r130.1 c132), (12, I r130.2.1), (13, I r130.2.2)], [(6, (51, [I 0, I 0, I 0])), (9, (51, [I x_115, I 0, I 0])), (901, (25, [I cap1.States, I cap1.Kinds, I cap1.Init, Sl a2 cap1.Rows c2])), (902, (3, [I cap2])), (903, (100, [V (.map (some r3))]))]⟩ fun a hS => ?_
  refine drawnDone kr ?_
  clear hD hH
  replace hS := hS.sl ⟨[(0, Sl a1 l_ c1), (2, Pt 902 0), (3, Pt 903 0), (5, Pt 6 0), (8, Pt 9 0), (11, Sl a131 r130.1 c132), (12, I r130.2.1), (13, I r130.2.2)], [(6, (51, [I 0, I 0, I 0])), (9, (51, [I x_115, I 0, I 0])), (901, (25, [I cap1.States, I cap1.Kinds, I cap1.Init, Sl a2 cap1.Rows c2])), (902, (3, [I cap2])), (903, (100, [V (.map (some r3))]))]⟩
  refine wseq ?_
  refine rP T hS ⟨[(0, Sl a1 l_ c1), (2, Pt 902 0), (3, Pt 903 0), (5, Pt 6 0), (8, Pt 9 0), (11, Sl a131 r130.1 c132), (12, I r130.2.1), (13, I r130.2.2), (50, B (r130.2.2 != 0))], [(6, (51, [I 0, I 0, I 0])), (9, (51, [I x_115, I 0, I 0])), (901, (25, [I cap1.States, I cap1.Kinds, I cap1.Init, Sl a2 cap1.Rows c2])), (902, (3, [I cap2])), (903, (100, [V (.map (some r3))]))]⟩ fun a hS => ?_
  refine wcond hS (b := (r130.2.2 != 0)) kr (fun hb => ?_) (fun hb => ?_)
  ·replace hm := hm.1 hb
   refine rM T hS ⟨[(5, Pt 6 0), (6, I r130.2.1), (7, I r130.2.2)], [(6, (51, [I x_115, I 0, I 0])), (901, (25, [I cap1.States, I cap1.Kinds, I cap1.Init, Sl a2 cap1.Rows c2])), (902, (3, [I cap2])), (903, (100, [V (.map (some r3))]))]⟩ fun ρ a w134 χ135 hS hE hr => ?_
   replace hO := hO.mv hE rfl rfl
   replace h116 := h116.mv hE rfl
   replace h117 := h117.mv hE rfl rfl
   replace hP := hP.mv hr kr
   clear hE hr
   refine wret ?_
   exact finR T hS hO (fun c h => f0of_zero kr h) (fun c h => f0of_else (l := [(i1, 901), (i2, 902), (i3, 903), (m3, 2003)]) h) (f1of [(i1, 901), (i2, 902), (i3, 903), (m3, 2003)]) rfl (r := [.agg #[.int .i64 x_115, .int .i64 0, .int .i64 0], .int .i64 r130.2.1, .int .i64 r130.2.2]) kr (fun χ' hM hC => ⟨((⟨x_115, 0, 0⟩ : Api_Event), r130.2.1, r130.2.2, cap3), hm, rfl, ((hS.cell (id := 901) (t := 25) (cs := [I cap1.States, I cap1.Kinds, I cap1.Init, Sl a2 cap1.Rows c2]) kr).out (f := (f1of [(i1, 901), (i2, 902), (i3, 903), (m3, 2003)])) hC kr kr (hP.at 0 rfl)), ((hS.cell (id := 902) (t := 3) (cs := [I cap2]) kr).out (f := (f1of [(i1, 901), (i2, 902), (i3, 903), (m3, 2003)])) hC kr kr (hP.at 1 rfl)), ((hS.cell (id := 903) (t := 100) (cs := [V (.map (some r3))]) kr).out (f := (f1of [(i1, 901), (i2, 902), (i3, 903), (m3, 2003)])) hC kr kr (hP.at 2 rfl)), (h117.out (f := (f1of [(i1, 901), (i2, 902), (i3, 903), (m3, 2003)])) hM hC kr kr)⟩)
  ·replace hm := hm.2 hb
   refine wskip ?_
   refine drawnSX [6, 901, 902, 903] mixed hS ?_
   intro w136 χ137 hS hE hD hH
   replace hO := hO.mv hE rfl rfl
   replace h109 := h109.mv hE rfl
   replace h116 := h116.mv hE rfl
   replace h117 := h117.mv hE rfl rfl
   replace h133 := h133.mv hE rfl
   clear hE
   refine tk T [0, 3] [6, 901, 902, 903] hS hH #[true, false, false, true, false, false, false, false, false, false] 8 ⟨[(0, Sl a1 l_ c1), (2, Pt 902 0), (3, Pt 903 0), (5, Pt 6 0), (8, Pt 9 0), (54, Sl a131 r130.1 c132), (57, Sl a131 r130.1 c132)], [(6, (51, [I 0, I 0, I 0])), (9, (51, [I x_115, I 0, I 0])), (901, (25, [I cap1.States, I cap1.Kinds, I cap1.Init, Sl a2 cap1.Rows c2])), (902, (3, [I cap2])), (903, (100, [V (.map (some r3))]))]⟩ fun a hS => ?_
   obtain ⟨hq, hm⟩ := hm
   refine dindex (e := 3) (k := .i64) T 1 hS kr kr kr (by rfl) kr hH kr kr h133 kr kr hq.1 hq.2 ?_
   intro A138 a h139 hS
   clear hq
   have h139b := h139.here
   refine dload1 T 2 hS kr kr kr (by rfl) kr hH kr h139 h139b rfl kr ?_
   intro v140 a hv hS
   cases hv
   refine tk T [6] [6, 901, 902, 903] hS hH #[true, true, true, true, false, false, true, false, false, false] 5 ⟨[(0, Sl a1 l_ c1), (2, Pt 902 0), (3, Pt 903 0), (5, Pt 6 0), (8, Pt 9 0), (56, I (gi r130.1 0)), (57, Sl a131 r130.1 c132), (60, Pt 9 1)], [(6, (51, [I 0, I 0, I 0])), (9, (51, [I x_115, I 0, I 0])), (901, (25, [I cap1.States, I cap1.Kinds, I cap1.Init, Sl a2 cap1.Rows c2])), (902, (3, [I cap2])), (903, (100, [V (.map (some r3))]))]⟩ fun a hS => ?_
   obtain ⟨hq, hm⟩ := hm
   refine dindex (e := 3) (k := .i64) T 4 hS kr kr kr (by rfl) kr hH kr kr h133 kr kr hq.1 hq.2 ?_
   intro A141 a h142 hS
   clear hq
   have h142b := h142.here
   refine dload1 T 5 hS kr kr kr (by rfl) kr hH kr h142 h142b rfl kr ?_
   intro v143 a hv hS
   cases hv
   replace hS := hS.sl ⟨[(0, Sl a1 l_ c1), (2, Pt 902 0), (3, Pt 903 0), (5, Pt 6 0), (8, Pt 9 0), (56, I (gi r130.1 0)), (57, Sl a131 r130.1 c132), (60, Pt 9 1), (58, V (.pointer (some A141))), (59, I (gi r130.1 1))], [(6, (51, [I 0, I 0, I 0])), (9, (51, [I x_115, I 0, I 0])), (901, (25, [I cap1.States, I cap1.Kinds, I cap1.Init, Sl a2 cap1.Rows c2])), (902, (3, [I cap2])), (903, (100, [V (.map (some r3))]))]⟩
   refine only 7 kr (by rfl) (store1 T hS kr kr (sy' := ⟨[(0, Sl a1 l_ c1), (2, Pt 902 0), (3, Pt 903 0), (5, Pt 6 0), (8, Pt 9 0), (56, I (gi r130.1 0)), (57, Sl a131 r130.1 c132), (60, Pt 9 1), (58, V (.pointer (some A141))), (59, I (gi r130.1 1))], [(9, (51, [I x_115, I (gi r130.1 0), I 0])), (6, (51, [I 0, I 0, I 0])), (9, (51, [I x_115, I 0, I 0])), (901, (25, [I cap1.States, I cap1.Kinds, I cap1.Init, Sl a2 cap1.Rows c2])), (902, (3, [I cap2])), (903, (100, [V (.map (some r3))]))]⟩) kr ?_)
   intro a w144 χ145 hS hE
   replace hO := hO.mv hE rfl rfl
   replace hD := hD.ev hE rfl
   replace h109 := h109.mv hE rfl
   replace h116 := h116.mv hE rfl
   replace h117 := h117.mv hE rfl rfl
   replace h133 := h133.mv hE rfl
   replace h139 := h139.mv hE rfl
   replace h142 := h142.mv hE rfl
   clear hE
   replace hS := hS.sl ⟨[(0, Sl a1 l_ c1), (2, Pt 902 0), (3, Pt 903 0), (5, Pt 6 0), (8, Pt 9 0), (56, I (gi r130.1 0)), (57, Sl a131 r130.1 c132), (60, Pt 9 1), (58, V (.pointer (some A141))), (59, I (gi r130.1 1))], [(6, (51, [I 0, I 0, I 0])), (9, (51, [I x_115, I (gi r130.1 0), I 0])), (901, (25, [I cap1.States, I cap1.Kinds, I cap1.Init, Sl a2 cap1.Rows c2])), (902, (3, [I cap2])), (903, (100, [V (.map (some r3))]))]⟩
   refine andH (Hold.of hS (bks := [6, 901, 902, 903]) kr hD) ?_
   intro hH
   refine tk T [8] [6, 901, 902, 903] hS hH #[true, true, true, true, true, true, true, true, true, false] 1 ⟨[(0, Sl a1 l_ c1), (2, Pt 902 0), (3, Pt 903 0), (5, Pt 6 0), (8, Pt 9 0), (59, I (gi r130.1 1)), (61, Pt 9 2)], [(6, (51, [I 0, I 0, I 0])), (9, (51, [I x_115, I (gi r130.1 0), I 0])), (901, (25, [I cap1.States, I cap1.Kinds, I cap1.Init, Sl a2 cap1.Rows c2])), (902, (3, [I cap2])), (903, (100, [V (.map (some r3))]))]⟩ fun a hS => ?_
   replace hS := hS.sl ⟨[(0, Sl a1 l_ c1), (2, Pt 902 0), (3, Pt 903 0), (5, Pt 6 0), (8, Pt 9 0), (59, I (gi r130.1 1)), (61, Pt 9 2)], [(6, (51, [I 0, I 0, I 0])), (9, (51, [I x_115, I (gi r130.1 0), I 0])), (901, (25, [I cap1.States, I cap1.Kinds, I cap1.Init, Sl a2 cap1.Rows c2])), (902, (3, [I cap2])), (903, (100, [V (.map (some r3))]))]⟩
   refine only 9 kr (by rfl) (store1 T hS kr kr (sy' := ⟨[(0, Sl a1 l_ c1), (2, Pt 902 0), (3, Pt 903 0), (5, Pt 6 0), (8, Pt 9 0), (59, I (gi r130.1 1)), (61, Pt 9 2)], [(9, (51, [I x_115, I (gi r130.1 0), I (gi r130.1 1)])), (6, (51, [I 0, I 0, I 0])), (9, (51, [I x_115, I (gi r130.1 0), I 0])), (901, (25, [I cap1.States, I cap1.Kinds, I cap1.Init, Sl a2 cap1.Rows c2])), (902, (3, [I cap2])), (903, (100, [V (.map (some r3))]))]⟩) kr ?_)
   intro a w146 χ147 hS hE
   replace hO := hO.mv hE rfl rfl
   replace hD := hD.ev hE rfl
   replace h109 := h109.mv hE rfl
   replace h116 := h116.mv hE rfl
   replace h117 := h117.mv hE rfl rfl
   replace h133 := h133.mv hE rfl
   replace h139 := h139.mv hE rfl
   replace h142 := h142.mv hE rfl
   clear hE
   replace hS := hS.sl ⟨[(0, Sl a1 l_ c1), (2, Pt 902 0), (3, Pt 903 0), (5, Pt 6 0), (8, Pt 9 0), (59, I (gi r130.1 1)), (61, Pt 9 2)], [(6, (51, [I 0, I 0, I 0])), (9, (51, [I x_115, I (gi r130.1 0), I (gi r130.1 1)])), (901, (25, [I cap1.States, I cap1.Kinds, I cap1.Init, Sl a2 cap1.Rows c2])), (902, (3, [I cap2])), (903, (100, [V (.map (some r3))]))]⟩
   refine andH (Hold.of hS (bks := [6, 901, 902, 903]) kr hD) ?_
   intro hH
   refine drawnDone kr ?_
   clear hD hH
   replace hS := hS.sl ⟨[(0, Sl a1 l_ c1), (2, Pt 902 0), (3, Pt 903 0), (5, Pt 6 0), (8, Pt 9 0)], [(6, (51, [I 0, I 0, I 0])), (9, (51, [I x_115, I (gi r130.1 0), I (gi r130.1 1)])), (901, (25, [I cap1.States, I cap1.Kinds, I cap1.Init, Sl a2 cap1.Rows c2])), (902, (3, [I cap2])), (903, (100, [V (.map (some r3))]))]⟩
   refine wseq ?_
   refine regO ?_
   refine oP T hS 3 ⟨[(0, Sl a1 l_ c1), (2, Pt 902 0), (3, Pt 903 0), (5, Pt 6 0), (8, Pt 9 0), (62, V (.map (some r3))), (64, I (gi r130.1 0))], [(6, (51, [I 0, I 0, I 0])), (9, (51, [I x_115, I (gi r130.1 0), I (gi r130.1 1)])), (901, (25, [I cap1.States, I cap1.Kinds, I cap1.Init, Sl a2 cap1.Rows c2])), (902, (3, [I cap2])), (903, (100, [V (.map (some r3))]))]⟩ fun a hS => ?_
   refine op1 (mlook kI tI false (zv := .int .i64 0) (z := 0) (gi r130.1 0) hS kr kr kr kr Tryd.underlying100 Tryd.underlying3 kr rfl h117 ?_)
   intro v148 a hv hS
   replace hv : tI.R _ _ [v148] _ := hv
   cases hv
   refine eP T hS ⟨[(0, Sl a1 l_ c1), (2, Pt 902 0), (3, Pt 903 0), (5, Pt 6 0), (8, Pt 9 0), (70, B ((((mget cap3 (gi r130.1 0)).getD 0) == 1) == (x_115 == 1)))], [(6, (51, [I 0, I 0, I 0])), (9, (51, [I x_115, I (gi r130.1 0), I (gi r130.1 1)])), (901, (25, [I cap1.States, I cap1.Kinds, I cap1.Init, Sl a2 cap1.Rows c2])), (902, (3, [I cap2])), (903, (100, [V (.map (some r3))]))]⟩ fun a hS => ?_
   refine wcond hS (b := ((((mget cap3 (gi r130.1 0)).getD 0) == 1) == (x_115 == 1))) kr (fun hb => ?_) (fun hb => ?_)
   ·replace hm := hm.1 hb
    refine drawnSX [9, 901, 902, 903] mixed hS ?_
    intro w149 χ150 hS hE hD hH
    replace hO := hO.mv hE rfl rfl
    replace h109 := h109.mv hE rfl
    replace h116 := h116.mv hE rfl
    replace h117 := h117.mv hE rfl rfl
    clear hE
    refine tk T [0, 1] [9, 901, 902, 903] hS hH #[true, true, false, false, false, false, false, false] 6 ⟨[(5, Pt 6 0), (71, V (.agg #[.int .i64 x_115, .int .i64 (gi r130.1 0), .int .i64 (gi r130.1 1)])), (72, Sl a1 l_ c1)], [(6, (51, [I 0, I 0, I 0])), (9, (51, [I x_115, I (gi r130.1 0), I (gi r130.1 1)])), (901, (25, [I cap1.States, I cap1.Kinds, I cap1.Init, Sl a2 cap1.Rows c2])), (902, (3, [I cap2])), (903, (100, [V (.map (some r3))]))]⟩ fun a hS => ?_
    obtain ⟨hq, hm⟩ := hm
    refine dindex (e := 49) (k := .i64) T 2 hS kr kr kr (by rfl) kr hH kr kr h109 kr kr hq.1 hq.2 ?_
    intro A151 a h152 hS
    clear hq
    have h152b := h152.here
    refine dfieldA (off := 1) (fsz := 1) (ft := 3) (TF := tI) (y := (gi l_ 0).At) 3 T hS kr kr kr (by rfl) kr hH kr h152 kr kr kr (fun cs h => Token_Token_f1 h) ?_
    intro A153 a h154 hbl hS
    have h154b := h152b
    rw [← hbl] at h154b
    clear hbl
    refine dload1 T 4 hS kr kr kr (by rfl) kr hH kr h154 h154b rfl kr ?_
    intro v155 a hv hS
    cases hv
    replace hS := hS.sl ⟨[(5, Pt 6 0), (71, V (.agg #[.int .i64 x_115, .int .i64 (gi r130.1 0), .int .i64 (gi r130.1 1)])), (72, Sl a1 l_ c1), (73, V (.pointer (some A151))), (74, V (.pointer (some A153))), (75, I ((gi l_ 0).At))], [(6, (51, [I 0, I 0, I 0])), (9, (51, [I x_115, I (gi r130.1 0), I (gi r130.1 1)])), (901, (25, [I cap1.States, I cap1.Kinds, I cap1.Init, Sl a2 cap1.Rows c2])), (902, (3, [I cap2])), (903, (100, [V (.map (some r3))]))]⟩
    refine only 5 kr (by rfl) (store1 T hS kr kr (sy' := ⟨[(5, Pt 6 0), (71, V (.agg #[.int .i64 x_115, .int .i64 (gi r130.1 0), .int .i64 (gi r130.1 1)])), (72, Sl a1 l_ c1), (73, V (.pointer (some A151))), (74, V (.pointer (some A153))), (75, I ((gi l_ 0).At))], [(6, (51, [I x_115, I (gi r130.1 0), I (gi r130.1 1)])), (6, (51, [I 0, I 0, I 0])), (9, (51, [I x_115, I (gi r130.1 0), I (gi r130.1 1)])), (901, (25, [I cap1.States, I cap1.Kinds, I cap1.Init, Sl a2 cap1.Rows c2])), (902, (3, [I cap2])), (903, (100, [V (.map (some r3))]))]⟩) kr ?_)
    intro a w156 χ157 hS hE
    replace hO := hO.mv hE rfl rfl
    replace hD := hD.ev hE rfl
    replace h109 := h109.mv hE rfl
    replace h116 := h116.mv hE rfl
    replace h117 := h117.mv hE rfl rfl
    replace h152 := h152.mv hE rfl
    replace h154 := h154.mv hE rfl
    clear hE
    replace hS := hS.sl ⟨[(5, Pt 6 0), (71, V (.agg #[.int .i64 x_115, .int .i64 (gi r130.1 0), .int .i64 (gi r130.1 1)])), (72, Sl a1 l_ c1), (73, V (.pointer (some A151))), (74, V (.pointer (some A153))), (75, I ((gi l_ 0).At))], [(6, (51, [I x_115, I (gi r130.1 0), I (gi r130.1 1)])), (9, (51, [I x_115, I (gi r130.1 0), I (gi r130.1 1)])), (901, (25, [I cap1.States, I cap1.Kinds, I cap1.Init, Sl a2 cap1.Rows c2])), (902, (3, [I cap2])), (903, (100, [V (.map (some r3))]))]⟩
    refine andH (Hold.of hS (bks := [9, 901, 902, 903]) kr hD) ?_
    intro hH
    refine tk T [6, 7] [9, 901, 902, 903] hS hH #[true, true, true, true, true, true, true, true] 0 ⟨[(5, Pt 6 0), (6, I ((gi l_ 0).At)), (7, I 33)], [(6, (51, [I x_115, I (gi r130.1 0), I (gi r130.1 1)])), (9, (51, [I x_115, I (gi r130.1 0), I (gi r130.1 1)])), (901, (25, [I cap1.States, I cap1.Kinds, I cap1.Init, Sl a2 cap1.Rows c2])), (902, (3, [I cap2])), (903, (100, [V (.map (some r3))]))]⟩ fun a hS => ?_
    refine drawnDone kr ?_
    clear hD hH
    replace hS := hS.sl ⟨[(5, Pt 6 0), (6, I ((gi l_ 0).At)), (7, I 33)], [(6, (51, [I x_115, I (gi r130.1 0), I (gi r130.1 1)])), (901, (25, [I cap1.States, I cap1.Kinds, I cap1.Init, Sl a2 cap1.Rows c2])), (902, (3, [I cap2])), (903, (100, [V (.map (some r3))]))]⟩
    refine wret ?_
    exact finR T hS hO (fun c h => f0of_zero kr h) (fun c h => f0of_else (l := [(i1, 901), (i2, 902), (i3, 903), (m3, 2003)]) h) (f1of [(i1, 901), (i2, 902), (i3, 903), (m3, 2003)]) rfl (r := [.agg #[.int .i64 x_115, .int .i64 (gi r130.1 0), .int .i64 (gi r130.1 1)], .int .i64 ((gi l_ 0).At), .int .i64 33]) kr (fun χ' hM hC => ⟨((⟨x_115, gi r130.1 0, gi r130.1 1⟩ : Api_Event), (gi l_ 0).At, 33, cap3), hm, rfl, ((hS.cell (id := 901) (t := 25) (cs := [I cap1.States, I cap1.Kinds, I cap1.Init, Sl a2 cap1.Rows c2]) kr).out (f := (f1of [(i1, 901), (i2, 902), (i3, 903), (m3, 2003)])) hC kr kr (hP.at 0 rfl)), ((hS.cell (id := 902) (t := 3) (cs := [I cap2]) kr).out (f := (f1of [(i1, 901), (i2, 902), (i3, 903), (m3, 2003)])) hC kr kr (hP.at 1 rfl)), ((hS.cell (id := 903) (t := 100) (cs := [V (.map (some r3))]) kr).out (f := (f1of [(i1, 901), (i2, 902), (i3, 903), (m3, 2003)])) hC kr kr (hP.at 2 rfl)), (h117.out (f := (f1of [(i1, 901), (i2, 902), (i3, 903), (m3, 2003)])) hM hC kr kr)⟩)
   ·replace hm := hm.2 hb
    refine wskip ?_
    refine regO ?_
    refine oP T hS 5 ⟨[(2, Pt 902 0), (5, Pt 6 0), (8, Pt 9 0), (76, V (.map (some r3))), (78, I (gi r130.1 0)), (80, I x_115)], [(6, (51, [I 0, I 0, I 0])), (9, (51, [I x_115, I (gi r130.1 0), I (gi r130.1 1)])), (901, (25, [I cap1.States, I cap1.Kinds, I cap1.Init, Sl a2 cap1.Rows c2])), (902, (3, [I cap2])), (903, (100, [V (.map (some r3))]))]⟩ fun a hS => ?_
    refine op1 (mset kI tI false (v := I x_115) (u := x_115) (gi r130.1 0) hS kr kr kr kr Tryd.underlying100 Tryd.underlying3 kr h117 rfl ?_)
    intro a w158 hE h159 hS
    clear h117
    replace hO := hO.mv hE rfl rfl
    replace h116 := h116.mv hE rfl
    clear hE
    refine doneK ?_
    refine drawnSX [9, 901, 902, 903] mixed hS ?_
    intro w160 χ161 hS hE hD hH
    replace hO := hO.mv hE rfl rfl
    replace h116 := h116.mv hE rfl
    replace h159 := h159.mv hE rfl rfl
    clear hE
    refine tk T [0, 1] [9, 901, 902, 903] hS hH #[true, true, false, false, false] 3 ⟨[(5, Pt 6 0), (81, V (.agg #[.int .i64 x_115, .int .i64 (gi r130.1 0), .int .i64 (gi r130.1 1)])), (82, I cap2)], [(6, (51, [I 0, I 0, I 0])), (9, (51, [I x_115, I (gi r130.1 0), I (gi r130.1 1)])), (901, (25, [I cap1.States, I cap1.Kinds, I cap1.Init, Sl a2 cap1.Rows c2])), (902, (3, [I cap2])), (903, (100, [V (.map (some r3))]))]⟩ fun a hS => ?_
    replace hS := hS.sl ⟨[(5, Pt 6 0), (81, V (.agg #[.int .i64 x_115, .int .i64 (gi r130.1 0), .int .i64 (gi r130.1 1)])), (82, I cap2)], [(6, (51, [I 0, I 0, I 0])), (9, (51, [I x_115, I (gi r130.1 0), I (gi r130.1 1)])), (901, (25, [I cap1.States, I cap1.Kinds, I cap1.Init, Sl a2 cap1.Rows c2])), (902, (3, [I cap2])), (903, (100, [V (.map (some r3))]))]⟩
    refine only 2 kr (by rfl) (store1 T hS kr kr (sy' := ⟨[(5, Pt 6 0), (81, V (.agg #[.int .i64 x_115, .int .i64 (gi r130.1 0), .int .i64 (gi r130.1 1)])), (82, I cap2)], [(6, (51, [I x_115, I (gi r130.1 0), I (gi r130.1 1)])), (6, (51, [I 0, I 0, I 0])), (9, (51, [I x_115, I (gi r130.1 0), I (gi r130.1 1)])), (901, (25, [I cap1.States, I cap1.Kinds, I cap1.Init, Sl a2 cap1.Rows c2])), (902, (3, [I cap2])), (903, (100, [V (.map (some r3))]))]⟩) kr ?_)
    intro a w162 χ163 hS hE
    replace hO := hO.mv hE rfl rfl
    replace hD := hD.ev hE rfl
    replace h116 := h116.mv hE rfl
    replace h159 := h159.mv hE rfl rfl
    clear hE
    replace hS := hS.sl ⟨[(5, Pt 6 0), (81, V (.agg #[.int .i64 x_115, .int .i64 (gi r130.1 0), .int .i64 (gi r130.1 1)])), (82, I cap2)], [(6, (51, [I x_115, I (gi r130.1 0), I (gi r130.1 1)])), (9, (51, [I x_115, I (gi r130.1 0), I (gi r130.1 1)])), (901, (25, [I cap1.States, I cap1.Kinds, I cap1.Init, Sl a2 cap1.Rows c2])), (902, (3, [I cap2])), (903, (100, [V (.map (some r3))]))]⟩
    refine andH (Hold.of hS (bks := [9, 901, 902, 903]) kr hD) ?_
    intro hH
    refine tk T [3, 4] [9, 901, 902, 903] hS hH #[true, true, true, true, true] 0 ⟨[(5, Pt 6 0), (6, I cap2), (7, I 0)], [(6, (51, [I x_115, I (gi r130.1 0), I (gi r130.1 1)])), (9, (51, [I x_115, I (gi r130.1 0), I (gi r130.1 1)])), (901, (25, [I cap1.States, I cap1.Kinds, I cap1.Init, Sl a2 cap1.Rows c2])), (902, (3, [I cap2])), (903, (100, [V (.map (some r3))]))]⟩ fun a hS => ?_
    refine drawnDone kr ?_
    clear hD hH
    replace hS := hS.sl ⟨[(5, Pt 6 0), (6, I cap2), (7, I 0)], [(6, (51, [I x_115, I (gi r130.1 0), I (gi r130.1 1)])), (901, (25, [I cap1.States, I cap1.Kinds, I cap1.Init, Sl a2 cap1.Rows c2])), (902, (3, [I cap2])), (903, (100, [V (.map (some r3))]))]⟩
    refine wret ?_
    exact finR T hS hO (fun c h => f0of_zero kr h) (fun c h => f0of_else (l := [(i1, 901), (i2, 902), (i3, 903), (m3, 2003)]) h) (f1of [(i1, 901), (i2, 902), (i3, 903), (m3, 2003)]) rfl (r := [.agg #[.int .i64 x_115, .int .i64 (gi r130.1 0), .int .i64 (gi r130.1 1)], .int .i64 cap2, .int .i64 0]) kr (fun χ' hM hC => ⟨((⟨x_115, gi r130.1 0, gi r130.1 1⟩ : Api_Event), cap2, 0, mput cap3 (gi r130.1 0) x_115), hm, rfl, ((hS.cell (id := 901) (t := 25) (cs := [I cap1.States, I cap1.Kinds, I cap1.Init, Sl a2 cap1.Rows c2]) kr).out (f := (f1of [(i1, 901), (i2, 902), (i3, 903), (m3, 2003)])) hC kr kr (hP.at 0 rfl)), ((hS.cell (id := 902) (t := 3) (cs := [I cap2]) kr).out (f := (f1of [(i1, 901), (i2, 902), (i3, 903), (m3, 2003)])) hC kr kr (hP.at 1 rfl)), ((hS.cell (id := 903) (t := 100) (cs := [V (.map (some r3))]) kr).out (f := (f1of [(i1, 901), (i2, 902), (i3, 903), (m3, 2003)])) hC kr kr (hP.at 2 rfl)), (h159.out (f := (f1of [(i1, 901), (i2, 902), (i3, 903), (m3, 2003)])) hM hC kr kr)⟩)
theorem C43 (k42 : S42) (v : ∀ (l_ : List Token_Token) (cap1 : Api_Object) (cap2 : Int) (cap3 : List (Int × Int)), preRd l_ cap1 cap2 cap3 → VC43 l_ cap1 cap2 cap3 (fun r => r = histtext_reader_1 l_ cap1 cap2 cap3)) : S43 := by
 intro w χ l_ cap1 cap2 cap3 a1 c1 a2 c2 r3 m3  b1 i1 b2 i2 b3 i3 hp h1 h2 h3 hc1 hc2 hc3 hA
 refine (W43 k42 w χ l_ cap1 cap2 cap3 a1 c1 a2 c2 r3 m3  b1 i1 b2 i2 b3 i3 _ (v l_ cap1 cap2 cap3 hp) h1 h2 h3 hc1 hc2 hc3 hA).mono ?_
 rintro _ _ _ _ ⟨r, rfl, h⟩
 exact h
/-- replevin/histtext.reader -/
theorem W18 (w0 : World) (χ0 : Nat → Nat) (o_ : Api_Object) (end_ : Int) (a1 : Option Addr) (c1 : Nat) (col1 : Nat) (col2 : Nat) (col3 : Nat) (col4 : Nat) (Q : Api_Object × Int × (List (Int × Int)) → Prop) (hm : VC18 o_ end_ Q) (h1 : RS tApi_Row w0 χ0 a1 o_.Rows c1) :
  Ret Tryd.prog 18 #[.agg #[.int .i64 o_.States, .int .i64 o_.Kinds, .int .i64 o_.Init, .slice a1 o_.Rows.length c1], .int .i64 end_] xnone w0 χ0 (fun w χ' v => ∃ r, Q r ∧ ∃ (ra1 : Option Addr) (rc1 : Nat) (rr2 : Nat) (rb1 : Nat) (rb2 : Nat) (rb3 : Nat), v = .func (.func 43) #[] #[.pointer (some ⟨rb1, 0, none⟩), .pointer (some ⟨rb2, 0, none⟩), .pointer (some ⟨rb3, 0, none⟩)] ∧ RS tApi_Row w χ' ra1 r.1.Rows rc1 ∧ Cell w χ' rb1 col2 25 [.int .i64 r.1.States, .int .i64 r.1.Kinds, .int .i64 r.1.Init, .slice ra1 r.1.Rows.length rc1] ∧ Cell w χ' rb2 col3 3 [.int .i64 r.2.1] ∧ Cell w χ' rb3 col4 100 [.map (some rr2)] ∧ OM kI tI false w χ' col1 rr2 r.2.2) := by
 unfold VC18 at hm
 replace hm := hm (h1.sm kr)
 refine enter Tryd.func18 rfl (vals := [.agg #[.int .i64 o_.States, .int .i64 o_.Kinds, .int .i64 o_.Init, .slice a1 o_.Rows.length c1], .int .i64 end_]) kr ?_
 intro ρ a hS hO hM
 replace h1 := h1.m0 hM
 clear hM
 refine rM T hS ⟨[(2, Pt 3 0), (3, Pt 4 0)], [(3, (25, [I o_.States, I o_.Kinds, I o_.Init, Sl a1 o_.Rows c1])), (4, (3, [I end_]))]⟩ fun ρ a w107 χ108 hS hE hr => ?_
 replace hO := hO.mv hE rfl rfl
 replace h1 := h1.mv hE rfl
 clear hE hr
 refine regO ?_
 refine op1 (mkmap kI tI false 1007 hS kr kr ?_)
 intro r101 a w102 χ103 hE h104 hS
 replace hO := hO.mv hE rfl rfl
 replace h1 := h1.mv hE rfl
 clear hE
 refine eM T hS ⟨[(2, Pt 3 0), (3, Pt 4 0), (5, Pt 6 0)], [(3, (25, [I o_.States, I o_.Kinds, I o_.Init, Sl a1 o_.Rows c1])), (4, (3, [I end_])), (6, (100, [V (.map (some r101))]))]⟩ fun ρ a w105 χ106 hS hE hr => ?_
 replace hO := hO.mv hE rfl rfl
 replace h1 := h1.mv hE rfl
 replace h104 := h104.mv hE rfl rfl
 clear hE hr
 refine rP T hS ⟨[(4, .f (.func 43) [] [.p 3 0, .p 4 0, .p 6 0])], [(3, (25, [I o_.States, I o_.Kinds, I o_.Init, Sl a1 o_.Rows c1])), (4, (3, [I end_])), (6, (100, [V (.map (some r101))]))]⟩ fun a hS => ?_
 refine wret ?_
 exact fin T hS hO (fun c => (bif Nat.beq c 6 then col4 else (bif Nat.beq c 4 then col3 else (bif Nat.beq c 3 then col2 else (bif Nat.beq c 1007 then col1 else c))))) rfl (r := [.func (.func 43) #[] #[.pointer (some ⟨ρ 3, 0, none⟩), .pointer (some ⟨ρ 4, 0, none⟩), .pointer (some ⟨ρ 6, 0, none⟩)]]) kr (fun χ' hM hC => ⟨(o_, end_, ([] : List (Int × Int))), hm, a1, c1, r101, (ρ 3), (ρ 4), (ρ 6), rfl, h1.m0 hM, ((hS.cell (id := 3) (t := 25) (cs := [I o_.States, I o_.Kinds, I o_.Init, Sl a1 o_.Rows c1]) kr).out (f := (fun c => (bif Nat.beq c 6 then col4 else (bif Nat.beq c 4 then col3 else (bif Nat.beq c 3 then col2 else (bif Nat.beq c 1007 then col1 else c)))))) hC kr kr rfl), ((hS.cell (id := 4) (t := 3) (cs := [I end_]) kr).out (f := (fun c => (bif Nat.beq c 6 then col4 else (bif Nat.beq c 4 then col3 else (bif Nat.beq c 3 then col2 else (bif Nat.beq c 1007 then col1 else c)))))) hC kr kr rfl), ((hS.cell (id := 6) (t := 100) (cs := [V (.map (some r101))]) kr).out (f := (fun c => (bif Nat.beq c 6 then col4 else (bif Nat.beq c 4 then col3 else (bif Nat.beq c 3 then col2 else (bif Nat.beq c 1007 then col1 else c)))))) hC kr kr rfl), (h104.out (f := (fun c => (bif Nat.beq c 6 then col4 else (bif Nat.beq c 4 then col3 else (bif Nat.beq c 3 then col2 else (bif Nat.beq c 1007 then col1 else c)))))) hM hC kr kr)⟩)
theorem C18 (v : ∀ (o_ : Api_Object) (end_ : Int), VC18 o_ end_ (fun r => r = histtext_reader o_ end_)) : S18 := by
 intro w χ o_ end_ a1 c1 col1 col2 col3 col4  h1
 refine (W18 w χ o_ end_ a1 c1 col1 col2 col3 col4  _ (v o_ end_) h1).mono ?_
 rintro _ _ _ _ ⟨r, rfl, h⟩
 exact h
/-- replevin/histtext.Parse -/
theorem W8 (k16 : S16) (k17 : S17) (k18 : S18) (k43 : S43) (w0 : World) (χ0 : Nat → Nat) (s_ : List UInt8) (Q : Histtext_Case × Int × Int → Prop) (hm : VC8 s_ Q) :
  Ret Tryd.prog 8 #[.string (bs s_)] xnone w0 χ0 (fun w χ' v => ∃ r, Q r ∧ ∃ (ra1 : Option Addr) (rc1 : Nat) (ra2 : Option Addr) (rc2 : Nat), v = .tuple #[.agg #[.int .i64 r.1.Object.States, .int .i64 r.1.Object.Kinds, .int .i64 r.1.Object.Init, .slice ra1 r.1.Object.Rows.length rc1, .slice ra2 r.1.Events.length rc2], .int .i64 r.2.1, .int .i64 r.2.2] ∧ RS tApi_Row w χ' ra1 r.1.Object.Rows rc1 ∧ RS tApi_Event w χ' ra2 r.1.Events rc2) := by
 unfold VC8 at hm
 refine enter Tryd.func8 rfl (vals := [.string (bs s_)]) kr ?_
 intro ρ a hS hO hM
 clear hM
 refine rM T hS ⟨[(0, Z s_), (2, Pt 3 0)], [(3, (28, [I 0, I 0, I 0, V (.slice none 0 0), V (.slice none 0 0)]))]⟩ fun ρ a w225 χ226 hS hE hr => ?_
 replace hO := hO.mv hE rfl rfl
 clear hE hr
 refine wseq ?_
 refine rP T hS ⟨[(0, Z s_), (2, Pt 3 0), (16, B (decide (((s_.length : Nat) : Int) > 1000000)))], [(3, (28, [I 0, I 0, I 0, V (.slice none 0 0), V (.slice none 0 0)]))]⟩ fun a hS => ?_
 refine wcond hS (b := decide (((s_.length : Nat) : Int) > 1000000)) kr (fun hb => ?_) (fun hb => ?_)
 ·replace hm := hm.1 hb
  refine rM T hS ⟨[(2, Pt 3 0), (3, I 0), (4, I 3)], [(3, (28, [I 0, I 0, I 0, V (.slice none 0 0), V (.slice none 0 0)]))]⟩ fun ρ a w101 χ102 hS hE hr => ?_
  replace hO := hO.mv hE rfl rfl
  clear hE hr
  refine wret ?_
  exact fin T hS hO (fun c => c) rfl (r := [.agg #[.int .i64 0, .int .i64 0, .int .i64 0, .slice none 0 0, .slice none 0 0], .int .i64 0, .int .i64 3]) kr (fun χ' hM hC => ⟨((⟨(⟨0, 0, 0, []⟩ : Api_Object), []⟩ : Histtext_Case), 0, 3), hm, none, 0, none, 0, rfl, RS.empty _ _ _, RS.empty _ _ _⟩)
 ·replace hm := hm.2 hb
  refine wskip ?_
  refine regO ?_
  refine oP T hS 1 ⟨[(0, Z s_), (2, Pt 3 0), (19, Z s_)], [(3, (28, [I 0, I 0, I 0, V (.slice none 0 0), V (.slice none 0 0)]))]⟩ fun a hS => ?_
  obtain ⟨hq, hm⟩ := hm
  refine op1 (call hS kr kr hb16 kr (fun _ _ => rfl) (k16 _ _ s_ hq) ?_)
  intro v103 a w104 χ105 hE hp hS
  clear hq
  replace hO := hO.mv hE rfl rfl
  clear hE
  obtain ⟨a107, c108, hp, h109⟩ := hp
  obtain ⟨r106, hr⟩ : ∃ r, token_Lines s_ = r := ⟨_, rfl⟩
  replace hm := hm r106 hr
  rw [hr] at hp h109
  clear hr
  subst hp
  replace hm := hm (h109.sm kr)
  refine oP T hS 2 ⟨[(0, Z s_), (2, Pt 3 0), (20, Sl a107 r106 c108), (22, I ((s_.length : Nat) : Int))], [(3, (28, [I 0, I 0, I 0, V (.slice none 0 0), V (.slice none 0 0)]))]⟩ fun a hS => ?_
  obtain ⟨hq, hm⟩ := hm
  refine op1 (call hS kr kr hb17 kr (fun _ _ => rfl) (k17 _ _ r106 ((s_.length : Nat) : Int) a107 c108 hq h109) ?_)
  intro v110 a w111 χ112 hE hp hS
  clear hq
  replace hO := hO.mv hE rfl rfl
  replace h109 := h109.mv hE rfl
  clear hE
  obtain ⟨a114, c115, a117, c118, hp, h116, h119⟩ := hp
  obtain ⟨r113, hr⟩ : ∃ r, objtext_Take r106 ((s_.length : Nat) : Int) = r := ⟨_, rfl⟩
  replace hm := hm r113 hr
  rw [hr] at hp h116 h119
  clear hr
  subst hp
  replace hm := hm (h116.sm kr)
  replace hm := hm (h119.sm kr)
  refine eM T hS ⟨[(0, Z s_), (2, Pt 3 0), (3, I r113.2.2.1), (4, I r113.2.2.2), (5, Pt 6 0), (6, Sl a117 r113.2.1 c118)], [(3, (28, [I 0, I 0, I 0, V (.slice none 0 0), V (.slice none 0 0)])), (6, (25, [I r113.1.States, I r113.1.Kinds, I r113.1.Init, Sl a114 r113.1.Rows c115]))]⟩ fun ρ a w223 χ224 hS hE hr => ?_
  replace hO := hO.mv hE rfl rfl
  replace h116 := h116.mv hE rfl
  replace h119 := h119.mv hE rfl
  clear hE hr
  refine wseq ?_
  refine rP T hS ⟨[(0, Z s_), (2, Pt 3 0), (3, I r113.2.2.1), (4, I r113.2.2.2), (5, Pt 6 0), (6, Sl a117 r113.2.1 c118), (29, B (r113.2.2.2 != 0))], [(3, (28, [I 0, I 0, I 0, V (.slice none 0 0), V (.slice none 0 0)])), (6, (25, [I r113.1.States, I r113.1.Kinds, I r113.1.Init, Sl a114 r113.1.Rows c115]))]⟩ fun a hS => ?_
  refine wcond hS (b := (r113.2.2.2 != 0)) kr (fun hb => ?_) (fun hb => ?_)
  ·replace hm := hm.1 hb
   refine rM T hS ⟨[(2, Pt 3 0), (3, I r113.2.2.1), (4, I r113.2.2.2)], [(3, (28, [I 0, I 0, I 0, V (.slice none 0 0), V (.slice none 0 0)]))]⟩ fun ρ a w120 χ121 hS hE hr => ?_
   replace hO := hO.mv hE rfl rfl
   clear hE hr
   refine wret ?_
   exact fin T hS hO (fun c => c) rfl (r := [.agg #[.int .i64 0, .int .i64 0, .int .i64 0, .slice none 0 0, .slice none 0 0], .int .i64 r113.2.2.1, .int .i64 r113.2.2.2]) kr (fun χ' hM hC => ⟨((⟨(⟨0, 0, 0, []⟩ : Api_Object), []⟩ : Histtext_Case), r113.2.2.1, r113.2.2.2), hm, none, 0, none, 0, rfl, RS.empty _ _ _, RS.empty _ _ _⟩)
  ·replace hm := hm.2 hb
   refine wskip ?_
   refine rM T hS ⟨[(0, Z s_), (2, Pt 3 0), (5, Pt 6 0), (6, Sl a117 r113.2.1 c118), (7, Pt 8 0)], [(3, (28, [I 0, I 0, I 0, V (.slice none 0 0), V (.slice none 0 0)])), (6, (25, [I r113.1.States, I r113.1.Kinds, I r113.1.Init, Sl a114 r113.1.Rows c115])), (8, (28, [I r113.1.States, I r113.1.Kinds, I r113.1.Init, Sl a114 r113.1.Rows c115, V (.slice none 0 0)]))]⟩ fun ρ a w221 χ222 hS hE hr => ?_
   replace hO := hO.mv hE rfl rfl
   replace h116 := h116.mv hE rfl
   replace h119 := h119.mv hE rfl
   clear hE hr
   refine regO ?_
   refine oP T hS 3 ⟨[(0, Z s_), (2, Pt 3 0), (6, Sl a117 r113.2.1 c118), (7, Pt 8 0), (35, V (.agg #[.int .i64 r113.1.States, .int .i64 r113.1.Kinds, .int .i64 r113.1.Init, .slice a114 r113.1.Rows.length c115])), (37, I ((s_.length : Nat) : Int))], [(3, (28, [I 0, I 0, I 0, V (.slice none 0 0), V (.slice none 0 0)])), (8, (28, [I r113.1.States, I r113.1.Kinds, I r113.1.Init, Sl a114 r113.1.Rows c115, V (.slice none 0 0)]))]⟩ fun a hS => ?_
   refine op1 (call hS kr kr hb18 kr (fun _ _ => rfl) (k18 _ _ r113.1 ((s_.length : Nat) : Int) a114 c115 2130 701 702 703 h116) ?_)
   intro v122 a w123 χ124 hE hp hS
   replace hO := hO.mv hE rfl rfl
   replace h116 := h116.mv hE rfl
   replace h119 := h119.mv hE rfl
   clear hE
   obtain ⟨a126, c127, r130, b131, b132, b133, hp, h128, hc134, hc135, hc136, h129⟩ := hp
   obtain ⟨r125, hr⟩ : ∃ r, histtext_reader r113.1 ((s_.length : Nat) : Int) = r := ⟨_, rfl⟩
   replace hm := hm r125 hr
   rw [hr] at h128 hc134 hc135 h129
   clear hr
   subst hp
   replace hm := hm (h128.sm kr)
   replace hS := hS.newbox (id := 701) (t := 25) (cs := [I r125.1.States, I r125.1.Kinds, I r125.1.Init, Sl a126 r125.1.Rows c127]) kr kr hc134 rfl
   replace hS := hS.newbox (id := 702) (t := 3) (cs := [I r125.2.1]) kr kr hc135 rfl
   replace hS := hS.newbox (id := 703) (t := 100) (cs := [V (.map (some r130))]) kr kr hc136 rfl
   replace hS := hS.convS (t := 38) (x := V (.func (.func 43) #[] #[.pointer (some ⟨b131, 0, none⟩), .pointer (some ⟨b132, 0, none⟩), .pointer (some ⟨b133, 0, none⟩)])) (y := .f (.func 43) [] [.p 701 0, .p 702 0, .p 703 0]) kr rfl
   generalize (upd (upd (upd ρ 701 b131) 702 b132) 703 b133) = ρ at hS
   clear hc134 hc135 hc136
   refine eP T hS ⟨[(0, Z s_), (2, Pt 3 0), (6, Sl a117 r113.2.1 c118), (7, Pt 8 0), (8, .f (.func 43) [] [.p 701 0, .p 702 0, .p 703 0])], [(3, (28, [I 0, I 0, I 0, V (.slice none 0 0), V (.slice none 0 0)])), (8, (28, [I r113.1.States, I r113.1.Kinds, I r113.1.Init, Sl a114 r113.1.Rows c115, V (.slice none 0 0)])), (701, (25, [I r125.1.States, I r125.1.Kinds, I r125.1.Init, Sl a126 r125.1.Rows c127])), (702, (3, [I r125.2.1])), (703, (100, [V (.map (some r130))]))]⟩ fun a hS => ?_
   refine wcut (fun a w => ∃ (ρ : Nat → Nat) (χ : Nat → Nat) (x_137 : Int) (x_138 : Int) (x_139 : Int) (x_140 : List Api_Row) (x_144 : List Api_Event) (a141 : Option Addr) (c142 : Nat) (a145 : Option Addr) (c146 : Nat), VC8_J1 s_ Q x_137 x_138 x_139 x_140 x_144 ∧ St Tryd.f8.ntmps ⟨[(0, Z s_), (2, Pt 3 0), (7, Pt 8 0)], [(3, (28, [I 0, I 0, I 0, V (.slice none 0 0), V (.slice none 0 0)])), (8, (28, [I x_137, I x_138, I x_139, Sl a141 x_140 c142, Sl a145 x_144 c146]))]⟩ ρ a w χ ∧ Old w0 χ0 w χ ∧ RS tApi_Row w χ a141 x_140 c142 ∧ OS tApi_Event 51 w χ 1062 a145 x_144 c146) ?_ ?_
   ·refine rP T hS ⟨[(0, Z s_), (2, Pt 3 0), (7, Pt 8 0), (8, .f (.func 43) [] [.p 701 0, .p 702 0, .p 703 0]), (39, Sl a117 r113.2.1 c118), (40, I ((r113.2.1.length : Nat) : Int)), (41, I 0)], [(3, (28, [I 0, I 0, I 0, V (.slice none 0 0), V (.slice none 0 0)])), (8, (28, [I r113.1.States, I r113.1.Kinds, I r113.1.Init, Sl a114 r113.1.Rows c115, V (.slice none 0 0)])), (701, (25, [I r125.1.States, I r125.1.Kinds, I r125.1.Init, Sl a126 r125.1.Rows c127])), (702, (3, [I r125.2.1])), (703, (100, [V (.map (some r130))]))]⟩ fun a hS => ?_
    refine wblock ?_
    obtain ⟨I1, μ1, hm0, hm⟩ := hm
    refine wloop (σ := Int × Int × Int × Int × (List Api_Row) × (List Api_Event) × (List (Int × Int))) (fun s a w => ∃ (ρ : Nat → Nat) (χ : Nat → Nat) (a158 : Option Addr) (c159 : Nat) (a162 : Option Addr) (c163 : Nat), I1 s.1 s.2.1 s.2.2.1 s.2.2.2.1 s.2.2.2.2.1 s.2.2.2.2.2.1 s.2.2.2.2.2.2 ∧ St Tryd.f8.ntmps ⟨[(0, Z s_), (2, Pt 3 0), (7, Pt 8 0), (8, .f (.func 43) [] [.p 701 0, .p 702 0, .p 703 0]), (39, Sl a117 r113.2.1 c118), (40, I ((r113.2.1.length : Nat) : Int)), (41, I s.1)], [(3, (28, [I 0, I 0, I 0, V (.slice none 0 0), V (.slice none 0 0)])), (8, (28, [I s.2.1, I s.2.2.1, I s.2.2.2.1, Sl a158 s.2.2.2.2.1 c159, Sl a162 s.2.2.2.2.2.1 c163])), (701, (25, [I r125.1.States, I r125.1.Kinds, I r125.1.Init, Sl a126 r125.1.Rows c127])), (702, (3, [I r125.2.1])), (703, (100, [V (.map (some r130))]))]⟩ ρ a w χ ∧ Old w0 χ0 w χ ∧ RS (tSlice tToken_Token) w χ a117 r113.2.1 c118 ∧ RS tApi_Row w χ a158 s.2.2.2.2.1 c159 ∧ OS tApi_Event 51 w χ 1062 a162 s.2.2.2.2.2.1 c163 ∧ RS tApi_Row w χ a126 r125.1.Rows c127 ∧ OM kI tI false w χ 2130 r130 s.2.2.2.2.2.2) (fun s => μ1 s.1 s.2.1 s.2.2.1 s.2.2.2.1 s.2.2.2.2.1 s.2.2.2.2.2.1 s.2.2.2.2.2.2) (⟨0, r113.1.States, r113.1.Kinds, r113.1.Init, r113.1.Rows, [], r125.2.2⟩) ?_ ?_
    ·exact ⟨ρ, _, a114, c115, none, 0, hm0, hS.sl _, hO, h119, h116, (OS.nil _ _ _ _ _), h128, h129⟩
    ·rintro ⟨x_153, x_154, x_155, x_156, x_157, x_161, x_166⟩ a w218 ⟨ρ, χ217, a158, c159, a162, c163, hI, hS, hO, h152, h160, h164, h165, h167⟩
     replace hm := hm x_153 x_154 x_155 x_156 x_157 x_161 x_166 hI
     clear hI hm0
     refine rP T hS ⟨[(0, Z s_), (2, Pt 3 0), (7, Pt 8 0), (8, .f (.func 43) [] [.p 701 0, .p 702 0, .p 703 0]), (39, Sl a117 r113.2.1 c118), (40, I ((r113.2.1.length : Nat) : Int)), (41, I x_153), (42, B (decide (x_153 < ((r113.2.1.length : Nat) : Int))))], [(3, (28, [I 0, I 0, I 0, V (.slice none 0 0), V (.slice none 0 0)])), (8, (28, [I x_154, I x_155, I x_156, Sl a158 x_157 c159, Sl a162 x_161 c163])), (701, (25, [I r125.1.States, I r125.1.Kinds, I r125.1.Init, Sl a126 r125.1.Rows c127])), (702, (3, [I r125.2.1])), (703, (100, [V (.map (some r130))]))]⟩ fun a hS => ?_
     refine wseq ?_
     refine wcond hS (b := decide (x_153 < ((r113.2.1.length : Nat) : Int))) kr (fun hb => ?_) (fun hb => ?_)
     ·replace hm := hm.1 hb
      refine wskip ?_
      refine wcut (fun a w => ∃ (ρ : Nat → Nat) (χ : Nat → Nat) (x_170 : List Api_Event) (x_175 : List (Int × Int)) (a171 : Option Addr) (c172 : Nat), VC8_J2 I1 μ1 x_153 x_154 x_155 x_156 x_157 x_161 x_166 x_170 x_175 ∧ St Tryd.f8.ntmps ⟨[(0, Z s_), (2, Pt 3 0), (7, Pt 8 0), (8, .f (.func 43) [] [.p 701 0, .p 702 0, .p 703 0]), (39, Sl a117 r113.2.1 c118), (40, I ((r113.2.1.length : Nat) : Int)), (41, I x_153)], [(3, (28, [I 0, I 0, I 0, V (.slice none 0 0), V (.slice none 0 0)])), (8, (28, [I x_154, I x_155, I x_156, Sl a158 x_157 c159, Sl a171 x_170 c172])), (701, (25, [I r125.1.States, I r125.1.Kinds, I r125.1.Init, Sl a126 r125.1.Rows c127])), (702, (3, [I r125.2.1])), (703, (100, [V (.map (some r130))]))]⟩ ρ a w χ ∧ Old w0 χ0 w χ ∧ RS (tSlice tToken_Token) w χ a117 r113.2.1 c118 ∧ RS tApi_Row w χ a158 x_157 c159 ∧ OS tApi_Event 51 w χ 1062 a171 x_170 c172 ∧ RS tApi_Row w χ a126 r125.1.Rows c127 ∧ OM kI tI false w χ 2130 r130 x_175) ?_ ?_
      ·refine wblock ?_
       refine regO ?_
       obtain ⟨hq, hm⟩ := hm
       refine op1 (index (e := 47) (k := .i64) T hS kr kr kr kr h152 kr kr hq.1 hq.2 ?_)
       intro A177 a h178 hS
       clear hq
       refine op1 (load1 T hS kr kr kr h178 rfl kr ?_)
       intro v179 a hv hS
       obtain ⟨a180, c181, hv, h182⟩ := hv
       cases hv
       replace hm := hm (h182.sm kr)
       refine eP T hS ⟨[(0, Z s_), (2, Pt 3 0), (7, Pt 8 0), (8, .f (.func 43) [] [.p 701 0, .p 702 0, .p 703 0]), (10, Sl a180 (gi r113.2.1 x_153) c181), (39, Sl a117 r113.2.1 c118), (40, I ((r113.2.1.length : Nat) : Int)), (41, I x_153)], [(3, (28, [I 0, I 0, I 0, V (.slice none 0 0), V (.slice none 0 0)])), (8, (28, [I x_154, I x_155, I x_156, Sl a158 x_157 c159, Sl a162 x_161 c163])), (701, (25, [I r125.1.States, I r125.1.Kinds, I r125.1.Init, Sl a126 r125.1.Rows c127])), (702, (3, [I r125.2.1])), (703, (100, [V (.map (some r130))]))]⟩ fun a hS => ?_
       refine wseq ?_
       refine rP T hS ⟨[(0, Z s_), (2, Pt 3 0), (7, Pt 8 0), (8, .f (.func 43) [] [.p 701 0, .p 702 0, .p 703 0]), (10, Sl a180 (gi r113.2.1 x_153) c181), (39, Sl a117 r113.2.1 c118), (40, I ((r113.2.1.length : Nat) : Int)), (41, I x_153), (47, B ((((gi r113.2.1 x_153).length : Nat) : Int) == 0))], [(3, (28, [I 0, I 0, I 0, V (.slice none 0 0), V (.slice none 0 0)])), (8, (28, [I x_154, I x_155, I x_156, Sl a158 x_157 c159, Sl a162 x_161 c163])), (701, (25, [I r125.1.States, I r125.1.Kinds, I r125.1.Init, Sl a126 r125.1.Rows c127])), (702, (3, [I r125.2.1])), (703, (100, [V (.map (some r130))]))]⟩ fun a hS => ?_
       refine wcond hS (b := ((((gi r113.2.1 x_153).length : Nat) : Int) == 0)) kr (fun hb => ?_) (fun hb => ?_)
       ·replace hm := hm.1 hb
        refine wexit (by rfl) ?_
        exact ⟨ρ, _, x_161, x_166, a162, c163, hm, hS.sl _, hO, h152, h160, h164, h165, h167⟩
       ·replace hm := hm.2 hb
        refine wskip ?_
        refine regO ?_
        refine oP T hS 2 ⟨[(0, Z s_), (2, Pt 3 0), (7, Pt 8 0), (8, .f (.func 43) [] [.p 701 0, .p 702 0, .p 703 0]), (10, Sl a180 (gi r113.2.1 x_153) c181), (39, Sl a117 r113.2.1 c118), (40, I ((r113.2.1.length : Nat) : Int)), (41, I x_153), (49, .f (.func 43) [] [.p 701 0, .p 702 0, .p 703 0]), (50, Sl a180 (gi r113.2.1 x_153) c181)], [(3, (28, [I 0, I 0, I 0, V (.slice none 0 0), V (.slice none 0 0)])), (8, (28, [I x_154, I x_155, I x_156, Sl a158 x_157 c159, Sl a162 x_161 c163])), (701, (25, [I r125.1.States, I r125.1.Kinds, I r125.1.Init, Sl a126 r125.1.Rows c127])), (702, (3, [I r125.2.1])), (703, (100, [V (.map (some r130))]))]⟩ fun a hS => ?_
        obtain ⟨hq, hm⟩ := hm
        refine op1 (callCR (fi := []) (cp := [.p 701 0, .p 702 0, .p 703 0]) hS kr kr hb43 kr kr (k43 _ _ (gi r113.2.1 x_153) r125.1 r125.2.1 x_166 a180 c181 a126 c127 r130 2130 (ρ 701) 701 (ρ 702) 702 (ρ 703) 703 hq h182 h165 h167 (hS.cell (id := 701) (t := 25) (cs := [I r125.1.States, I r125.1.Kinds, I r125.1.Init, Sl a126 r125.1.Rows c127]) kr) (hS.cell (id := 702) (t := 3) (cs := [I r125.2.1]) kr) (hS.cell (id := 703) (t := 100) (cs := [V (.map (some r130))]) kr) ⟨by decide, by decide⟩) ?_)
        intro v183 a w184 χ185 hE hp hS
        clear hq
        clear h167
        replace hO := hO.mv hE rfl rfl
        replace h152 := h152.mv hE rfl
        replace h160 := h160.mv hE rfl
        replace h164 := h164.mv hE rfl rfl
        replace h165 := h165.mv hE rfl
        replace h182 := h182.mv hE rfl
        clear hE
        obtain ⟨hp, hc188, hc189, hc190, h187⟩ := hp
        obtain ⟨r186, hr⟩ : ∃ r, histtext_reader_1 (gi r113.2.1 x_153) r125.1 r125.2.1 x_166 = r := ⟨_, rfl⟩
        replace hm := hm r186 hr
        rw [hr] at hp h187
        clear hr
        subst hp
        replace hS := hS.addbox (id := 701) (t := 25) (cs := [I r125.1.States, I r125.1.Kinds, I r125.1.Init, Sl a126 r125.1.Rows c127]) kr hc188
        replace hS := hS.addbox (id := 702) (t := 3) (cs := [I r125.2.1]) kr hc189
        replace hS := hS.addbox (id := 703) (t := 100) (cs := [V (.map (some r130))]) kr hc190
        clear hc188 hc189 hc190
        refine eM T hS ⟨[(0, Z s_), (2, Pt 3 0), (7, Pt 8 0), (8, .f (.func 43) [] [.p 701 0, .p 702 0, .p 703 0]), (10, Sl a180 (gi r113.2.1 x_153) c181), (11, Pt 12 0), (12, I r186.2.1), (13, I r186.2.2.1), (39, Sl a117 r113.2.1 c118), (40, I ((r113.2.1.length : Nat) : Int)), (41, I x_153)], [(3, (28, [I 0, I 0, I 0, V (.slice none 0 0), V (.slice none 0 0)])), (8, (28, [I x_154, I x_155, I x_156, Sl a158 x_157 c159, Sl a162 x_161 c163])), (12, (51, [I r186.1.What, I r186.1.Prc, I r186.1.N])), (701, (25, [I r125.1.States, I r125.1.Kinds, I r125.1.Init, Sl a126 r125.1.Rows c127])), (702, (3, [I r125.2.1])), (703, (100, [V (.map (some r130))]))]⟩ fun ρ a w213 χ214 hS hE hr => ?_
        replace hO := hO.mv hE rfl rfl
        replace h152 := h152.mv hE rfl
        replace h160 := h160.mv hE rfl
        replace h164 := h164.mv hE rfl rfl
        replace h165 := h165.mv hE rfl
        replace h182 := h182.mv hE rfl
        replace h187 := h187.mv hE rfl rfl
        clear hE hr
        refine wseq ?_
        refine rP T hS ⟨[(0, Z s_), (2, Pt 3 0), (7, Pt 8 0), (8, .f (.func 43) [] [.p 701 0, .p 702 0, .p 703 0]), (10, Sl a180 (gi r113.2.1 x_153) c181), (11, Pt 12 0), (12, I r186.2.1), (13, I r186.2.2.1), (39, Sl a117 r113.2.1 c118), (40, I ((r113.2.1.length : Nat) : Int)), (41, I x_153), (56, B (r186.2.2.1 != 0))], [(3, (28, [I 0, I 0, I 0, V (.slice none 0 0), V (.slice none 0 0)])), (8, (28, [I x_154, I x_155, I x_156, Sl a158 x_157 c159, Sl a162 x_161 c163])), (12, (51, [I r186.1.What, I r186.1.Prc, I r186.1.N])), (701, (25, [I r125.1.States, I r125.1.Kinds, I r125.1.Init, Sl a126 r125.1.Rows c127])), (702, (3, [I r125.2.1])), (703, (100, [V (.map (some r130))]))]⟩ fun a hS => ?_
        refine wcond hS (b := (r186.2.2.1 != 0)) kr (fun hb => ?_) (fun hb => ?_)
        ·replace hm := hm.1 hb
         refine rM T hS ⟨[(2, Pt 3 0), (3, I r186.2.1), (4, I r186.2.2.1)], [(3, (28, [I 0, I 0, I 0, V (.slice none 0 0), V (.slice none 0 0)]))]⟩ fun ρ a w191 χ192 hS hE hr => ?_
         replace hO := hO.mv hE rfl rfl
         clear hE hr
         refine wret ?_
         exact fin T hS hO (fun c => c) rfl (r := [.agg #[.int .i64 0, .int .i64 0, .int .i64 0, .slice none 0 0, .slice none 0 0], .int .i64 r186.2.1, .int .i64 r186.2.2.1]) kr (fun χ' hM hC => ⟨((⟨(⟨0, 0, 0, []⟩ : Api_Object), []⟩ : Histtext_Case), r186.2.1, r186.2.2.1), hm, none, 0, none, 0, rfl, RS.empty _ _ _, RS.empty _ _ _⟩)
        ·replace hm := hm.2 hb
         refine wskip ?_
         refine wseq ?_
         refine rP T hS ⟨[(0, Z s_), (2, Pt 3 0), (7, Pt 8 0), (8, .f (.func 43) [] [.p 701 0, .p 702 0, .p 703 0]), (10, Sl a180 (gi r113.2.1 x_153) c181), (11, Pt 12 0), (39, Sl a117 r113.2.1 c118), (40, I ((r113.2.1.length : Nat) : Int)), (41, I x_153), (63, B (decide (((x_161.length : Nat) : Int) ≥ 10000)))], [(3, (28, [I 0, I 0, I 0, V (.slice none 0 0), V (.slice none 0 0)])), (8, (28, [I x_154, I x_155, I x_156, Sl a158 x_157 c159, Sl a162 x_161 c163])), (12, (51, [I r186.1.What, I r186.1.Prc, I r186.1.N])), (701, (25, [I r125.1.States, I r125.1.Kinds, I r125.1.Init, Sl a126 r125.1.Rows c127])), (702, (3, [I r125.2.1])), (703, (100, [V (.map (some r130))]))]⟩ fun a hS => ?_
         refine wcond hS (b := decide (((x_161.length : Nat) : Int) ≥ 10000)) kr (fun hb => ?_) (fun hb => ?_)
         ·replace hm := hm.1 hb
          replace hS := hS.sl ⟨[(2, Pt 3 0), (10, Sl a180 (gi r113.2.1 x_153) c181)], [(3, (28, [I 0, I 0, I 0, V (.slice none 0 0), V (.slice none 0 0)]))]⟩
          refine drawnSX [] mixed hS ?_
          intro w193 χ194 hS hE hD hH
          replace hO := hO.mv hE rfl rfl
          replace h182 := h182.mv hE rfl
          clear hE
          refine tk T [0, 1] [] hS hH #[true, true, false, false, false, false, false, false] 6 ⟨[(2, Pt 3 0), (64, V (.agg #[.int .i64 0, .int .i64 0, .int .i64 0, .slice none 0 0, .slice none 0 0])), (65, Sl a180 (gi r113.2.1 x_153) c181)], [(3, (28, [I 0, I 0, I 0, V (.slice none 0 0), V (.slice none 0 0)]))]⟩ fun a hS => ?_
          obtain ⟨hq, hm⟩ := hm
          refine dindex (e := 49) (k := .i64) T 2 hS kr kr kr (by rfl) kr hH kr kr h182 kr kr hq.1 hq.2 ?_
          intro A195 a h196 hS
          clear hq
          have h196b := h196.here
          refine dfieldA (off := 1) (fsz := 1) (ft := 3) (TF := tI) (y := (gi (gi r113.2.1 x_153) 0).At) 3 T hS kr kr kr (by rfl) kr hH kr h196 kr kr kr (fun cs h => Token_Token_f1 h) ?_
          intro A197 a h198 hbl hS
          have h198b := h196b
          rw [← hbl] at h198b
          clear hbl
          refine dload1 T 4 hS kr kr kr (by rfl) kr hH kr h198 h198b rfl kr ?_
          intro v199 a hv hS
          cases hv
          replace hS := hS.sl ⟨[(2, Pt 3 0), (64, V (.agg #[.int .i64 0, .int .i64 0, .int .i64 0, .slice none 0 0, .slice none 0 0])), (65, Sl a180 (gi r113.2.1 x_153) c181), (66, V (.pointer (some A195))), (67, V (.pointer (some A197))), (68, I ((gi (gi r113.2.1 x_153) 0).At))], [(3, (28, [I 0, I 0, I 0, V (.slice none 0 0), V (.slice none 0 0)]))]⟩
          refine only 5 kr (by rfl) (store1 T hS kr kr (sy' := ⟨[(2, Pt 3 0), (64, V (.agg #[.int .i64 0, .int .i64 0, .int .i64 0, .slice none 0 0, .slice none 0 0])), (65, Sl a180 (gi r113.2.1 x_153) c181), (66, V (.pointer (some A195))), (67, V (.pointer (some A197))), (68, I ((gi (gi r113.2.1 x_153) 0).At))], [(3, (28, [I 0, I 0, I 0, V (.slice none 0 0), V (.slice none 0 0)])), (3, (28, [I 0, I 0, I 0, V (.slice none 0 0), V (.slice none 0 0)]))]⟩) kr ?_)
          intro a w200 χ201 hS hE
          replace hO := hO.mv hE rfl rfl
          replace hD := hD.ev hE rfl
          replace h182 := h182.mv hE rfl
          replace h196 := h196.mv hE rfl
          replace h198 := h198.mv hE rfl
          clear hE
          replace hS := hS.sl ⟨[(2, Pt 3 0), (64, V (.agg #[.int .i64 0, .int .i64 0, .int .i64 0, .slice none 0 0, .slice none 0 0])), (65, Sl a180 (gi r113.2.1 x_153) c181), (66, V (.pointer (some A195))), (67, V (.pointer (some A197))), (68, I ((gi (gi r113.2.1 x_153) 0).At))], [(3, (28, [I 0, I 0, I 0, V (.slice none 0 0), V (.slice none 0 0)]))]⟩
          refine andH (Hold.of hS (bks := []) kr hD) ?_
          intro hH
          refine tk T [6, 7] [] hS hH #[true, true, true, true, true, true, true, true] 0 ⟨[(2, Pt 3 0), (3, I ((gi (gi r113.2.1 x_153) 0).At)), (4, I 3)], [(3, (28, [I 0, I 0, I 0, V (.slice none 0 0), V (.slice none 0 0)]))]⟩ fun a hS => ?_
          refine drawnDone kr ?_
          clear hD hH
          replace hS := hS.sl ⟨[(2, Pt 3 0), (3, I ((gi (gi r113.2.1 x_153) 0).At)), (4, I 3)], [(3, (28, [I 0, I 0, I 0, V (.slice none 0 0), V (.slice none 0 0)]))]⟩
          refine wret ?_
          exact fin T hS hO (fun c => c) rfl (r := [.agg #[.int .i64 0, .int .i64 0, .int .i64 0, .slice none 0 0, .slice none 0 0], .int .i64 ((gi (gi r113.2.1 x_153) 0).At), .int .i64 3]) kr (fun χ' hM hC => ⟨((⟨(⟨0, 0, 0, []⟩ : Api_Object), []⟩ : Histtext_Case), (gi (gi r113.2.1 x_153) 0).At, 3), hm, none, 0, none, 0, rfl, RS.empty _ _ _, RS.empty _ _ _⟩)
         ·replace hm := hm.2 hb
          refine wskip ?_
          refine region ?_
          refine oP T hS 3 ⟨[(0, Z s_), (2, Pt 3 0), (7, Pt 8 0), (8, .f (.func 43) [] [.p 701 0, .p 702 0, .p 703 0]), (39, Sl a117 r113.2.1 c118), (40, I ((r113.2.1.length : Nat) : Int)), (41, I x_153), (70, Sl a162 x_161 c163), (71, V (.agg #[.int .i64 r186.1.What, .int .i64 r186.1.Prc, .int .i64 r186.1.N]))], [(3, (28, [I 0, I 0, I 0, V (.slice none 0 0), V (.slice none 0 0)])), (8, (28, [I x_154, I x_155, I x_156, Sl a158 x_157 c159, Sl a162 x_161 c163])), (701, (25, [I r125.1.States, I r125.1.Kinds, I r125.1.Init, Sl a126 r125.1.Rows c127])), (702, (3, [I r125.2.1])), (703, (100, [V (.map (some r130))]))]⟩ fun a hS => ?_
          refine op1 (lit (E := 51) (col := 0) (T := tApi_Event) (vals := [.agg #[.int .i64 r186.1.What, .int .i64 r186.1.Prc, .int .i64 r186.1.N]]) (ys := [r186.1]) T hS kr kr kr kr (by exact ⟨rfl, trivial⟩) rfl kr kr kr kr ?_)
          intro b202 a w203 χ204 hE h205 hN hS
          clear hN
          replace hO := hO.mv hE rfl rfl
          replace h152 := h152.mv hE rfl
          replace h160 := h160.mv hE rfl
          replace h164 := h164.mv hE rfl rfl
          replace h165 := h165.mv hE rfl
          replace h187 := h187.mv hE rfl rfl
          clear hE
          replace h205 := h205.rs0
          obtain ⟨hq, hm⟩ := hm
          obtain ⟨news, hN⟩ := h205.src
          refine op1 (append (E := 51) (T := tApi_Event) (col := 1062) (xs := x_161) T hS kr kr kr kr h164 hN kr kr kr kr hq ?_)
          intro a209 c210 a w206 χ207 hE h208 hS
          clear hq hN
          clear h164
          replace hO := hO.mv hE rfl rfl
          replace h152 := h152.mv hE rfl
          replace h160 := h160.mv hE rfl
          replace h165 := h165.mv hE rfl
          replace h187 := h187.mv hE rfl rfl
          replace h205 := h205.mv hE rfl
          clear hE
          refine eM T hS ⟨[(0, Z s_), (2, Pt 3 0), (7, Pt 8 0), (8, .f (.func 43) [] [.p 701 0, .p 702 0, .p 703 0]), (39, Sl a117 r113.2.1 c118), (40, I ((r113.2.1.length : Nat) : Int)), (41, I x_153)], [(3, (28, [I 0, I 0, I 0, V (.slice none 0 0), V (.slice none 0 0)])), (8, (28, [I x_154, I x_155, I x_156, Sl a158 x_157 c159, Sl a209 (x_161 ++ [r186.1]) c210])), (701, (25, [I r125.1.States, I r125.1.Kinds, I r125.1.Init, Sl a126 r125.1.Rows c127])), (702, (3, [I r125.2.1])), (703, (100, [V (.map (some r130))]))]⟩ fun ρ a w211 χ212 hS hE hr => ?_
          replace hO := hO.mv hE rfl rfl
          replace h152 := h152.mv hE rfl
          replace h160 := h160.mv hE rfl
          replace h165 := h165.mv hE rfl
          replace h187 := h187.mv hE rfl rfl
          replace h208 := h208.mv hE rfl rfl
          clear hE hr
          exact ⟨ρ, _, x_161 ++ [r186.1], r186.2.2.2, a209, c210, hm, hS.sl _, hO, h152, h160, h208, h165, h187⟩
      ·rintro a w216 ⟨ρ, χ215, x_170, x_175, a171, c172, hm, hS, hO, h168, h169, h173, h174, h176⟩
       unfold VC8_J2 at hm
       refine region (eP T hS ⟨[(0, Z s_), (2, Pt 3 0), (7, Pt 8 0), (8, .f (.func 43) [] [.p 701 0, .p 702 0, .p 703 0]), (39, Sl a117 r113.2.1 c118), (40, I ((r113.2.1.length : Nat) : Int)), (41, I (IntKind.i64.wrap (x_153 + 1)))], [(3, (28, [I 0, I 0, I 0, V (.slice none 0 0), V (.slice none 0 0)])), (8, (28, [I x_154, I x_155, I x_156, Sl a158 x_157 c159, Sl a171 x_170 c172])), (701, (25, [I r125.1.States, I r125.1.Kinds, I r125.1.Init, Sl a126 r125.1.Rows c127])), (702, (3, [I r125.2.1])), (703, (100, [V (.map (some r130))]))]⟩ fun a hS => ?_)
       exact ⟨⟨IntKind.i64.wrap (x_153 + 1), x_154, x_155, x_156, x_157, x_170, x_175⟩, ⟨ρ, _, a158, c159, a171, c172, hm.1, hS.sl _, hO, h168, h169, h173, h174, h176⟩, hm.2⟩
     ·replace hm := hm.2 hb
      refine wexit (by rfl) ?_
      exact ⟨ρ, _, x_154, x_155, x_156, x_157, x_161, a158, c159, a162, c163, hm, hS.sl _, hO, h160, h164⟩
   ·rintro a w220 ⟨ρ, χ219, x_137, x_138, x_139, x_140, x_144, a141, c142, a145, c146, hm, hS, hO, h143, h147⟩
    unfold VC8_J1 at hm
    refine rM T hS ⟨[(2, Pt 3 0), (3, I ((s_.length : Nat) : Int)), (4, I 0)], [(3, (28, [I x_137, I x_138, I x_139, Sl a141 x_140 c142, Sl a145 x_144 c146]))]⟩ fun ρ a w150 χ151 hS hE hr => ?_
    replace hO := hO.mv hE rfl rfl
    replace h143 := h143.mv hE rfl
    replace h147 := h147.mv hE rfl rfl
    clear hE hr
    refine wret ?_
    obtain ⟨χ148, hE, hF⟩ := h147.freeze (by decide)
    replace hS := hS.ev hE (xone_box kr)
    replace hO := hO.mv hE rfl rfl
    replace h143 := h143.mv hE rfl
    have h149 := hF; clear hE hF
    exact fin T hS hO (fun c => c) rfl (r := [.agg #[.int .i64 x_137, .int .i64 x_138, .int .i64 x_139, .slice a141 x_140.length c142, .slice a145 x_144.length c146], .int .i64 ((s_.length : Nat) : Int), .int .i64 0]) kr (fun χ' hM hC => ⟨((⟨(⟨x_137, x_138, x_139, x_140⟩ : Api_Object), x_144⟩ : Histtext_Case), ((s_.length : Nat) : Int), 0), hm, a141, c142, a145, c146, rfl, h143.m0 hM, h149.m0 hM⟩)
theorem C8 (k16 : S16) (k17 : S17) (k18 : S18) (k43 : S43) (v : ∀ (s_ : List UInt8), VC8 s_ (fun r => r = histtext_Parse s_)) : S8 := by
 intro w χ s_    
 refine (W8 k16 k17 k18 k43 w χ s_    _ (v s_)).mono ?_
 rintro _ _ _ _ ⟨r, rfl, h⟩
 exact h
/-- strings.Join -/
theorem W54 (w0 : World) (χ0 : Nat → Nat) (elems : List (List UInt8)) (sep : List UInt8) (a1 : Option Addr) (c1 : Nat) (Q : (List UInt8) → Prop) (hm : VC54 elems sep Q) (h1 : RS tStr w0 χ0 a1 elems c1) :
  Ret Tryd.prog 54 #[.slice a1 elems.length c1, .string (bs sep)] xnone w0 χ0 (fun w χ' v => ∃ r, Q r ∧ v = .string (bs r)) := by
 unfold VC54 at hm
 replace hm := hm (h1.sm kr)
 refine enter Tryd.func54 rfl (vals := [.slice a1 elems.length c1, .string (bs sep)]) kr ?_
 intro ρ a hS hO hM
 replace h1 := h1.m0 hM
 clear hM
 refine rP T hS ⟨[(0, Sl a1 elems c1), (1, Z sep)], []⟩ fun a hS => ?_
 refine wseq ?_
 refine rP T hS ⟨[(0, Sl a1 elems c1), (1, Z sep), (12, I ((elems.length : Nat) : Int))], []⟩ fun a hS => ?_
 refine wblock ?_
 refine rP T hS ⟨[(0, Sl a1 elems c1), (1, Z sep), (12, I ((elems.length : Nat) : Int)), (13, B (((elems.length : Nat) : Int) == 0))], []⟩ fun a hS => ?_
 refine wcond hS (b := (((elems.length : Nat) : Int) == 0)) kr (fun hb => ?_) (fun hb => ?_)
 ·replace hm := hm.1 hb
  refine rP T hS ⟨[(4, Z ([] : List UInt8))], []⟩ fun a hS => ?_
  refine wret ?_
  exact fin T hS hO (fun c => c) rfl (r := [.string (bs ([] : List UInt8))]) kr (fun χ' hM hC => ⟨([] : List UInt8), hm, rfl⟩)
 ·replace hm := hm.2 hb
  refine rP T hS ⟨[(0, Sl a1 elems c1), (1, Z sep), (15, B (((elems.length : Nat) : Int) == 1))], []⟩ fun a hS => ?_
  refine wcond hS (b := (((elems.length : Nat) : Int) == 1)) kr (fun hb => ?_) (fun hb => ?_)
  ·replace hm := hm.1 hb
   refine regO ?_
   refine oP T hS 1 ⟨[(17, Sl a1 elems c1)], []⟩ fun a hS => ?_
   obtain ⟨hq, hm⟩ := hm
   refine op1 (index (e := 9) (k := .i64) T hS kr kr kr kr h1 kr kr hq.1 hq.2 ?_)
   intro A101 a h102 hS
   clear hq
   refine op1 (load1 T hS kr kr kr h102 rfl kr ?_)
   intro v103 a hv hS
   cases hv
   refine eP T hS ⟨[(4, Z (gi elems 0))], []⟩ fun a hS => ?_
   refine wret ?_
   exact fin T hS hO (fun c => c) rfl (r := [.string (bs (gi elems 0))]) kr (fun χ' hM hC => ⟨(gi elems 0), hm, rfl⟩)
  ·replace hm := hm.2 hb
   refine wskip ?_
   refine rP T hS ⟨[(0, Sl a1 elems c1), (1, Z sep), (5, I 0)], []⟩ fun a hS => ?_
   refine wcut (fun a w => ∃ (ρ : Nat → Nat) (χ : Nat → Nat) (n_105 : Int), VC54_J1 elems sep Q n_105 ∧ St Tryd.f54.ntmps ⟨[(0, Sl a1 elems c1), (1, Z sep), (5, I n_105)], []⟩ ρ a w χ ∧ Old w0 χ0 w χ ∧ RS tStr w χ a1 elems c1) ?_ ?_
   ·refine rP T hS ⟨[(0, Sl a1 elems c1), (1, Z sep), (5, I 0), (22, B (decide (((sep.length : Nat) : Int) > 0)))], []⟩ fun a hS => ?_
    refine wcond hS (b := decide (((sep.length : Nat) : Int) > 0)) kr (fun hb => ?_) (fun hb => ?_)
    ·replace hm := hm.1 hb
     refine wseq ?_
     refine regO ?_
     refine oP T hS 5 ⟨[(0, Sl a1 elems c1), (1, Z sep), (5, I 0), (24, I ((sep.length : Nat) : Int)), (27, I (IntKind.i64.wrap (((elems.length : Nat) : Int) - 1)))], []⟩ fun a hS => ?_
     obtain ⟨hq, hm⟩ := hm
     refine op1 (quo (k := .i64) (p := 9223372036854775807) (q := IntKind.i64.wrap (((elems.length : Nat) : Int) - 1)) hS kr kr kr kr hq ?_)
     intro a hS
     clear hq
     refine eP T hS ⟨[(0, Sl a1 elems c1), (1, Z sep), (5, I 0), (29, B (decide (((sep.length : Nat) : Int) ≥ (IntKind.i64.wrap ((9223372036854775807 : Int).tdiv (IntKind.i64.wrap (((elems.length : Nat) : Int) - 1)))))))], []⟩ fun a hS => ?_
     refine wcond hS (b := decide (((sep.length : Nat) : Int) ≥ (IntKind.i64.wrap ((9223372036854775807 : Int).tdiv (IntKind.i64.wrap (((elems.length : Nat) : Int) - 1)))))) kr (fun hb => ?_) (fun hb => ?_)
     ·replace hm := hm.1 hb
      exact hm.elim
     ·replace hm := hm.2 hb
      refine wskip ?_
      refine region (eP T hS ⟨[(0, Sl a1 elems c1), (1, Z sep), (5, I (IntKind.i64.wrap (0 + (IntKind.i64.wrap (((sep.length : Nat) : Int) * (IntKind.i64.wrap (((elems.length : Nat) : Int) - 1)))))))], []⟩ fun a hS => ?_)
      exact ⟨ρ, _, IntKind.i64.wrap (0 + (IntKind.i64.wrap (((sep.length : Nat) : Int) * (IntKind.i64.wrap (((elems.length : Nat) : Int) - 1))))), hm, hS.sl _, hO, h1⟩
    ·replace hm := hm.2 hb
     refine wskip ?_
     exact ⟨ρ, _, 0, hm, hS.sl _, hO, h1⟩
   ·rintro a w163 ⟨ρ, χ162, n_105, hm, hS, hO, h104⟩
    unfold VC54_J1 at hm
    refine wcut (fun a w => ∃ (ρ : Nat → Nat) (χ : Nat → Nat) (n_107 : Int), VC54_J2 elems sep Q n_107 ∧ St Tryd.f54.ntmps ⟨[(0, Sl a1 elems c1), (1, Z sep), (5, I n_107)], []⟩ ρ a w χ ∧ Old w0 χ0 w χ ∧ RS tStr w χ a1 elems c1) ?_ ?_
    ·refine rP T hS ⟨[(0, Sl a1 elems c1), (1, Z sep), (5, I n_105), (39, Sl a1 elems c1), (40, I ((elems.length : Nat) : Int)), (41, I 0)], []⟩ fun a hS => ?_
     refine wblock ?_
     obtain ⟨I2, μ2, hm0, hm⟩ := hm
     refine wloop (σ := Int × Int) (fun s a w => ∃ (ρ : Nat → Nat) (χ : Nat → Nat), I2 s.1 s.2 ∧ St Tryd.f54.ntmps ⟨[(0, Sl a1 elems c1), (1, Z sep), (5, I s.1), (39, Sl a1 elems c1), (40, I ((elems.length : Nat) : Int)), (41, I s.2)], []⟩ ρ a w χ ∧ Old w0 χ0 w χ ∧ RS tStr w χ a1 elems c1 ∧ RS tStr w χ a1 elems c1) (fun s => μ2 s.1 s.2) (⟨n_105, 0⟩) ?_ ?_
     ·exact ⟨ρ, _, hm0, hS.sl _, hO, h104, h104⟩
     ·rintro ⟨n_152, x_154⟩ a w159 ⟨ρ, χ158, hI, hS, hO, h151, h153⟩
      replace hm := hm n_152 x_154 hI
      clear hI hm0
      refine rP T hS ⟨[(0, Sl a1 elems c1), (1, Z sep), (5, I n_152), (39, Sl a1 elems c1), (40, I ((elems.length : Nat) : Int)), (41, I x_154), (42, B (decide (x_154 < ((elems.length : Nat) : Int))))], []⟩ fun a hS => ?_
      refine wseq ?_
      refine wcond hS (b := decide (x_154 < ((elems.length : Nat) : Int))) kr (fun hb => ?_) (fun hb => ?_)
      ·replace hm := hm.1 hb
       refine wskip ?_
       refine wseq ?_
       refine wblock ?_
       refine regO ?_
       obtain ⟨hq, hm⟩ := hm
       refine op1 (index (e := 9) (k := .i64) T hS kr kr kr kr h153 kr kr hq.1 hq.2 ?_)
       intro A155 a h156 hS
       clear hq
       refine op1 (load1 T hS kr kr kr h156 rfl kr ?_)
       intro v157 a hv hS
       cases hv
       refine eP T hS ⟨[(0, Sl a1 elems c1), (1, Z sep), (5, I n_152), (7, Z (gi elems x_154)), (39, Sl a1 elems c1), (40, I ((elems.length : Nat) : Int)), (41, I x_154)], []⟩ fun a hS => ?_
       refine wseq ?_
       refine rP T hS ⟨[(0, Sl a1 elems c1), (1, Z sep), (5, I n_152), (7, Z (gi elems x_154)), (39, Sl a1 elems c1), (40, I ((elems.length : Nat) : Int)), (41, I x_154), (49, B (decide ((((gi elems x_154).length : Nat) : Int) > (IntKind.i64.wrap (9223372036854775807 - n_152)))))], []⟩ fun a hS => ?_
       refine wcond hS (b := decide ((((gi elems x_154).length : Nat) : Int) > (IntKind.i64.wrap (9223372036854775807 - n_152)))) kr (fun hb => ?_) (fun hb => ?_)
       ·replace hm := hm.1 hb
        exact hm.elim
       ·replace hm := hm.2 hb
        refine wskip ?_
        refine region (eP T hS ⟨[(0, Sl a1 elems c1), (1, Z sep), (5, I (IntKind.i64.wrap (n_152 + (((gi elems x_154).length : Nat) : Int)))), (39, Sl a1 elems c1), (40, I ((elems.length : Nat) : Int)), (41, I x_154)], []⟩ fun a hS => ?_)
        refine region (eP T hS ⟨[(0, Sl a1 elems c1), (1, Z sep), (5, I (IntKind.i64.wrap (n_152 + (((gi elems x_154).length : Nat) : Int)))), (39, Sl a1 elems c1), (40, I ((elems.length : Nat) : Int)), (41, I (IntKind.i64.wrap (x_154 + 1)))], []⟩ fun a hS => ?_)
        exact ⟨⟨IntKind.i64.wrap (n_152 + (((gi elems x_154).length : Nat) : Int)), IntKind.i64.wrap (x_154 + 1)⟩, ⟨ρ, _, hm.1, hS.sl _, hO, h151, h153⟩, hm.2⟩
      ·replace hm := hm.2 hb
       refine wexit (by rfl) ?_
       exact ⟨ρ, _, n_152, hm, hS.sl _, hO, h151⟩
    ·rintro a w161 ⟨ρ, χ160, n_107, hm, hS, hO, h106⟩
     unfold VC54_J2 at hm
     refine regO ?_
     refine op1 (mkbldN T 71  1009 hS kr kr kr ?_)
     intro r108 a w109 χ110 hE h111 hS
     replace hO := hO.mv hE rfl rfl
     replace h106 := h106.mv hE rfl
     clear hE
     refine doneK ?_
     refine regO ?_
     refine oP T hS 1 ⟨[(0, Sl a1 elems c1), (1, Z sep), (8, V (.pointer (some ⟨r108, 0, none⟩))), (56, I n_107)], []⟩ fun a hS => ?_
     obtain ⟨hq, hm⟩ := hm
     refine op1 (call hS kr kr hb71 kr (xone_box kr) (gr r108 1009 n_107 _ _ h111 hq.1 hq.2) ?_)
     intro v115 a w112 χ113 hE hp hS
     clear hq
     clear h111
     replace hO := hO.mv hE rfl rfl
     replace h106 := h106.mv hE rfl
     clear hE
     obtain ⟨hp, h114⟩ := hp
     subst hp
     refine doneK ?_
     refine regO ?_
     refine oP T hS 1 ⟨[(0, Sl a1 elems c1), (1, Z sep), (8, V (.pointer (some ⟨r108, 0, none⟩))), (58, Sl a1 elems c1)], []⟩ fun a hS => ?_
     obtain ⟨hq, hm⟩ := hm
     refine op1 (index (e := 9) (k := .i64) T hS kr kr kr kr h106 kr kr hq.1 hq.2 ?_)
     intro A116 a h117 hS
     clear hq
     refine op1 (load1 T hS kr kr kr h117 rfl kr ?_)
     intro v118 a hv hS
     cases hv
     obtain ⟨hq, hm⟩ := hm
     refine op1 (call hS kr kr hb26 kr (xone_box kr) (ws r108 1009 ([] : List UInt8) (gi elems 0) _ _ h114 hq) ?_)
     intro v122 a w119 χ120 hE hp hS
     clear hq
     clear h114
     replace hO := hO.mv hE rfl rfl
     replace h106 := h106.mv hE rfl
     replace h117 := h117.mv hE rfl
     clear hE
     obtain ⟨hp, h121⟩ := hp
     subst hp
     refine doneK ?_
     refine wcut (fun a w => ∃ (ρ : Nat → Nat) (χ : Nat → Nat) (b_123 : List UInt8), VC54_J3 Q b_123 ∧ St Tryd.f54.ntmps ⟨[(8, V (.pointer (some ⟨r108, 0, none⟩)))], []⟩ ρ a w χ ∧ Old w0 χ0 w χ ∧ BL 71 5 w χ 1009 r108 b_123) ?_ ?_
     ·refine regO ?_
      refine oP T hS 1 ⟨[(1, Z sep), (8, V (.pointer (some ⟨r108, 0, none⟩))), (62, Sl a1 elems c1)], []⟩ fun a hS => ?_
      obtain ⟨hq, hm⟩ := hm
      refine op1 (slice1 (E := 9) (kl := .i64) T hS kr kr kr kr h106 kr kr hq.1 hq.2 ?_)
      intro a129 c130 a h131 hS
      clear hq
      refine eP T hS ⟨[(1, Z sep), (8, V (.pointer (some ⟨r108, 0, none⟩))), (63, Sl a129 (elems.drop (1 : Int).toNat) c130), (64, I (((elems.drop (1 : Int).toNat).length : Nat) : Int)), (65, I 0)], []⟩ fun a hS => ?_
      refine wblock ?_
      obtain ⟨I1, μ1, hm0, hm⟩ := hm
      refine wloop (σ := (List UInt8) × Int) (fun s a w => ∃ (ρ : Nat → Nat) (χ : Nat → Nat), I1 s.1 s.2 ∧ St Tryd.f54.ntmps ⟨[(1, Z sep), (8, V (.pointer (some ⟨r108, 0, none⟩))), (63, Sl a129 (elems.drop (1 : Int).toNat) c130), (64, I (((elems.drop (1 : Int).toNat).length : Nat) : Int)), (65, I s.2)], []⟩ ρ a w χ ∧ Old w0 χ0 w χ ∧ BL 71 5 w χ 1009 r108 s.1 ∧ RS tStr w χ a129 (elems.drop (1 : Int).toNat) c130) (fun s => μ1 s.1 s.2) (⟨([] : List UInt8) ++ (gi elems 0), 0⟩) ?_ ?_
      ·exact ⟨ρ, _, hm0, hS.sl _, hO, h121, h131⟩
      ·rintro ⟨b_132, x_135⟩ a w148 ⟨ρ, χ147, hI, hS, hO, h133, h134⟩
       replace hm := hm b_132 x_135 hI
       clear hI hm0
       refine rP T hS ⟨[(1, Z sep), (8, V (.pointer (some ⟨r108, 0, none⟩))), (63, Sl a129 (elems.drop (1 : Int).toNat) c130), (64, I (((elems.drop (1 : Int).toNat).length : Nat) : Int)), (65, I x_135), (66, B (decide (x_135 < (((elems.drop (1 : Int).toNat).length : Nat) : Int))))], []⟩ fun a hS => ?_
       refine wseq ?_
       refine wcond hS (b := decide (x_135 < (((elems.drop (1 : Int).toNat).length : Nat) : Int))) kr (fun hb => ?_) (fun hb => ?_)
       ·replace hm := hm.1 hb
        refine wskip ?_
        refine wseq ?_
        refine wblock ?_
        refine regO ?_
        obtain ⟨hq, hm⟩ := hm
        refine op1 (index (e := 9) (k := .i64) T hS kr kr kr kr h134 kr kr hq.1 hq.2 ?_)
        intro A136 a h137 hS
        clear hq
        refine op1 (load1 T hS kr kr kr h137 rfl kr ?_)
        intro v138 a hv hS
        cases hv
        refine eP T hS ⟨[(1, Z sep), (8, V (.pointer (some ⟨r108, 0, none⟩))), (10, Z (gi (elems.drop (1 : Int).toNat) x_135)), (63, Sl a129 (elems.drop (1 : Int).toNat) c130), (64, I (((elems.drop (1 : Int).toNat).length : Nat) : Int)), (65, I x_135)], []⟩ fun a hS => ?_
        refine regO ?_
        refine oP T hS 1 ⟨[(1, Z sep), (8, V (.pointer (some ⟨r108, 0, none⟩))), (10, Z (gi (elems.drop (1 : Int).toNat) x_135)), (63, Sl a129 (elems.drop (1 : Int).toNat) c130), (64, I (((elems.drop (1 : Int).toNat).length : Nat) : Int)), (65, I x_135), (69, Z sep)], []⟩ fun a hS => ?_
        obtain ⟨hq, hm⟩ := hm
        refine op1 (call hS kr kr hb26 kr (xone_box kr) (ws r108 1009 b_132 sep _ _ h133 hq) ?_)
        intro v142 a w139 χ140 hE hp hS
        clear hq
        clear h133
        replace hO := hO.mv hE rfl rfl
        replace h134 := h134.mv hE rfl
        clear hE
        obtain ⟨hp, h141⟩ := hp
        subst hp
        refine doneK ?_
        refine region ?_
        refine oP T hS 1 ⟨[(1, Z sep), (8, V (.pointer (some ⟨r108, 0, none⟩))), (63, Sl a129 (elems.drop (1 : Int).toNat) c130), (64, I (((elems.drop (1 : Int).toNat).length : Nat) : Int)), (65, I x_135), (71, Z (gi (elems.drop (1 : Int).toNat) x_135))], []⟩ fun a hS => ?_
        obtain ⟨hq, hm⟩ := hm
        refine op1 (call hS kr kr hb26 kr (xone_box kr) (ws r108 1009 (b_132 ++ sep) (gi (elems.drop (1 : Int).toNat) x_135) _ _ h141 hq) ?_)
        intro v146 a w143 χ144 hE hp hS
        clear hq
        clear h141
        replace hO := hO.mv hE rfl rfl
        replace h134 := h134.mv hE rfl
        clear hE
        obtain ⟨hp, h145⟩ := hp
        subst hp
        refine doneK ?_
        refine region (eP T hS ⟨[(1, Z sep), (8, V (.pointer (some ⟨r108, 0, none⟩))), (63, Sl a129 (elems.drop (1 : Int).toNat) c130), (64, I (((elems.drop (1 : Int).toNat).length : Nat) : Int)), (65, I (IntKind.i64.wrap (x_135 + 1)))], []⟩ fun a hS => ?_)
        exact ⟨⟨(b_132 ++ sep) ++ (gi (elems.drop (1 : Int).toNat) x_135), IntKind.i64.wrap (x_135 + 1)⟩, ⟨ρ, _, hm.1, hS.sl _, hO, h145, h134⟩, hm.2⟩
       ·replace hm := hm.2 hb
        refine wexit (by rfl) ?_
        exact ⟨ρ, _, b_132, hm, hS.sl _, hO, h133⟩
     ·rintro a w150 ⟨ρ, χ149, b_123, hm, hS, hO, h124⟩
      unfold VC54_J3 at hm
      refine regO ?_
      refine op1 (call hS kr kr hb29 kr (xone_box kr) (st r108 1009 b_123 _ _ h124) ?_)
      intro v128 a w125 χ126 hE hp hS
      clear h124
      replace hO := hO.mv hE rfl rfl
      clear hE
      subst hp
      refine eP T hS ⟨[(4, Z b_123)], []⟩ fun a hS => ?_
      refine wret ?_
      exact fin T hS hO (fun c => c) rfl (r := [.string (bs b_123)]) kr (fun χ' hM hC => ⟨b_123, hm, rfl⟩)
theorem C54 (v : ∀ (elems : List (List UInt8)) (sep : List UInt8), preJo elems sep → VC54 elems sep (fun r => r = strings_Join elems sep)) : S54 := by
 intro w χ elems sep a1 c1   hp h1
 refine (W54 w χ elems sep a1 c1   _ (v elems sep hp) h1).mono ?_
 rintro _ _ _ _ ⟨r, rfl, h⟩
 exact h
end Go.Proofs.YtcjldfbgccmpkaaDoor
