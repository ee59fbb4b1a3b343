/- Texts of this seat, merged: QSpecL15Ok, QSpecL00Max, QSpecL03Tone. -/
import Derived.Test.YtinlejhffokbaaaGSM1
import Derived.Test.YtinlejhffokbaaaGSM2
import Derived.Test.YtinlejhffokbaaaGSM10
import Derived.Test.YtinlejhffokbaaaGSM13
section
namespace Go.Proofs.Ytinlejhffokbaaa.P
open Go.RowKit Go.Proofs.YtinlejhffokbaaaW.PrintWords Go.Proofs.YtinlejhffokbaaaW.PrintLast Go.Proofs.YtinlejhffokbaaaW.PrintMore
attribute [local go_sem] max2_int min2_int max_two min_two max_three min_three max_four min_four
set_option linter.unusedVariables false
set_option linter.unusedSimpArgs false
set_option maxHeartbeats 16000000
set_option maxRecDepth 100000
def spec_l15Ok.K0 : Array Bool := (bm 66 0)
def spec_l15Ok.K1 : Array Bool := (bm 66 1)
def spec_l15Ok.K2 : Array Bool := (bm 66 3)
def spec_l15Ok.K3 : Array Bool := (bm 66 7)
def spec_l15Ok.K4 : Array Bool := (bm 66 15)
def spec_l15Ok.K5 : Array Bool := (bm 66 31)
def spec_l15Ok.K6 : Array Bool := (bm 66 63)
def spec_l15Ok.K7 : Array Bool := (bm 66 127)
def spec_l15Ok.K8 : Array Bool := (bm 66 255)
def spec_l15Ok.K9 : Array Bool := (bm 66 511)
def spec_l15Ok.K10 : Array Bool := (bm 66 1023)
def spec_l15Ok.K11 : Array Bool := (bm 66 2047)
def spec_l15Ok.K12 : Array Bool := (bm 66 4095)
def spec_l15Ok.K13 : Array Bool := (bm 66 8191)
def spec_l15Ok.K14 : Array Bool := (bm 66 16383)
def spec_l15Ok.K15 : Array Bool := (bm 66 32767)
def spec_l15Ok.K16 : Array Bool := (bm 66 65535)
def spec_l15Ok.K17 : Array Bool := (bm 66 131071)
def spec_l15Ok.K18 : Array Bool := (bm 66 262143)
def spec_l15Ok.K19 : Array Bool := (bm 66 786431)
def spec_l15Ok.K20 : Array Bool := (bm 66 1835007)
def spec_l15Ok.K21 : Array Bool := (bm 66 3932159)
def spec_l15Ok.K22 : Array Bool := (bm 66 4194303)
def spec_l15Ok.K23 : Array Bool := (bm 66 8388607)
def spec_l15Ok.K24 : Array Bool := (bm 66 16777215)
def spec_l15Ok.K25 : Array Bool := (bm 66 33554431)
def spec_l15Ok.K26 : Array Bool := (bm 66 67108863)
def spec_l15Ok.K27 : Array Bool := (bm 66 134217727)
def spec_l15Ok.K28 : Array Bool := (bm 66 268435455)
def spec_l15Ok.K29 : Array Bool := (bm 66 536870911)
def spec_l15Ok.K30 : Array Bool := (bm 66 1073741823)
def spec_l15Ok.K31 : Array Bool := (bm 66 3221225471)
def spec_l15Ok.K32 : Array Bool := (bm 66 7516192767)
def spec_l15Ok.K33 : Array Bool := (bm 66 16106127359)
def spec_l15Ok.K34 : Array Bool := (bm 66 50465865727)
def spec_l15Ok.K35 : Array Bool := (bm 66 119185342463)
def spec_l15Ok.K36 : Array Bool := (bm 66 256624295935)
def spec_l15Ok.K37 : Array Bool := (bm 66 257698037759)
def spec_l15Ok.K38 : Array Bool := (bm 66 274877906943)
def spec_l15Ok.K39 : Array Bool := (bm 66 549755813887)
def spec_l15Ok.K40 : Array Bool := (bm 66 1099511627775)
def spec_l15Ok.K41 : Array Bool := (bm 66 2199023255551)
def spec_l15Ok.K42 : Array Bool := (bm 66 4398046511103)
def spec_l15Ok.K43 : Array Bool := (bm 66 8796093022207)
def spec_l15Ok.K44 : Array Bool := (bm 66 17592186044415)
def spec_l15Ok.K45 : Array Bool := (bm 66 35184372088831)
def spec_l15Ok.K46 : Array Bool := (bm 66 70368744177663)
def spec_l15Ok.K47 : Array Bool := (bm 66 211106232532991)
def spec_l15Ok.K48 : Array Bool := (bm 66 492581209243647)
def spec_l15Ok.K49 : Array Bool := (bm 66 1055531162664959)
def spec_l15Ok.K50 : Array Bool := (bm 66 3307330976350207)
def spec_l15Ok.K51 : Array Bool := (bm 66 7810930603720703)
def spec_l15Ok.K52 : Array Bool := (bm 66 16818129858461695)
def spec_l15Ok.K53 : Array Bool := (bm 66 16888498602639359)
def spec_l15Ok.K54 : Array Bool := (bm 66 18014398509481983)
def spec_l15Ok.K55 : Array Bool := (bm 66 36028797018963967)
def spec_l15Ok.K56 : Array Bool := (bm 66 72057594037927935)
def spec_l15Ok.K57 : Array Bool := (bm 66 144115188075855871)
def spec_l15Ok.K58 : Array Bool := (bm 66 288230376151711743)
def spec_l15Ok.K59 : Array Bool := (bm 66 576460752303423487)
def spec_l15Ok.K60 : Array Bool := (bm 66 1152921504606846975)
def spec_l15Ok.K61 : Array Bool := (bm 66 2305843009213693951)
def spec_l15Ok.K62 : Array Bool := (bm 66 4611686018427387903)
def spec_l15Ok.K63 : Array Bool := (bm 66 9223372036854775807)
def spec_l15Ok.K64 : Array Bool := (bm 66 18446744073709551615)
def spec_l15Ok.K65 : Array Bool := (bm 66 36893488147419103231)
def spec_l15Ok.K66 : Array Bool := (bm 66 73786976294838206463)
def spec_l15Ok.K67 : Array Bool := (bm 66 140737488355327)
def spec_l15Ok.K68 : Array Bool := (bm 66 281474976710655)
def spec_l15Ok.K69 : Array Bool := (bm 66 562949953421311)
def spec_l15Ok.K70 : Array Bool := (bm 66 1125899906842623)
def spec_l15Ok.K71 : Array Bool := (bm 66 2251799813685247)
def spec_l15Ok.K72 : Array Bool := (bm 66 4503599627370495)
def spec_l15Ok.K73 : Array Bool := (bm 66 9007199254740991)
def spec_l15Ok.K74 : Array Bool := (bm 66 2147483647)
def spec_l15Ok.K75 : Array Bool := (bm 66 4294967295)
def spec_l15Ok.K76 : Array Bool := (bm 66 8589934591)
def spec_l15Ok.K77 : Array Bool := (bm 66 17179869183)
def spec_l15Ok.K78 : Array Bool := (bm 66 34359738367)
def spec_l15Ok.K79 : Array Bool := (bm 66 68719476735)
def spec_l15Ok.K80 : Array Bool := (bm 66 137438953471)
def spec_l15Ok.K81 : Array Bool := (bm 66 524287)
def spec_l15Ok.K82 : Array Bool := (bm 66 1048575)
def spec_l15Ok.K83 : Array Bool := (bm 66 2097151)
mutual
def spec_l15Ok.j0 : Nat → Bool → Int → Int → Int → Int → Int → List (List Int) → Int → Option (Bool)
 | 0, _, _, _, _, _, _, _, _ => none
 | k + 1, x69, x521000, x521001, x521002, x521003, x521004, x521005, x521006 => if x69 = true then (some false) else (spec_l15Ok.l0 k 0 x521000 x521001 x521002 x521003 x521004 x521005 x521006)
def spec_l15Ok.l0 : Nat → Int → Int → Int → Int → Int → Int → List (List Int) → Int → Option (Bool)
 | 0, _, _, _, _, _, _, _, _ => none
 | k + 1, x3, x521000, x521001, x521002, x521003, x521004, x521005, x521006 => if x3 < (x521005.length : Int) then (if 0 ≤ x3 then ((spec_l00In.f ((rd_L1 x521005 x3).length : Int) 1 8).bind fun t528 => (if t528 = true then ((spec_l05Pitches.f k (rd_L1 x521005 x3)).bind fun t530 => (if t530 = true then (spec_l15Ok.l0 k (wrap64 (x3 + 1)) x521000 x521001 x521002 x521003 x521004 x521005 x521006) else (some false))) else (some false))) else (none)) else (some (decide ((x521005.length : Int) ≤ 4)))
end
def spec_l15Ok.f (k : Nat) (a0_0 : Int) (a0_1 : Int) (a0_2 : Int) (a0_3 : Int) (a0_4 : Int) (l0_5 : List (List Int)) (a0_6 : Int) : Option (Bool) := (spec_l00In.f a0_0 1 16).bind fun t521 => (if t521 = true then ((spec_l03Pitch.f a0_3).bind fun t522 => (if t522 = true then ((spec_l00In.f a0_4 a0_3 23).bind fun t523 => (if t523 = true then ((spec_l00In.f a0_1 a0_3 a0_4).bind fun t524 => (if t524 = true then ((spec_l00In.f a0_2 a0_3 a0_4).bind fun t525 => (if t525 = true then ((spec_l00In.f a0_6 0 16).bind fun t526 => (spec_l15Ok.j0 k (!t526) a0_0 a0_1 a0_2 a0_3 a0_4 l0_5 a0_6)) else (spec_l15Ok.j0 k true a0_0 a0_1 a0_2 a0_3 a0_4 l0_5 a0_6))) else (spec_l15Ok.j0 k true a0_0 a0_1 a0_2 a0_3 a0_4 l0_5 a0_6))) else (spec_l15Ok.j0 k true a0_0 a0_1 a0_2 a0_3 a0_4 l0_5 a0_6))) else (spec_l15Ok.j0 k true a0_0 a0_1 a0_2 a0_3 a0_4 l0_5 a0_6))) else (spec_l15Ok.j0 k true a0_0 a0_1 a0_2 a0_3 a0_4 l0_5 a0_6))
def spec_l15Ok.T1 : Bool × List (List Nat × List Nat) := (true, [([], []), ([0], [0]), ([1], [1]), ([2], [2]), ([3], [3]), ([4], [4]), ([5, 4], [5]), ([6], [6]), ([7, 6], [6, 7]), ([8, 6], [6, 8]), ([9, 6], [6, 9]), ([10, 6, 6], [6, 10]), ([11, 6], [6, 11]), ([6, 12], [6, 12]), ([13, 11], [13]), ([14], [14]), ([15, 14], [14, 15]), ([16, 14], [14, 16]), ([17, 14], [14, 17]), ([14], [14]), ([19, 14], [14, 19]), ([20, 14], [14, 20]), ([21, 14], [14, 21]), ([18, 22, 14, 14], [14, 18, 22]), ([23, 14], [14, 23]), ([14, 24], [14, 24]), ([25, 23], [25]), ([26], [26]), ([27, 26], [26, 27]), ([28, 26], [26, 28]), ([29, 26], [26, 29]), ([26], [26]), ([31, 26], [26, 31]), ([32, 26], [26, 32]), ([33, 26], [26, 33]), ([26], [26]), ([35, 26], [26, 35]), ([36, 26], [26, 36]), ([37, 26], [26, 37]), ([30, 34, 38, 26, 26], [26, 30, 34, 38]), ([39, 26], [26, 39]), ([26, 40], [26, 40]), ([41, 39], [41]), ([42], [42]), ([43, 42], [42, 43]), ([44, 42], [42, 44]), ([45, 42], [42, 45]), ([42], [42]), ([47, 42], [42, 47]), ([48, 42], [42, 48]), ([49, 42], [42, 49]), ([42], [42]), ([51, 42], [42, 51]), ([52, 42], [42, 52]), ([53, 42], [42, 53]), ([46, 50, 54, 42, 42], [42, 46, 50, 54]), ([55, 42], [42, 55]), ([42, 56], [42, 56]), ([57, 55], [57]), ([58], [58]), ([59, 58], [58, 59]), ([60, 58], [58, 60]), ([61, 58], [58, 61]), ([62, 58, 58], [58, 62]), ([63, 58], [58, 63]), ([58, 64], [58, 64])])
def spec_l15Ok.B1 : List Nat := [0, 1, 3, 7, 15, 31, 63, 127, 255, 511, 1023, 2047, 4095, 8191, 16383, 32767, 65535, 131071, 262143, 32767, 557055, 1605631, 3702783, 8388607, 16777215, 33554431, 67108863, 134217727, 268435455, 536870911, 1073741823, 134217727, 2281701375, 6576668671, 15166603263, 134217727, 34493956095, 103213432831, 240652386303, 549755813887, 1099511627775, 2199023255551, 4398046511103, 8796093022207, 17592186044415, 35184372088831, 70368744177663, 8796093022207, 149533581377535, 431008558088191, 993958511509503, 8796093022207, 2260595906707455, 6764195534077951, 15771394788818943, 36028797018963967, 72057594037927935, 144115188075855871, 288230376151711743, 576460752303423487, 1152921504606846975, 2305843009213693951, 4611686018427387903, 9223372036854775807, 18446744073709551615, 36893488147419103231]
theorem spec_l15Ok.tab1 : rtab .any (opsOf Try.f94 1) = spec_l15Ok.T1 := by kernel_rfl
theorem spec_l15Ok.bits1 : waitsOk spec_l15Ok.T1.2 spec_l15Ok.B1 = true := by kernel_rfl
theorem spec_l15Ok.calls (k : Nat) (g0 : Nat) (a0_0 : Int) (a0_1 : Int) (a0_2 : Int) (a0_3 : Int) (a0_4 : Int) (A0_5 : Option Addr) (c0_5 : Nat) (l0_5 : List (List Int)) (a0_6 : Int) (r : Bool) (w : World) (hp0 : w.heap[g0]? = some (.cells #[.int .i64 a0_0, .int .i64 a0_1, .int .i64 a0_2, .int .i64 a0_3, .int .i64 a0_4, .slice A0_5 l0_5.length c0_5, .int .i64 a0_6] 62 (0, 0))) (hr0_5 : Kd.C (Kd.slice 2 (Kd.int .i64)) w A0_5 l0_5.length l0_5) (hc0_5 : l0_5.length ≤ c0_5) (h : spec_l15Ok.f k a0_0 a0_1 a0_2 a0_3 a0_4 l0_5 a0_6 = some r) :
  Calls Try.prog 94 #[.pointer (some ⟨g0, 0, none⟩)] w fun e w' => e = .returned (.bool r) ∧ Below w.heap.size w w' := by
 have HR0_5 := Aside0.mk hr0_5; have HC0_5 := Aside0.mk hc0_5; clear hr0_5 hc0_5; have HB := Aside0.mk (Below.refl w.heap.size w); have HBX0 := Aside0.mk hp0; have HBP0 := Aside0.mk hp0; clear hp0; have H : ((spec_l00In.f a0_0 1 16).bind fun t521 => (if t521 = true then ((spec_l03Pitch.f a0_3).bind fun t522 => (if t522 = true then ((spec_l00In.f a0_4 a0_3 23).bind fun t523 => (if t523 = true then ((spec_l00In.f a0_1 a0_3 a0_4).bind fun t524 => (if t524 = true then ((spec_l00In.f a0_2 a0_3 a0_4).bind fun t525 => (if t525 = true then ((spec_l00In.f a0_6 0 16).bind fun t526 => (spec_l15Ok.j0 k (!t526) a0_0 a0_1 a0_2 a0_3 a0_4 l0_5 a0_6)) else (spec_l15Ok.j0 k true a0_0 a0_1 a0_2 a0_3 a0_4 l0_5 a0_6))) else (spec_l15Ok.j0 k true a0_0 a0_1 a0_2 a0_3 a0_4 l0_5 a0_6))) else (spec_l15Ok.j0 k true a0_0 a0_1 a0_2 a0_3 a0_4 l0_5 a0_6))) else (spec_l15Ok.j0 k true a0_0 a0_1 a0_2 a0_3 a0_4 l0_5 a0_6))) else (spec_l15Ok.j0 k true a0_0 a0_1 a0_2 a0_3 a0_4 l0_5 a0_6))) = some r := h; clear h; have HC2 := Aside0.mk H; clear H; go_enter Try.func94, Try.ntmps94
 go_upto_region 1 with (fail)
 go_cut [69] (fun v69 wc => ∃ (kq : Nat) (x69_1 : Bool), v69 = .bool x69_1 ∧ Aside0 (spec_l15Ok.j0 kq x69_1 a0_0 a0_1 a0_2 a0_3 a0_4 l0_5 a0_6 = some r) ∧ Aside0 (kq ≤ k) ∧ Aside0 (wc.heap[g0]? = some (.cells #[.int .i64 a0_0, .int .i64 a0_1, .int .i64 a0_2, .int .i64 a0_3, .int .i64 a0_4, (.slice A0_5 l0_5.length c0_5), .int .i64 a0_6] 62 (0, 0))) ∧ Aside0 (Below w.heap.size w wc))
 case first =>
  have H := HC2.out; clear HC2; replace H := Option.bind_eq_some_iff.mp H; obtain ⟨t521, A30, H⟩ := H; (try dsimp only at H); have A3 := Aside0.mk A30; clear A30
  by_cases c4 : t521 = true
  ·subst c4; rw [if_pos rfl] at H; replace H := Option.bind_eq_some_iff.mp H; obtain ⟨t522, A50, H⟩ := H; (try dsimp only at H); have A5 := Aside0.mk A50; clear A50
   by_cases c6 : t522 = true
   ·subst c6; rw [if_pos rfl] at H; replace H := Option.bind_eq_some_iff.mp H; obtain ⟨t523, A70, H⟩ := H; (try dsimp only at H); have A7 := Aside0.mk A70; clear A70
    by_cases c8 : t523 = true
    ·subst c8; rw [if_pos rfl] at H; replace H := Option.bind_eq_some_iff.mp H; obtain ⟨t524, A90, H⟩ := H; (try dsimp only at H); have A9 := Aside0.mk A90; clear A90
     by_cases c10 : t524 = true
     ·subst c10; rw [if_pos rfl] at H; replace H := Option.bind_eq_some_iff.mp H; obtain ⟨t525, A110, H⟩ := H; (try dsimp only at H); have A11 := Aside0.mk A110; clear A110
      by_cases c12 : t525 = true
      ·subst c12; rw [if_pos rfl] at H; replace H := Option.bind_eq_some_iff.mp H; obtain ⟨t526, A130, H⟩ := H; (try dsimp only at H); have A13 := Aside0.mk A130; clear A130; have H' := Aside0.mk H; clear H
       try go_wp2
       have n0_ := Aside0.mk (below_drew1 HB.out); clear HB; have HB := n0_; clear n0_; refine start_ (n := 66) (S := fun w' => w'.cell? ⟨g0, 0, none⟩ = some (.int .i64 a0_0) ∧ w'.cell? ⟨g0, 1, none⟩ = some (.int .i64 a0_1) ∧ w'.cell? ⟨g0, 2, none⟩ = some (.int .i64 a0_2) ∧ w'.cell? ⟨g0, 3, none⟩ = some (.int .i64 a0_3) ∧ w'.cell? ⟨g0, 4, none⟩ = some (.int .i64 a0_4) ∧ w'.cell? ⟨g0, 5, none⟩ = some (.slice A0_5 l0_5.length c0_5) ∧ w'.cell? ⟨g0, 6, none⟩ = some (.int .i64 a0_6)) (ds := []) spec_l15Ok.K0 (by kernel_rfl) rfl rfl ⟨(blk_cell HBX0.out 0).trans rfl, (blk_cell HBX0.out 1).trans rfl, (blk_cell HBX0.out 2).trans rfl, (blk_cell HBX0.out 3).trans rfl, (blk_cell HBX0.out 4).trans rfl, (blk_cell HBX0.out 5).trans rfl, (blk_cell HBX0.out 6).trans rfl⟩ (fun hHeld => ?_); refine with_tabW spec_l15Ok.tab1 spec_l15Ok.bits1 (fun HT_ HW_ => ?_); generalize w.drew = w14 at HBX0 HB hHeld ⊢; refine pu_ HT_ 0 4 spec_l15Ok.K1 ?_; refine pu_ HT_ 1 5 spec_l15Ok.K2 ?_; refine pu_ HT_ 2 6 spec_l15Ok.K3 ?_; refine tk_ HT_ HW_ hHeld 3 7 spec_l15Ok.K4 ?_; refine one_ (i := 4) (N := some 8) spec_l15Ok.K5 rfl rfl (one_of HT_.out (by kernel_rfl)) (by decide) (fun K hK => ?_); refine goes_ Try.func58 (by kernel_rfl) rfl #[.int .i64 a0_0, .int .i64 1, .int .i64 16] (by rfl) rfl rfl av_ ?_
       (with_reducible refine (spec_l00In.calls a0_0 1 16 true _ A3.out).mono ?_)
       rintro e w' ⟨rfl, ⟨nd, rfl⟩⟩; refine ⟨_, rfl, ?_⟩; refine hK.out _ _ hHeld (fun hHeld => ?_); clear hK K; refine norm_ (a' := ?_) ?_ ?_; rotate_left
       ·show Act.put _ (some 8) _ = _
        go_simp; rfl
       refine pu_ HT_ 5 9 spec_l15Ok.K6 ?_; refine pu_ HT_ 6 10 spec_l15Ok.K7 ?_; refine pu_ HT_ 7 11 spec_l15Ok.K8 ?_; refine pu_ HT_ 8 12 spec_l15Ok.K9 ?_; refine pu_ HT_ 9 13 spec_l15Ok.K10 ?_; refine tk_ HT_ HW_ hHeld 10 14 spec_l15Ok.K11 ?_; refine one_ (i := 11) (N := some 15) spec_l15Ok.K12 rfl rfl (one_of HT_.out (by kernel_rfl)) (by decide) (fun K hK => ?_); refine goes_ Try.func86 (by kernel_rfl) rfl #[.int .i64 a0_3] (by rfl) rfl rfl av_ ?_
       (with_reducible refine (spec_l03Pitch.calls a0_3 true _ A5.out).mono ?_)
       rintro e w' ⟨rfl, ⟨nd, rfl⟩⟩; refine ⟨_, rfl, ?_⟩; refine hK.out _ _ hHeld (fun hHeld => ?_); clear hK K; refine norm_ (a' := ?_) ?_ ?_; rotate_left
       ·show Act.put _ (some 15) _ = _
        go_simp; rfl
       refine pu_ HT_ 12 16 spec_l15Ok.K13 ?_; refine pu_ HT_ 13 17 spec_l15Ok.K14 ?_; refine pu_ HT_ 14 18 spec_l15Ok.K15 ?_; refine pu_ HT_ 15 19 spec_l15Ok.K16 ?_; refine pu_ HT_ 16 20 spec_l15Ok.K17 ?_; refine pu_ HT_ 17 21 spec_l15Ok.K18 ?_; refine pu_ HT_ 19 23 spec_l15Ok.K19 ?_; refine pu_ HT_ 20 24 spec_l15Ok.K20 ?_; refine pu_ HT_ 21 25 spec_l15Ok.K21 ?_; refine tk_ HT_ HW_ hHeld 18 22 spec_l15Ok.K22 ?_; refine tk_ HT_ HW_ hHeld 22 26 spec_l15Ok.K23 ?_; refine one_ (i := 23) (N := some 27) spec_l15Ok.K24 rfl rfl (one_of HT_.out (by kernel_rfl)) (by decide) (fun K hK => ?_); refine goes_ Try.func58 (by kernel_rfl) rfl #[.int .i64 a0_4, .int .i64 a0_3, .int .i64 23] (by rfl) rfl rfl av_ ?_
       (with_reducible refine (spec_l00In.calls a0_4 a0_3 23 true _ A7.out).mono ?_)
       rintro e w' ⟨rfl, ⟨nd, rfl⟩⟩; refine ⟨_, rfl, ?_⟩; refine hK.out _ _ hHeld (fun hHeld => ?_); clear hK K; refine norm_ (a' := ?_) ?_ ?_; rotate_left
       ·show Act.put _ (some 27) _ = _
        go_simp; rfl
       refine pu_ HT_ 24 28 spec_l15Ok.K25 ?_; refine pu_ HT_ 25 29 spec_l15Ok.K26 ?_; refine pu_ HT_ 26 30 spec_l15Ok.K27 ?_; refine pu_ HT_ 27 31 spec_l15Ok.K28 ?_; refine pu_ HT_ 28 32 spec_l15Ok.K29 ?_; refine pu_ HT_ 29 33 spec_l15Ok.K30 ?_; refine pu_ HT_ 31 35 spec_l15Ok.K31 ?_; refine pu_ HT_ 32 36 spec_l15Ok.K32 ?_; refine pu_ HT_ 33 37 spec_l15Ok.K33 ?_; refine pu_ HT_ 35 39 spec_l15Ok.K34 ?_; refine pu_ HT_ 36 40 spec_l15Ok.K35 ?_; refine pu_ HT_ 37 41 spec_l15Ok.K36 ?_; refine tk_ HT_ HW_ hHeld 30 34 spec_l15Ok.K37 ?_; refine tk_ HT_ HW_ hHeld 34 38 spec_l15Ok.K38 ?_; refine tk_ HT_ HW_ hHeld 38 42 spec_l15Ok.K39 ?_; refine one_ (i := 39) (N := some 43) spec_l15Ok.K40 rfl rfl (one_of HT_.out (by kernel_rfl)) (by decide) (fun K hK => ?_); refine goes_ Try.func58 (by kernel_rfl) rfl #[.int .i64 a0_1, .int .i64 a0_3, .int .i64 a0_4] (by rfl) rfl rfl av_ ?_
       (with_reducible refine (spec_l00In.calls a0_1 a0_3 a0_4 true _ A9.out).mono ?_)
       rintro e w' ⟨rfl, ⟨nd, rfl⟩⟩; refine ⟨_, rfl, ?_⟩; refine hK.out _ _ hHeld (fun hHeld => ?_); clear hK K; refine norm_ (a' := ?_) ?_ ?_; rotate_left
       ·show Act.put _ (some 43) _ = _
        go_simp; rfl
       refine pu_ HT_ 40 44 spec_l15Ok.K41 ?_; refine pu_ HT_ 41 45 spec_l15Ok.K42 ?_; refine pu_ HT_ 42 46 spec_l15Ok.K43 ?_; refine pu_ HT_ 43 47 spec_l15Ok.K44 ?_; refine pu_ HT_ 44 48 spec_l15Ok.K45 ?_; refine pu_ HT_ 45 49 spec_l15Ok.K46 ?_; refine pu_ HT_ 47 51 spec_l15Ok.K47 ?_; refine pu_ HT_ 48 52 spec_l15Ok.K48 ?_; refine pu_ HT_ 49 53 spec_l15Ok.K49 ?_; refine pu_ HT_ 51 55 spec_l15Ok.K50 ?_; refine pu_ HT_ 52 56 spec_l15Ok.K51 ?_; refine pu_ HT_ 53 57 spec_l15Ok.K52 ?_; refine tk_ HT_ HW_ hHeld 46 50 spec_l15Ok.K53 ?_; refine tk_ HT_ HW_ hHeld 50 54 spec_l15Ok.K54 ?_; refine tk_ HT_ HW_ hHeld 54 58 spec_l15Ok.K55 ?_; refine one_ (i := 55) (N := some 59) spec_l15Ok.K56 rfl rfl (one_of HT_.out (by kernel_rfl)) (by decide) (fun K hK => ?_); refine goes_ Try.func58 (by kernel_rfl) rfl #[.int .i64 a0_2, .int .i64 a0_3, .int .i64 a0_4] (by rfl) rfl rfl av_ ?_
       (with_reducible refine (spec_l00In.calls a0_2 a0_3 a0_4 true _ A11.out).mono ?_)
       rintro e w' ⟨rfl, ⟨nd, rfl⟩⟩; refine ⟨_, rfl, ?_⟩; refine hK.out _ _ hHeld (fun hHeld => ?_); clear hK K; refine norm_ (a' := ?_) ?_ ?_; rotate_left
       ·show Act.put _ (some 59) _ = _
        go_simp; rfl
       refine pu_ HT_ 56 60 spec_l15Ok.K57 ?_; refine pu_ HT_ 57 61 spec_l15Ok.K58 ?_; refine pu_ HT_ 58 62 spec_l15Ok.K59 ?_; refine pu_ HT_ 59 63 spec_l15Ok.K60 ?_; refine pu_ HT_ 60 64 spec_l15Ok.K61 ?_; refine pu_ HT_ 61 65 spec_l15Ok.K62 ?_; refine tk_ HT_ HW_ hHeld 62 66 spec_l15Ok.K63 ?_; refine one_ (i := 63) (N := some 67) spec_l15Ok.K64 rfl rfl (one_of HT_.out (by kernel_rfl)) (by decide) (fun K hK => ?_); refine goes_ Try.func58 (by kernel_rfl) rfl #[.int .i64 a0_6, .int .i64 0, .int .i64 16] (by rfl) rfl rfl av_ ?_
       (with_reducible refine (spec_l00In.calls a0_6 0 16 t526 _ A13.out).mono ?_)
       rintro e w' ⟨rfl, ⟨nd, rfl⟩⟩; refine ⟨_, rfl, ?_⟩; refine hK.out _ _ hHeld (fun hHeld => ?_); clear hK K; refine norm_ (a' := ?_) ?_ ?_; rotate_left
       ·show Act.put _ (some 67) _ = _
        go_simp; rfl
       refine pu_ HT_ 64 68 spec_l15Ok.K65 ?_; refine pu_ HT_ 65 69 spec_l15Ok.K66 ?_; refine done_ (done_of HT_.out (by kernel_rfl)) ?_
       try go_wp2
       go_meet
       case rel => exact ⟨_, (!t526), sv_, H', ⟨by first | omega | exact Nat.le_refl _⟩, ⟨by exact blk_below HBP0.out (bb_ HB.out)⟩, ⟨bb_ HB.out⟩⟩
      ·replace c12 := Bool.eq_false_iff.mpr c12; subst c12; rw [if_neg (show ¬ (false = true) by decide)] at H; have H' := Aside0.mk H; clear H
       try go_wp2
       have n0_ := Aside0.mk (below_drew1 HB.out); clear HB; have HB := n0_; clear n0_; refine start_ (n := 66) (S := fun w' => w'.cell? ⟨g0, 0, none⟩ = some (.int .i64 a0_0) ∧ w'.cell? ⟨g0, 1, none⟩ = some (.int .i64 a0_1) ∧ w'.cell? ⟨g0, 2, none⟩ = some (.int .i64 a0_2) ∧ w'.cell? ⟨g0, 3, none⟩ = some (.int .i64 a0_3) ∧ w'.cell? ⟨g0, 4, none⟩ = some (.int .i64 a0_4) ∧ w'.cell? ⟨g0, 5, none⟩ = some (.slice A0_5 l0_5.length c0_5) ∧ w'.cell? ⟨g0, 6, none⟩ = some (.int .i64 a0_6)) (ds := []) spec_l15Ok.K0 (by kernel_rfl) rfl rfl ⟨(blk_cell HBX0.out 0).trans rfl, (blk_cell HBX0.out 1).trans rfl, (blk_cell HBX0.out 2).trans rfl, (blk_cell HBX0.out 3).trans rfl, (blk_cell HBX0.out 4).trans rfl, (blk_cell HBX0.out 5).trans rfl, (blk_cell HBX0.out 6).trans rfl⟩ (fun hHeld => ?_); refine with_tabW spec_l15Ok.tab1 spec_l15Ok.bits1 (fun HT_ HW_ => ?_); generalize w.drew = w15 at HBX0 HB hHeld ⊢; refine pu_ HT_ 0 4 spec_l15Ok.K1 ?_; refine pu_ HT_ 1 5 spec_l15Ok.K2 ?_; refine pu_ HT_ 2 6 spec_l15Ok.K3 ?_; refine tk_ HT_ HW_ hHeld 3 7 spec_l15Ok.K4 ?_; refine one_ (i := 4) (N := some 8) spec_l15Ok.K5 rfl rfl (one_of HT_.out (by kernel_rfl)) (by decide) (fun K hK => ?_); refine goes_ Try.func58 (by kernel_rfl) rfl #[.int .i64 a0_0, .int .i64 1, .int .i64 16] (by rfl) rfl rfl av_ ?_
       (with_reducible refine (spec_l00In.calls a0_0 1 16 true _ A3.out).mono ?_)
       rintro e w' ⟨rfl, ⟨nd, rfl⟩⟩; refine ⟨_, rfl, ?_⟩; refine hK.out _ _ hHeld (fun hHeld => ?_); clear hK K; refine norm_ (a' := ?_) ?_ ?_; rotate_left
       ·show Act.put _ (some 8) _ = _
        go_simp; rfl
       refine pu_ HT_ 5 9 spec_l15Ok.K6 ?_; refine pu_ HT_ 6 10 spec_l15Ok.K7 ?_; refine pu_ HT_ 7 11 spec_l15Ok.K8 ?_; refine pu_ HT_ 8 12 spec_l15Ok.K9 ?_; refine pu_ HT_ 9 13 spec_l15Ok.K10 ?_; refine tk_ HT_ HW_ hHeld 10 14 spec_l15Ok.K11 ?_; refine one_ (i := 11) (N := some 15) spec_l15Ok.K12 rfl rfl (one_of HT_.out (by kernel_rfl)) (by decide) (fun K hK => ?_); refine goes_ Try.func86 (by kernel_rfl) rfl #[.int .i64 a0_3] (by rfl) rfl rfl av_ ?_
       (with_reducible refine (spec_l03Pitch.calls a0_3 true _ A5.out).mono ?_)
       rintro e w' ⟨rfl, ⟨nd, rfl⟩⟩; refine ⟨_, rfl, ?_⟩; refine hK.out _ _ hHeld (fun hHeld => ?_); clear hK K; refine norm_ (a' := ?_) ?_ ?_; rotate_left
       ·show Act.put _ (some 15) _ = _
        go_simp; rfl
       refine pu_ HT_ 12 16 spec_l15Ok.K13 ?_; refine pu_ HT_ 13 17 spec_l15Ok.K14 ?_; refine pu_ HT_ 14 18 spec_l15Ok.K15 ?_; refine pu_ HT_ 15 19 spec_l15Ok.K16 ?_; refine pu_ HT_ 16 20 spec_l15Ok.K17 ?_; refine pu_ HT_ 17 21 spec_l15Ok.K18 ?_; refine pu_ HT_ 19 23 spec_l15Ok.K19 ?_; refine pu_ HT_ 20 24 spec_l15Ok.K20 ?_; refine pu_ HT_ 21 25 spec_l15Ok.K21 ?_; refine tk_ HT_ HW_ hHeld 18 22 spec_l15Ok.K22 ?_; refine tk_ HT_ HW_ hHeld 22 26 spec_l15Ok.K23 ?_; refine one_ (i := 23) (N := some 27) spec_l15Ok.K24 rfl rfl (one_of HT_.out (by kernel_rfl)) (by decide) (fun K hK => ?_); refine goes_ Try.func58 (by kernel_rfl) rfl #[.int .i64 a0_4, .int .i64 a0_3, .int .i64 23] (by rfl) rfl rfl av_ ?_
       (with_reducible refine (spec_l00In.calls a0_4 a0_3 23 true _ A7.out).mono ?_)
       rintro e w' ⟨rfl, ⟨nd, rfl⟩⟩; refine ⟨_, rfl, ?_⟩; refine hK.out _ _ hHeld (fun hHeld => ?_); clear hK K; refine norm_ (a' := ?_) ?_ ?_; rotate_left
       ·show Act.put _ (some 27) _ = _
        go_simp; rfl
       refine pu_ HT_ 24 28 spec_l15Ok.K25 ?_; refine pu_ HT_ 25 29 spec_l15Ok.K26 ?_; refine pu_ HT_ 26 30 spec_l15Ok.K27 ?_; refine pu_ HT_ 27 31 spec_l15Ok.K28 ?_; refine pu_ HT_ 28 32 spec_l15Ok.K29 ?_; refine pu_ HT_ 29 33 spec_l15Ok.K30 ?_; refine pu_ HT_ 31 35 spec_l15Ok.K31 ?_; refine pu_ HT_ 32 36 spec_l15Ok.K32 ?_; refine pu_ HT_ 33 37 spec_l15Ok.K33 ?_; refine pu_ HT_ 35 39 spec_l15Ok.K34 ?_; refine pu_ HT_ 36 40 spec_l15Ok.K35 ?_; refine pu_ HT_ 37 41 spec_l15Ok.K36 ?_; refine tk_ HT_ HW_ hHeld 30 34 spec_l15Ok.K37 ?_; refine tk_ HT_ HW_ hHeld 34 38 spec_l15Ok.K38 ?_; refine tk_ HT_ HW_ hHeld 38 42 spec_l15Ok.K39 ?_; refine one_ (i := 39) (N := some 43) spec_l15Ok.K40 rfl rfl (one_of HT_.out (by kernel_rfl)) (by decide) (fun K hK => ?_); refine goes_ Try.func58 (by kernel_rfl) rfl #[.int .i64 a0_1, .int .i64 a0_3, .int .i64 a0_4] (by rfl) rfl rfl av_ ?_
       (with_reducible refine (spec_l00In.calls a0_1 a0_3 a0_4 true _ A9.out).mono ?_)
       rintro e w' ⟨rfl, ⟨nd, rfl⟩⟩; refine ⟨_, rfl, ?_⟩; refine hK.out _ _ hHeld (fun hHeld => ?_); clear hK K; refine norm_ (a' := ?_) ?_ ?_; rotate_left
       ·show Act.put _ (some 43) _ = _
        go_simp; rfl
       refine pu_ HT_ 40 44 spec_l15Ok.K41 ?_; refine pu_ HT_ 41 45 spec_l15Ok.K42 ?_; refine pu_ HT_ 42 46 spec_l15Ok.K43 ?_; refine pu_ HT_ 43 47 spec_l15Ok.K44 ?_; refine pu_ HT_ 44 48 spec_l15Ok.K45 ?_; refine pu_ HT_ 45 49 spec_l15Ok.K46 ?_; refine pu_ HT_ 47 51 spec_l15Ok.K47 ?_; refine pu_ HT_ 48 52 spec_l15Ok.K48 ?_; refine pu_ HT_ 49 53 spec_l15Ok.K49 ?_; refine pu_ HT_ 51 55 spec_l15Ok.K50 ?_; refine pu_ HT_ 52 56 spec_l15Ok.K51 ?_; refine pu_ HT_ 53 57 spec_l15Ok.K52 ?_; refine tk_ HT_ HW_ hHeld 46 50 spec_l15Ok.K53 ?_; refine tk_ HT_ HW_ hHeld 50 54 spec_l15Ok.K54 ?_; refine tk_ HT_ HW_ hHeld 54 58 spec_l15Ok.K55 ?_; refine one_ (i := 55) (N := some 59) spec_l15Ok.K56 rfl rfl (one_of HT_.out (by kernel_rfl)) (by decide) (fun K hK => ?_); refine goes_ Try.func58 (by kernel_rfl) rfl #[.int .i64 a0_2, .int .i64 a0_3, .int .i64 a0_4] (by rfl) rfl rfl av_ ?_
       (with_reducible refine (spec_l00In.calls a0_2 a0_3 a0_4 false _ A11.out).mono ?_)
       rintro e w' ⟨rfl, ⟨nd, rfl⟩⟩; refine ⟨_, rfl, ?_⟩; refine hK.out _ _ hHeld (fun hHeld => ?_); clear hK K; refine norm_ (a' := ?_) ?_ ?_; rotate_left
       ·show Act.put _ (some 59) _ = _
        go_simp; rfl
       refine pu_ HT_ 56 60 spec_l15Ok.K57 ?_; refine pu_ HT_ 57 61 spec_l15Ok.K58 ?_; refine pu_ HT_ 58 62 spec_l15Ok.K59 ?_; refine un_ HT_ 59 63 spec_l15Ok.K60 ?_; refine un_ HT_ 60 64 spec_l15Ok.K61 ?_; refine un_ HT_ 61 65 spec_l15Ok.K62 ?_; refine un_ HT_ 62 66 spec_l15Ok.K63 ?_; refine un_ HT_ 63 67 spec_l15Ok.K64 ?_; refine un_ HT_ 64 68 spec_l15Ok.K65 ?_; refine pu_ HT_ 65 69 spec_l15Ok.K66 ?_; refine done_ (done_of HT_.out (by kernel_rfl)) ?_
       try go_wp2
       go_meet
       case rel => exact ⟨_, (true), sv_, H', ⟨by first | omega | exact Nat.le_refl _⟩, ⟨by exact blk_below HBP0.out (bb_ HB.out)⟩, ⟨bb_ HB.out⟩⟩
     ·replace c10 := Bool.eq_false_iff.mpr c10; subst c10; rw [if_neg (show ¬ (false = true) by decide)] at H; have H' := Aside0.mk H; clear H
      try go_wp2
      have n0_ := Aside0.mk (below_drew1 HB.out); clear HB; have HB := n0_; clear n0_; refine start_ (n := 66) (S := fun w' => w'.cell? ⟨g0, 0, none⟩ = some (.int .i64 a0_0) ∧ w'.cell? ⟨g0, 1, none⟩ = some (.int .i64 a0_1) ∧ w'.cell? ⟨g0, 2, none⟩ = some (.int .i64 a0_2) ∧ w'.cell? ⟨g0, 3, none⟩ = some (.int .i64 a0_3) ∧ w'.cell? ⟨g0, 4, none⟩ = some (.int .i64 a0_4) ∧ w'.cell? ⟨g0, 5, none⟩ = some (.slice A0_5 l0_5.length c0_5) ∧ w'.cell? ⟨g0, 6, none⟩ = some (.int .i64 a0_6)) (ds := []) spec_l15Ok.K0 (by kernel_rfl) rfl rfl ⟨(blk_cell HBX0.out 0).trans rfl, (blk_cell HBX0.out 1).trans rfl, (blk_cell HBX0.out 2).trans rfl, (blk_cell HBX0.out 3).trans rfl, (blk_cell HBX0.out 4).trans rfl, (blk_cell HBX0.out 5).trans rfl, (blk_cell HBX0.out 6).trans rfl⟩ (fun hHeld => ?_); refine with_tabW spec_l15Ok.tab1 spec_l15Ok.bits1 (fun HT_ HW_ => ?_); generalize w.drew = w16 at HBX0 HB hHeld ⊢; refine pu_ HT_ 0 4 spec_l15Ok.K1 ?_; refine pu_ HT_ 1 5 spec_l15Ok.K2 ?_; refine pu_ HT_ 2 6 spec_l15Ok.K3 ?_; refine tk_ HT_ HW_ hHeld 3 7 spec_l15Ok.K4 ?_; refine one_ (i := 4) (N := some 8) spec_l15Ok.K5 rfl rfl (one_of HT_.out (by kernel_rfl)) (by decide) (fun K hK => ?_); refine goes_ Try.func58 (by kernel_rfl) rfl #[.int .i64 a0_0, .int .i64 1, .int .i64 16] (by rfl) rfl rfl av_ ?_
      (with_reducible refine (spec_l00In.calls a0_0 1 16 true _ A3.out).mono ?_)
      rintro e w' ⟨rfl, ⟨nd, rfl⟩⟩; refine ⟨_, rfl, ?_⟩; refine hK.out _ _ hHeld (fun hHeld => ?_); clear hK K; refine norm_ (a' := ?_) ?_ ?_; rotate_left
      ·show Act.put _ (some 8) _ = _
       go_simp; rfl
      refine pu_ HT_ 5 9 spec_l15Ok.K6 ?_; refine pu_ HT_ 6 10 spec_l15Ok.K7 ?_; refine pu_ HT_ 7 11 spec_l15Ok.K8 ?_; refine pu_ HT_ 8 12 spec_l15Ok.K9 ?_; refine pu_ HT_ 9 13 spec_l15Ok.K10 ?_; refine tk_ HT_ HW_ hHeld 10 14 spec_l15Ok.K11 ?_; refine one_ (i := 11) (N := some 15) spec_l15Ok.K12 rfl rfl (one_of HT_.out (by kernel_rfl)) (by decide) (fun K hK => ?_); refine goes_ Try.func86 (by kernel_rfl) rfl #[.int .i64 a0_3] (by rfl) rfl rfl av_ ?_
      (with_reducible refine (spec_l03Pitch.calls a0_3 true _ A5.out).mono ?_)
      rintro e w' ⟨rfl, ⟨nd, rfl⟩⟩; refine ⟨_, rfl, ?_⟩; refine hK.out _ _ hHeld (fun hHeld => ?_); clear hK K; refine norm_ (a' := ?_) ?_ ?_; rotate_left
      ·show Act.put _ (some 15) _ = _
       go_simp; rfl
      refine pu_ HT_ 12 16 spec_l15Ok.K13 ?_; refine pu_ HT_ 13 17 spec_l15Ok.K14 ?_; refine pu_ HT_ 14 18 spec_l15Ok.K15 ?_; refine pu_ HT_ 15 19 spec_l15Ok.K16 ?_; refine pu_ HT_ 16 20 spec_l15Ok.K17 ?_; refine pu_ HT_ 17 21 spec_l15Ok.K18 ?_; refine pu_ HT_ 19 23 spec_l15Ok.K19 ?_; refine pu_ HT_ 20 24 spec_l15Ok.K20 ?_; refine pu_ HT_ 21 25 spec_l15Ok.K21 ?_; refine tk_ HT_ HW_ hHeld 18 22 spec_l15Ok.K22 ?_; refine tk_ HT_ HW_ hHeld 22 26 spec_l15Ok.K23 ?_; refine one_ (i := 23) (N := some 27) spec_l15Ok.K24 rfl rfl (one_of HT_.out (by kernel_rfl)) (by decide) (fun K hK => ?_); refine goes_ Try.func58 (by kernel_rfl) rfl #[.int .i64 a0_4, .int .i64 a0_3, .int .i64 23] (by rfl) rfl rfl av_ ?_
      (with_reducible refine (spec_l00In.calls a0_4 a0_3 23 true _ A7.out).mono ?_)
      rintro e w' ⟨rfl, ⟨nd, rfl⟩⟩; refine ⟨_, rfl, ?_⟩; refine hK.out _ _ hHeld (fun hHeld => ?_); clear hK K; refine norm_ (a' := ?_) ?_ ?_; rotate_left
      ·show Act.put _ (some 27) _ = _
       go_simp; rfl
      refine pu_ HT_ 24 28 spec_l15Ok.K25 ?_; refine pu_ HT_ 25 29 spec_l15Ok.K26 ?_; refine pu_ HT_ 26 30 spec_l15Ok.K27 ?_; refine pu_ HT_ 27 31 spec_l15Ok.K28 ?_; refine pu_ HT_ 28 32 spec_l15Ok.K29 ?_; refine pu_ HT_ 29 33 spec_l15Ok.K30 ?_; refine pu_ HT_ 31 35 spec_l15Ok.K31 ?_; refine pu_ HT_ 32 36 spec_l15Ok.K32 ?_; refine pu_ HT_ 33 37 spec_l15Ok.K33 ?_; refine pu_ HT_ 35 39 spec_l15Ok.K34 ?_; refine pu_ HT_ 36 40 spec_l15Ok.K35 ?_; refine pu_ HT_ 37 41 spec_l15Ok.K36 ?_; refine tk_ HT_ HW_ hHeld 30 34 spec_l15Ok.K37 ?_; refine tk_ HT_ HW_ hHeld 34 38 spec_l15Ok.K38 ?_; refine tk_ HT_ HW_ hHeld 38 42 spec_l15Ok.K39 ?_; refine one_ (i := 39) (N := some 43) spec_l15Ok.K40 rfl rfl (one_of HT_.out (by kernel_rfl)) (by decide) (fun K hK => ?_); refine goes_ Try.func58 (by kernel_rfl) rfl #[.int .i64 a0_1, .int .i64 a0_3, .int .i64 a0_4] (by rfl) rfl rfl av_ ?_
      (with_reducible refine (spec_l00In.calls a0_1 a0_3 a0_4 false _ A9.out).mono ?_)
      rintro e w' ⟨rfl, ⟨nd, rfl⟩⟩; refine ⟨_, rfl, ?_⟩; refine hK.out _ _ hHeld (fun hHeld => ?_); clear hK K; refine norm_ (a' := ?_) ?_ ?_; rotate_left
      ·show Act.put _ (some 43) _ = _
       go_simp; rfl
      refine pu_ HT_ 40 44 spec_l15Ok.K41 ?_; refine pu_ HT_ 41 45 spec_l15Ok.K42 ?_; refine pu_ HT_ 42 46 spec_l15Ok.K43 ?_; refine un_ HT_ 43 47 spec_l15Ok.K44 ?_; refine un_ HT_ 44 48 spec_l15Ok.K45 ?_; refine un_ HT_ 45 49 spec_l15Ok.K46 ?_; refine un_ HT_ 46 50 spec_l15Ok.K67 ?_; refine un_ HT_ 47 51 spec_l15Ok.K68 ?_; refine un_ HT_ 48 52 spec_l15Ok.K69 ?_; refine un_ HT_ 49 53 spec_l15Ok.K70 ?_; refine un_ HT_ 50 54 spec_l15Ok.K71 ?_; refine un_ HT_ 51 55 spec_l15Ok.K72 ?_; refine un_ HT_ 52 56 spec_l15Ok.K73 ?_; refine un_ HT_ 53 57 spec_l15Ok.K54 ?_; refine un_ HT_ 54 58 spec_l15Ok.K55 ?_; refine un_ HT_ 55 59 spec_l15Ok.K56 ?_; refine un_ HT_ 56 60 spec_l15Ok.K57 ?_; refine pu_ HT_ 57 61 spec_l15Ok.K58 ?_; refine pu_ HT_ 58 62 spec_l15Ok.K59 ?_; refine un_ HT_ 59 63 spec_l15Ok.K60 ?_; refine un_ HT_ 60 64 spec_l15Ok.K61 ?_; refine un_ HT_ 61 65 spec_l15Ok.K62 ?_; refine un_ HT_ 62 66 spec_l15Ok.K63 ?_; refine un_ HT_ 63 67 spec_l15Ok.K64 ?_; refine un_ HT_ 64 68 spec_l15Ok.K65 ?_; refine pu_ HT_ 65 69 spec_l15Ok.K66 ?_; refine done_ (done_of HT_.out (by kernel_rfl)) ?_
      try go_wp2
      go_meet
      case rel => exact ⟨_, (true), sv_, H', ⟨by first | omega | exact Nat.le_refl _⟩, ⟨by exact blk_below HBP0.out (bb_ HB.out)⟩, ⟨bb_ HB.out⟩⟩
    ·replace c8 := Bool.eq_false_iff.mpr c8; subst c8; rw [if_neg (show ¬ (false = true) by decide)] at H; have H' := Aside0.mk H; clear H
     try go_wp2
     have n0_ := Aside0.mk (below_drew1 HB.out); clear HB; have HB := n0_; clear n0_; refine start_ (n := 66) (S := fun w' => w'.cell? ⟨g0, 0, none⟩ = some (.int .i64 a0_0) ∧ w'.cell? ⟨g0, 1, none⟩ = some (.int .i64 a0_1) ∧ w'.cell? ⟨g0, 2, none⟩ = some (.int .i64 a0_2) ∧ w'.cell? ⟨g0, 3, none⟩ = some (.int .i64 a0_3) ∧ w'.cell? ⟨g0, 4, none⟩ = some (.int .i64 a0_4) ∧ w'.cell? ⟨g0, 5, none⟩ = some (.slice A0_5 l0_5.length c0_5) ∧ w'.cell? ⟨g0, 6, none⟩ = some (.int .i64 a0_6)) (ds := []) spec_l15Ok.K0 (by kernel_rfl) rfl rfl ⟨(blk_cell HBX0.out 0).trans rfl, (blk_cell HBX0.out 1).trans rfl, (blk_cell HBX0.out 2).trans rfl, (blk_cell HBX0.out 3).trans rfl, (blk_cell HBX0.out 4).trans rfl, (blk_cell HBX0.out 5).trans rfl, (blk_cell HBX0.out 6).trans rfl⟩ (fun hHeld => ?_); refine with_tabW spec_l15Ok.tab1 spec_l15Ok.bits1 (fun HT_ HW_ => ?_); generalize w.drew = w17 at HBX0 HB hHeld ⊢; refine pu_ HT_ 0 4 spec_l15Ok.K1 ?_; refine pu_ HT_ 1 5 spec_l15Ok.K2 ?_; refine pu_ HT_ 2 6 spec_l15Ok.K3 ?_; refine tk_ HT_ HW_ hHeld 3 7 spec_l15Ok.K4 ?_; refine one_ (i := 4) (N := some 8) spec_l15Ok.K5 rfl rfl (one_of HT_.out (by kernel_rfl)) (by decide) (fun K hK => ?_); refine goes_ Try.func58 (by kernel_rfl) rfl #[.int .i64 a0_0, .int .i64 1, .int .i64 16] (by rfl) rfl rfl av_ ?_
     (with_reducible refine (spec_l00In.calls a0_0 1 16 true _ A3.out).mono ?_)
     rintro e w' ⟨rfl, ⟨nd, rfl⟩⟩; refine ⟨_, rfl, ?_⟩; refine hK.out _ _ hHeld (fun hHeld => ?_); clear hK K; refine norm_ (a' := ?_) ?_ ?_; rotate_left
     ·show Act.put _ (some 8) _ = _
      go_simp; rfl
     refine pu_ HT_ 5 9 spec_l15Ok.K6 ?_; refine pu_ HT_ 6 10 spec_l15Ok.K7 ?_; refine pu_ HT_ 7 11 spec_l15Ok.K8 ?_; refine pu_ HT_ 8 12 spec_l15Ok.K9 ?_; refine pu_ HT_ 9 13 spec_l15Ok.K10 ?_; refine tk_ HT_ HW_ hHeld 10 14 spec_l15Ok.K11 ?_; refine one_ (i := 11) (N := some 15) spec_l15Ok.K12 rfl rfl (one_of HT_.out (by kernel_rfl)) (by decide) (fun K hK => ?_); refine goes_ Try.func86 (by kernel_rfl) rfl #[.int .i64 a0_3] (by rfl) rfl rfl av_ ?_
     (with_reducible refine (spec_l03Pitch.calls a0_3 true _ A5.out).mono ?_)
     rintro e w' ⟨rfl, ⟨nd, rfl⟩⟩; refine ⟨_, rfl, ?_⟩; refine hK.out _ _ hHeld (fun hHeld => ?_); clear hK K; refine norm_ (a' := ?_) ?_ ?_; rotate_left
     ·show Act.put _ (some 15) _ = _
      go_simp; rfl
     refine pu_ HT_ 12 16 spec_l15Ok.K13 ?_; refine pu_ HT_ 13 17 spec_l15Ok.K14 ?_; refine pu_ HT_ 14 18 spec_l15Ok.K15 ?_; refine pu_ HT_ 15 19 spec_l15Ok.K16 ?_; refine pu_ HT_ 16 20 spec_l15Ok.K17 ?_; refine pu_ HT_ 17 21 spec_l15Ok.K18 ?_; refine pu_ HT_ 19 23 spec_l15Ok.K19 ?_; refine pu_ HT_ 20 24 spec_l15Ok.K20 ?_; refine pu_ HT_ 21 25 spec_l15Ok.K21 ?_; refine tk_ HT_ HW_ hHeld 18 22 spec_l15Ok.K22 ?_; refine tk_ HT_ HW_ hHeld 22 26 spec_l15Ok.K23 ?_; refine one_ (i := 23) (N := some 27) spec_l15Ok.K24 rfl rfl (one_of HT_.out (by kernel_rfl)) (by decide) (fun K hK => ?_); refine goes_ Try.func58 (by kernel_rfl) rfl #[.int .i64 a0_4, .int .i64 a0_3, .int .i64 23] (by rfl) rfl rfl av_ ?_
     (with_reducible refine (spec_l00In.calls a0_4 a0_3 23 false _ A7.out).mono ?_)
     rintro e w' ⟨rfl, ⟨nd, rfl⟩⟩; refine ⟨_, rfl, ?_⟩; refine hK.out _ _ hHeld (fun hHeld => ?_); clear hK K; refine norm_ (a' := ?_) ?_ ?_; rotate_left
     ·show Act.put _ (some 27) _ = _
      go_simp; rfl
     refine pu_ HT_ 24 28 spec_l15Ok.K25 ?_; refine pu_ HT_ 25 29 spec_l15Ok.K26 ?_; refine pu_ HT_ 26 30 spec_l15Ok.K27 ?_; refine un_ HT_ 27 31 spec_l15Ok.K28 ?_; refine un_ HT_ 28 32 spec_l15Ok.K29 ?_; refine un_ HT_ 29 33 spec_l15Ok.K30 ?_; refine un_ HT_ 30 34 spec_l15Ok.K74 ?_; refine un_ HT_ 31 35 spec_l15Ok.K75 ?_; refine un_ HT_ 32 36 spec_l15Ok.K76 ?_; refine un_ HT_ 33 37 spec_l15Ok.K77 ?_; refine un_ HT_ 34 38 spec_l15Ok.K78 ?_; refine un_ HT_ 35 39 spec_l15Ok.K79 ?_; refine un_ HT_ 36 40 spec_l15Ok.K80 ?_; refine un_ HT_ 37 41 spec_l15Ok.K38 ?_; refine un_ HT_ 38 42 spec_l15Ok.K39 ?_; refine un_ HT_ 39 43 spec_l15Ok.K40 ?_; refine un_ HT_ 40 44 spec_l15Ok.K41 ?_; refine pu_ HT_ 41 45 spec_l15Ok.K42 ?_; refine pu_ HT_ 42 46 spec_l15Ok.K43 ?_; refine un_ HT_ 43 47 spec_l15Ok.K44 ?_; refine un_ HT_ 44 48 spec_l15Ok.K45 ?_; refine un_ HT_ 45 49 spec_l15Ok.K46 ?_; refine un_ HT_ 46 50 spec_l15Ok.K67 ?_; refine un_ HT_ 47 51 spec_l15Ok.K68 ?_; refine un_ HT_ 48 52 spec_l15Ok.K69 ?_; refine un_ HT_ 49 53 spec_l15Ok.K70 ?_; refine un_ HT_ 50 54 spec_l15Ok.K71 ?_; refine un_ HT_ 51 55 spec_l15Ok.K72 ?_; refine un_ HT_ 52 56 spec_l15Ok.K73 ?_; refine un_ HT_ 53 57 spec_l15Ok.K54 ?_; refine un_ HT_ 54 58 spec_l15Ok.K55 ?_; refine un_ HT_ 55 59 spec_l15Ok.K56 ?_; refine un_ HT_ 56 60 spec_l15Ok.K57 ?_; refine pu_ HT_ 57 61 spec_l15Ok.K58 ?_; refine pu_ HT_ 58 62 spec_l15Ok.K59 ?_; refine un_ HT_ 59 63 spec_l15Ok.K60 ?_; refine un_ HT_ 60 64 spec_l15Ok.K61 ?_; refine un_ HT_ 61 65 spec_l15Ok.K62 ?_; refine un_ HT_ 62 66 spec_l15Ok.K63 ?_; refine un_ HT_ 63 67 spec_l15Ok.K64 ?_; refine un_ HT_ 64 68 spec_l15Ok.K65 ?_; refine pu_ HT_ 65 69 spec_l15Ok.K66 ?_; refine done_ (done_of HT_.out (by kernel_rfl)) ?_
     try go_wp2
     go_meet
     case rel => exact ⟨_, (true), sv_, H', ⟨by first | omega | exact Nat.le_refl _⟩, ⟨by exact blk_below HBP0.out (bb_ HB.out)⟩, ⟨bb_ HB.out⟩⟩
   ·replace c6 := Bool.eq_false_iff.mpr c6; subst c6; rw [if_neg (show ¬ (false = true) by decide)] at H; have H' := Aside0.mk H; clear H
    try go_wp2
    have n0_ := Aside0.mk (below_drew1 HB.out); clear HB; have HB := n0_; clear n0_; refine start_ (n := 66) (S := fun w' => w'.cell? ⟨g0, 0, none⟩ = some (.int .i64 a0_0) ∧ w'.cell? ⟨g0, 1, none⟩ = some (.int .i64 a0_1) ∧ w'.cell? ⟨g0, 2, none⟩ = some (.int .i64 a0_2) ∧ w'.cell? ⟨g0, 3, none⟩ = some (.int .i64 a0_3) ∧ w'.cell? ⟨g0, 4, none⟩ = some (.int .i64 a0_4) ∧ w'.cell? ⟨g0, 5, none⟩ = some (.slice A0_5 l0_5.length c0_5) ∧ w'.cell? ⟨g0, 6, none⟩ = some (.int .i64 a0_6)) (ds := []) spec_l15Ok.K0 (by kernel_rfl) rfl rfl ⟨(blk_cell HBX0.out 0).trans rfl, (blk_cell HBX0.out 1).trans rfl, (blk_cell HBX0.out 2).trans rfl, (blk_cell HBX0.out 3).trans rfl, (blk_cell HBX0.out 4).trans rfl, (blk_cell HBX0.out 5).trans rfl, (blk_cell HBX0.out 6).trans rfl⟩ (fun hHeld => ?_); refine with_tabW spec_l15Ok.tab1 spec_l15Ok.bits1 (fun HT_ HW_ => ?_); generalize w.drew = w18 at HBX0 HB hHeld ⊢; refine pu_ HT_ 0 4 spec_l15Ok.K1 ?_; refine pu_ HT_ 1 5 spec_l15Ok.K2 ?_; refine pu_ HT_ 2 6 spec_l15Ok.K3 ?_; refine tk_ HT_ HW_ hHeld 3 7 spec_l15Ok.K4 ?_; refine one_ (i := 4) (N := some 8) spec_l15Ok.K5 rfl rfl (one_of HT_.out (by kernel_rfl)) (by decide) (fun K hK => ?_); refine goes_ Try.func58 (by kernel_rfl) rfl #[.int .i64 a0_0, .int .i64 1, .int .i64 16] (by rfl) rfl rfl av_ ?_
    (with_reducible refine (spec_l00In.calls a0_0 1 16 true _ A3.out).mono ?_)
    rintro e w' ⟨rfl, ⟨nd, rfl⟩⟩; refine ⟨_, rfl, ?_⟩; refine hK.out _ _ hHeld (fun hHeld => ?_); clear hK K; refine norm_ (a' := ?_) ?_ ?_; rotate_left
    ·show Act.put _ (some 8) _ = _
     go_simp; rfl
    refine pu_ HT_ 5 9 spec_l15Ok.K6 ?_; refine pu_ HT_ 6 10 spec_l15Ok.K7 ?_; refine pu_ HT_ 7 11 spec_l15Ok.K8 ?_; refine pu_ HT_ 8 12 spec_l15Ok.K9 ?_; refine pu_ HT_ 9 13 spec_l15Ok.K10 ?_; refine tk_ HT_ HW_ hHeld 10 14 spec_l15Ok.K11 ?_; refine one_ (i := 11) (N := some 15) spec_l15Ok.K12 rfl rfl (one_of HT_.out (by kernel_rfl)) (by decide) (fun K hK => ?_); refine goes_ Try.func86 (by kernel_rfl) rfl #[.int .i64 a0_3] (by rfl) rfl rfl av_ ?_
    (with_reducible refine (spec_l03Pitch.calls a0_3 false _ A5.out).mono ?_)
    rintro e w' ⟨rfl, ⟨nd, rfl⟩⟩; refine ⟨_, rfl, ?_⟩; refine hK.out _ _ hHeld (fun hHeld => ?_); clear hK K; refine norm_ (a' := ?_) ?_ ?_; rotate_left
    ·show Act.put _ (some 15) _ = _
     go_simp; rfl
    refine pu_ HT_ 12 16 spec_l15Ok.K13 ?_; refine pu_ HT_ 13 17 spec_l15Ok.K14 ?_; refine pu_ HT_ 14 18 spec_l15Ok.K15 ?_; refine un_ HT_ 15 19 spec_l15Ok.K16 ?_; refine un_ HT_ 16 20 spec_l15Ok.K17 ?_; refine un_ HT_ 17 21 spec_l15Ok.K18 ?_; refine un_ HT_ 18 22 spec_l15Ok.K81 ?_; refine un_ HT_ 19 23 spec_l15Ok.K82 ?_; refine un_ HT_ 20 24 spec_l15Ok.K83 ?_; refine un_ HT_ 21 25 spec_l15Ok.K22 ?_; refine un_ HT_ 22 26 spec_l15Ok.K23 ?_; refine un_ HT_ 23 27 spec_l15Ok.K24 ?_; refine un_ HT_ 24 28 spec_l15Ok.K25 ?_; refine pu_ HT_ 25 29 spec_l15Ok.K26 ?_; refine pu_ HT_ 26 30 spec_l15Ok.K27 ?_; refine un_ HT_ 27 31 spec_l15Ok.K28 ?_; refine un_ HT_ 28 32 spec_l15Ok.K29 ?_; refine un_ HT_ 29 33 spec_l15Ok.K30 ?_; refine un_ HT_ 30 34 spec_l15Ok.K74 ?_; refine un_ HT_ 31 35 spec_l15Ok.K75 ?_; refine un_ HT_ 32 36 spec_l15Ok.K76 ?_; refine un_ HT_ 33 37 spec_l15Ok.K77 ?_; refine un_ HT_ 34 38 spec_l15Ok.K78 ?_; refine un_ HT_ 35 39 spec_l15Ok.K79 ?_; refine un_ HT_ 36 40 spec_l15Ok.K80 ?_; refine un_ HT_ 37 41 spec_l15Ok.K38 ?_; refine un_ HT_ 38 42 spec_l15Ok.K39 ?_; refine un_ HT_ 39 43 spec_l15Ok.K40 ?_; refine un_ HT_ 40 44 spec_l15Ok.K41 ?_; refine pu_ HT_ 41 45 spec_l15Ok.K42 ?_; refine pu_ HT_ 42 46 spec_l15Ok.K43 ?_; refine un_ HT_ 43 47 spec_l15Ok.K44 ?_; refine un_ HT_ 44 48 spec_l15Ok.K45 ?_; refine un_ HT_ 45 49 spec_l15Ok.K46 ?_; refine un_ HT_ 46 50 spec_l15Ok.K67 ?_; refine un_ HT_ 47 51 spec_l15Ok.K68 ?_; refine un_ HT_ 48 52 spec_l15Ok.K69 ?_; refine un_ HT_ 49 53 spec_l15Ok.K70 ?_; refine un_ HT_ 50 54 spec_l15Ok.K71 ?_; refine un_ HT_ 51 55 spec_l15Ok.K72 ?_; refine un_ HT_ 52 56 spec_l15Ok.K73 ?_; refine un_ HT_ 53 57 spec_l15Ok.K54 ?_; refine un_ HT_ 54 58 spec_l15Ok.K55 ?_; refine un_ HT_ 55 59 spec_l15Ok.K56 ?_; refine un_ HT_ 56 60 spec_l15Ok.K57 ?_; refine pu_ HT_ 57 61 spec_l15Ok.K58 ?_; refine pu_ HT_ 58 62 spec_l15Ok.K59 ?_; refine un_ HT_ 59 63 spec_l15Ok.K60 ?_; refine un_ HT_ 60 64 spec_l15Ok.K61 ?_; refine un_ HT_ 61 65 spec_l15Ok.K62 ?_; refine un_ HT_ 62 66 spec_l15Ok.K63 ?_; refine un_ HT_ 63 67 spec_l15Ok.K64 ?_; refine un_ HT_ 64 68 spec_l15Ok.K65 ?_; refine pu_ HT_ 65 69 spec_l15Ok.K66 ?_; refine done_ (done_of HT_.out (by kernel_rfl)) ?_
    try go_wp2
    go_meet
    case rel => exact ⟨_, (true), sv_, H', ⟨by first | omega | exact Nat.le_refl _⟩, ⟨by exact blk_below HBP0.out (bb_ HB.out)⟩, ⟨bb_ HB.out⟩⟩
  ·replace c4 := Bool.eq_false_iff.mpr c4; subst c4; rw [if_neg (show ¬ (false = true) by decide)] at H; have H' := Aside0.mk H; clear H
   try go_wp2
   have n0_ := Aside0.mk (below_drew1 HB.out); clear HB; have HB := n0_; clear n0_; refine start_ (n := 66) (S := fun w' => w'.cell? ⟨g0, 0, none⟩ = some (.int .i64 a0_0) ∧ w'.cell? ⟨g0, 1, none⟩ = some (.int .i64 a0_1) ∧ w'.cell? ⟨g0, 2, none⟩ = some (.int .i64 a0_2) ∧ w'.cell? ⟨g0, 3, none⟩ = some (.int .i64 a0_3) ∧ w'.cell? ⟨g0, 4, none⟩ = some (.int .i64 a0_4) ∧ w'.cell? ⟨g0, 5, none⟩ = some (.slice A0_5 l0_5.length c0_5) ∧ w'.cell? ⟨g0, 6, none⟩ = some (.int .i64 a0_6)) (ds := []) spec_l15Ok.K0 (by kernel_rfl) rfl rfl ⟨(blk_cell HBX0.out 0).trans rfl, (blk_cell HBX0.out 1).trans rfl, (blk_cell HBX0.out 2).trans rfl, (blk_cell HBX0.out 3).trans rfl, (blk_cell HBX0.out 4).trans rfl, (blk_cell HBX0.out 5).trans rfl, (blk_cell HBX0.out 6).trans rfl⟩ (fun hHeld => ?_); refine with_tabW spec_l15Ok.tab1 spec_l15Ok.bits1 (fun HT_ HW_ => ?_); generalize w.drew = w19 at HBX0 HB hHeld ⊢; refine pu_ HT_ 0 4 spec_l15Ok.K1 ?_; refine pu_ HT_ 1 5 spec_l15Ok.K2 ?_; refine pu_ HT_ 2 6 spec_l15Ok.K3 ?_; refine tk_ HT_ HW_ hHeld 3 7 spec_l15Ok.K4 ?_; refine one_ (i := 4) (N := some 8) spec_l15Ok.K5 rfl rfl (one_of HT_.out (by kernel_rfl)) (by decide) (fun K hK => ?_); refine goes_ Try.func58 (by kernel_rfl) rfl #[.int .i64 a0_0, .int .i64 1, .int .i64 16] (by rfl) rfl rfl av_ ?_
   (with_reducible refine (spec_l00In.calls a0_0 1 16 false _ A3.out).mono ?_)
   rintro e w' ⟨rfl, ⟨nd, rfl⟩⟩; refine ⟨_, rfl, ?_⟩; refine hK.out _ _ hHeld (fun hHeld => ?_); clear hK K; refine norm_ (a' := ?_) ?_ ?_; rotate_left
   ·show Act.put _ (some 8) _ = _
    go_simp; rfl
   refine pu_ HT_ 5 9 spec_l15Ok.K6 ?_; refine pu_ HT_ 6 10 spec_l15Ok.K7 ?_; refine un_ HT_ 7 11 spec_l15Ok.K8 ?_; refine un_ HT_ 8 12 spec_l15Ok.K9 ?_; refine un_ HT_ 9 13 spec_l15Ok.K10 ?_; refine un_ HT_ 10 14 spec_l15Ok.K11 ?_; refine un_ HT_ 11 15 spec_l15Ok.K12 ?_; refine un_ HT_ 12 16 spec_l15Ok.K13 ?_; refine pu_ HT_ 13 17 spec_l15Ok.K14 ?_; refine pu_ HT_ 14 18 spec_l15Ok.K15 ?_; refine un_ HT_ 15 19 spec_l15Ok.K16 ?_; refine un_ HT_ 16 20 spec_l15Ok.K17 ?_; refine un_ HT_ 17 21 spec_l15Ok.K18 ?_; refine un_ HT_ 18 22 spec_l15Ok.K81 ?_; refine un_ HT_ 19 23 spec_l15Ok.K82 ?_; refine un_ HT_ 20 24 spec_l15Ok.K83 ?_; refine un_ HT_ 21 25 spec_l15Ok.K22 ?_; refine un_ HT_ 22 26 spec_l15Ok.K23 ?_; refine un_ HT_ 23 27 spec_l15Ok.K24 ?_; refine un_ HT_ 24 28 spec_l15Ok.K25 ?_; refine pu_ HT_ 25 29 spec_l15Ok.K26 ?_; refine pu_ HT_ 26 30 spec_l15Ok.K27 ?_; refine un_ HT_ 27 31 spec_l15Ok.K28 ?_; refine un_ HT_ 28 32 spec_l15Ok.K29 ?_; refine un_ HT_ 29 33 spec_l15Ok.K30 ?_; refine un_ HT_ 30 34 spec_l15Ok.K74 ?_; refine un_ HT_ 31 35 spec_l15Ok.K75 ?_; refine un_ HT_ 32 36 spec_l15Ok.K76 ?_; refine un_ HT_ 33 37 spec_l15Ok.K77 ?_; refine un_ HT_ 34 38 spec_l15Ok.K78 ?_; refine un_ HT_ 35 39 spec_l15Ok.K79 ?_; refine un_ HT_ 36 40 spec_l15Ok.K80 ?_; refine un_ HT_ 37 41 spec_l15Ok.K38 ?_; refine un_ HT_ 38 42 spec_l15Ok.K39 ?_; refine un_ HT_ 39 43 spec_l15Ok.K40 ?_; refine un_ HT_ 40 44 spec_l15Ok.K41 ?_; refine pu_ HT_ 41 45 spec_l15Ok.K42 ?_; refine pu_ HT_ 42 46 spec_l15Ok.K43 ?_; refine un_ HT_ 43 47 spec_l15Ok.K44 ?_; refine un_ HT_ 44 48 spec_l15Ok.K45 ?_; refine un_ HT_ 45 49 spec_l15Ok.K46 ?_; refine un_ HT_ 46 50 spec_l15Ok.K67 ?_; refine un_ HT_ 47 51 spec_l15Ok.K68 ?_; refine un_ HT_ 48 52 spec_l15Ok.K69 ?_; refine un_ HT_ 49 53 spec_l15Ok.K70 ?_; refine un_ HT_ 50 54 spec_l15Ok.K71 ?_; refine un_ HT_ 51 55 spec_l15Ok.K72 ?_; refine un_ HT_ 52 56 spec_l15Ok.K73 ?_; refine un_ HT_ 53 57 spec_l15Ok.K54 ?_; refine un_ HT_ 54 58 spec_l15Ok.K55 ?_; refine un_ HT_ 55 59 spec_l15Ok.K56 ?_; refine un_ HT_ 56 60 spec_l15Ok.K57 ?_; refine pu_ HT_ 57 61 spec_l15Ok.K58 ?_; refine pu_ HT_ 58 62 spec_l15Ok.K59 ?_; refine un_ HT_ 59 63 spec_l15Ok.K60 ?_; refine un_ HT_ 60 64 spec_l15Ok.K61 ?_; refine un_ HT_ 61 65 spec_l15Ok.K62 ?_; refine un_ HT_ 62 66 spec_l15Ok.K63 ?_; refine un_ HT_ 63 67 spec_l15Ok.K64 ?_; refine un_ HT_ 64 68 spec_l15Ok.K65 ?_; refine pu_ HT_ 65 69 spec_l15Ok.K66 ?_; refine done_ (done_of HT_.out (by kernel_rfl)) ?_
   try go_wp2
   go_meet
   case rel => exact ⟨_, (true), sv_, H', ⟨by first | omega | exact Nat.le_refl _⟩, ⟨by exact blk_below HBP0.out (bb_ HB.out)⟩, ⟨bb_ HB.out⟩⟩
 case rest =>
  clear HC2; (try clear p2); (try clear c4); (try clear c5); obtain ⟨kq, x69_1, rfl, HA, HJ1, HBX0, HB⟩ := hcut
  cases kq with
  | zero => exact absurd HA.out (by simp [spec_l15Ok.j0])
  | succ kj1 =>
   have H := HA.out; clear HA; simp only [spec_l15Ok.j0] at H
   by_cases c20 : x69_1 = true
   ·subst c20; rw [if_pos rfl] at H; obtain rfl := Option.some.inj H; go_wp2
    go_ret
    exact ⟨by first | rfl | (simp [errW_none, errW_some] <;> rfl) | (simp [*, errW_none, errW_some] <;> rfl), bb_ HB.out⟩
   ·replace c20 := Bool.eq_false_iff.mpr c20; subst c20; rw [if_neg (show ¬ (false = true) by decide)] at H; have H' := Aside0.mk H; clear H; go_wp2
    go_loopg [3] kj1 (fun kq v3 w' => ∃ (x3_2 : Int), v3 = .int .i64 x3_2 ∧ Aside0 (spec_l15Ok.l0 kq x3_2 a0_0 a0_1 a0_2 a0_3 a0_4 l0_5 a0_6 = some r) ∧ Aside0 (kq ≤ kj1) ∧ Aside0 (w'.heap[g0]? = some (.cells #[.int .i64 a0_0, .int .i64 a0_1, .int .i64 a0_2, .int .i64 a0_3, .int .i64 a0_4, (.slice A0_5 l0_5.length c0_5), .int .i64 a0_6] 62 (0, 0))) ∧ Aside0 (Below w.heap.size w w'))
    case atStart => exact ⟨(0), sv_, H', ⟨Nat.le_refl _⟩, ⟨by exact blk_below HBP0.out (bb_ HB.out)⟩, ⟨bb_ HB.out⟩⟩
    case round =>
     clear H'; (try clear c2); (try clear p2); (try clear c4); (try clear c5); (try clear c20); (try clear p2); obtain ⟨x3_2, rfl, HA, HK2, HBX0, HB⟩ := hrel
     cases gk with
     | zero => exact absurd HA.out (by simp [spec_l15Ok.l0])
     | succ k2 =>
      have H := HA.out; clear HA; simp only [spec_l15Ok.l0] at H
      by_cases c21 : x3_2 < (l0_5.length : Int)
      ·rw [if_pos c21] at H; have c21b0 : decide (x3_2 < (l0_5.length : Int)) = true := decide_eq_true c21; clear c21
       by_cases c22 : 0 ≤ x3_2
       ·rw [if_pos c22] at H; have c22b0 : decide (0 ≤ x3_2) = true := decide_eq_true c22; clear c22; replace H := Option.bind_eq_some_iff.mp H; obtain ⟨t528, A230, H⟩ := H; (try dsimp only at H); have A23 := Aside0.mk A230; clear A230
        by_cases c24 : t528 = true
        ·subst c24; rw [if_pos rfl] at H; replace H := Option.bind_eq_some_iff.mp H; obtain ⟨t530, A250, H⟩ := H; (try dsimp only at H); have A25 := Aside0.mk A250; clear A250
         by_cases c26 : t530 = true
         ·subst c26; rw [if_pos rfl] at H; have H' := Aside0.mk H; clear H; obtain ⟨hcz27_0, hcz27_1, hcz27_2, hcz27_3, hcz27_4, hcz27_5, hcz27_6, -⟩ := bx7_ (w := w) HBP0.out; replace hcz27_0 := (wc_ HB.out hcz27_0 :); replace hcz27_1 := (wc_ HB.out hcz27_1 :); replace hcz27_2 := (wc_ HB.out hcz27_2 :); replace hcz27_3 := (wc_ HB.out hcz27_3 :); replace hcz27_4 := (wc_ HB.out hcz27_4 :); replace hcz27_5 := (wc_ HB.out hcz27_5 :); replace hcz27_6 := (wc_ HB.out hcz27_6 :); have p527 : 0 ≤ (x3_2 : Int) := da_; have q527 : x3_2 < (l0_5.length : Int) := da_; obtain ⟨ad527, A527_0, c527_0, e527, hx527_0, hl527_0, hi527_0⟩ := at_L1 HR0_5.out x3_2 p527 q527; cases e527; replace hx527_0 := (wc_ HB.out hx527_0 :); have HR527_0 := Aside0.mk hi527_0; have HC527_0 := Aside0.mk hl527_0; clear hi527_0 hl527_0; replace p527 := eq_true p527; replace q527 := eq_true q527; go_wp2_with (first | ((with_reducible refine gate_callee (f := 58) rfl ?_); refine goesL_ (some 87) rfl rfl Try.func58 (by kernel_rfl) rfl #[.int .i64 ((rd_L1 l0_5 x3_2).length : Int), .int .i64 1, .int .i64 8] rfl av_ ?_; (with_reducible refine (spec_l00In.calls ((rd_L1 l0_5 x3_2).length : Int) 1 8 true _ A23.out).mono ?_); rintro e w' ⟨rfl, ⟨nd, rfl⟩⟩; refine ⟨_, rfl, ?_⟩; have p529 : 0 ≤ (x3_2 : Int) := da_; have q529 : x3_2 < (l0_5.length : Int) := da_; obtain ⟨ad529, A529_0, c529_0, e529, hx529_0, hl529_0, hi529_0⟩ := at_L1 HR0_5.out x3_2 p529 q529; obtain rfl : ad527 = ad529 := (by injection e529); replace hx529_0 := (wc_ HB.out hx529_0 :); have HR529_0 := Aside0.mk hi529_0; have HC529_0 := Aside0.mk hl529_0; clear hi529_0 hl529_0; replace p529 := eq_true p529; replace q529 := eq_true q529; have ea_ := Option.some.inj (hx527_0.symm.trans hx529_0); injection ea_ with ea_ en_ ec_; subst ea_; subst ec_; clear en_) | (go_at_call 75; (with_reducible refine (spec_l05Pitches.calls k2 _ _ (rd_L1 l0_5 x3_2) true _ ?side1 HC529_0.out A25.out).mono ?_); (case side1 => repeat (first | exact (Kd.C_below HR529_0.out (bb_ HB.out)) | (with_reducible refine Kd.C_alloc ?_ _) | (with_reducible refine Kd.C_drewN ?_ _) | (with_reducible refine Kd.C_drew ?_))); rintro e w' ⟨rfl, ⟨nd, rfl⟩⟩))
          go_roundg k2
          case measure => have := HJ1.out; have := HK2.out; omega
          case rel => exact ⟨(wrap64 (x3_2 + 1)), sv_, H', ⟨by have := HJ1.out; have := HK2.out; omega⟩, ⟨by exact blk_below HBP0.out (bb_ HB.out)⟩, ⟨bb_ HB.out⟩⟩
         ·replace c26 := Bool.eq_false_iff.mpr c26; subst c26; rw [if_neg (show ¬ (false = true) by decide)] at H; obtain rfl := Option.some.inj H; obtain ⟨hcz28_0, hcz28_1, hcz28_2, hcz28_3, hcz28_4, hcz28_5, hcz28_6, -⟩ := bx7_ (w := w) HBP0.out; replace hcz28_0 := (wc_ HB.out hcz28_0 :); replace hcz28_1 := (wc_ HB.out hcz28_1 :); replace hcz28_2 := (wc_ HB.out hcz28_2 :); replace hcz28_3 := (wc_ HB.out hcz28_3 :); replace hcz28_4 := (wc_ HB.out hcz28_4 :); replace hcz28_5 := (wc_ HB.out hcz28_5 :); replace hcz28_6 := (wc_ HB.out hcz28_6 :); have p527 : 0 ≤ (x3_2 : Int) := da_; have q527 : x3_2 < (l0_5.length : Int) := da_; obtain ⟨ad527, A527_0, c527_0, e527, hx527_0, hl527_0, hi527_0⟩ := at_L1 HR0_5.out x3_2 p527 q527; cases e527; replace hx527_0 := (wc_ HB.out hx527_0 :); have HR527_0 := Aside0.mk hi527_0; have HC527_0 := Aside0.mk hl527_0; clear hi527_0 hl527_0; replace p527 := eq_true p527; replace q527 := eq_true q527; go_wp2_with (first | ((with_reducible refine gate_callee (f := 58) rfl ?_); refine goesL_ (some 87) rfl rfl Try.func58 (by kernel_rfl) rfl #[.int .i64 ((rd_L1 l0_5 x3_2).length : Int), .int .i64 1, .int .i64 8] rfl av_ ?_; (with_reducible refine (spec_l00In.calls ((rd_L1 l0_5 x3_2).length : Int) 1 8 true _ A23.out).mono ?_); rintro e w' ⟨rfl, ⟨nd, rfl⟩⟩; refine ⟨_, rfl, ?_⟩; have p529 : 0 ≤ (x3_2 : Int) := da_; have q529 : x3_2 < (l0_5.length : Int) := da_; obtain ⟨ad529, A529_0, c529_0, e529, hx529_0, hl529_0, hi529_0⟩ := at_L1 HR0_5.out x3_2 p529 q529; obtain rfl : ad527 = ad529 := (by injection e529); replace hx529_0 := (wc_ HB.out hx529_0 :); have HR529_0 := Aside0.mk hi529_0; have HC529_0 := Aside0.mk hl529_0; clear hi529_0 hl529_0; replace p529 := eq_true p529; replace q529 := eq_true q529; have ea_ := Option.some.inj (hx527_0.symm.trans hx529_0); injection ea_ with ea_ en_ ec_; subst ea_; subst ec_; clear en_) | (go_at_call 75; (with_reducible refine (spec_l05Pitches.calls k2 _ _ (rd_L1 l0_5 x3_2) false _ ?side1 HC529_0.out A25.out).mono ?_); (case side1 => repeat (first | exact (Kd.C_below HR529_0.out (bb_ HB.out)) | (with_reducible refine Kd.C_alloc ?_ _) | (with_reducible refine Kd.C_drewN ?_ _) | (with_reducible refine Kd.C_drew ?_))); rintro e w' ⟨rfl, ⟨nd, rfl⟩⟩))
          go_ret
          exact ⟨by first | rfl | (simp [errW_none, errW_some] <;> rfl) | (simp [*, errW_none, errW_some] <;> rfl), bb_ HB.out⟩
        ·replace c24 := Bool.eq_false_iff.mpr c24; subst c24; rw [if_neg (show ¬ (false = true) by decide)] at H; obtain rfl := Option.some.inj H; obtain ⟨hcz29_0, hcz29_1, hcz29_2, hcz29_3, hcz29_4, hcz29_5, hcz29_6, -⟩ := bx7_ (w := w) HBP0.out; replace hcz29_0 := (wc_ HB.out hcz29_0 :); replace hcz29_1 := (wc_ HB.out hcz29_1 :); replace hcz29_2 := (wc_ HB.out hcz29_2 :); replace hcz29_3 := (wc_ HB.out hcz29_3 :); replace hcz29_4 := (wc_ HB.out hcz29_4 :); replace hcz29_5 := (wc_ HB.out hcz29_5 :); replace hcz29_6 := (wc_ HB.out hcz29_6 :); have p527 : 0 ≤ (x3_2 : Int) := da_; have q527 : x3_2 < (l0_5.length : Int) := da_; obtain ⟨ad527, A527_0, c527_0, e527, hx527_0, hl527_0, hi527_0⟩ := at_L1 HR0_5.out x3_2 p527 q527; cases e527; replace hx527_0 := (wc_ HB.out hx527_0 :); have HR527_0 := Aside0.mk hi527_0; have HC527_0 := Aside0.mk hl527_0; clear hi527_0 hl527_0; replace p527 := eq_true p527; replace q527 := eq_true q527; go_wp2_with (first | ((with_reducible refine gate_callee (f := 58) rfl ?_); refine goesL_ (some 87) rfl rfl Try.func58 (by kernel_rfl) rfl #[.int .i64 ((rd_L1 l0_5 x3_2).length : Int), .int .i64 1, .int .i64 8] rfl av_ ?_; (with_reducible refine (spec_l00In.calls ((rd_L1 l0_5 x3_2).length : Int) 1 8 false _ A23.out).mono ?_); rintro e w' ⟨rfl, ⟨nd, rfl⟩⟩; refine ⟨_, rfl, ?_⟩))
         go_ret
         exact ⟨by first | rfl | (simp [errW_none, errW_some] <;> rfl) | (simp [*, errW_none, errW_some] <;> rfl), bb_ HB.out⟩
       ·rw [if_neg c22] at H; exact absurd H (by simp)
      ·rw [if_neg c21] at H; have c21b0 : decide (x3_2 < (l0_5.length : Int)) = false := decide_eq_false c21; clear c21; obtain rfl := Option.some.inj H; obtain ⟨hcz30_0, hcz30_1, hcz30_2, hcz30_3, hcz30_4, hcz30_5, hcz30_6, -⟩ := bx7_ (w := w) HBP0.out; replace hcz30_0 := (wc_ HB.out hcz30_0 :); replace hcz30_1 := (wc_ HB.out hcz30_1 :); replace hcz30_2 := (wc_ HB.out hcz30_2 :); replace hcz30_3 := (wc_ HB.out hcz30_3 :); replace hcz30_4 := (wc_ HB.out hcz30_4 :); replace hcz30_5 := (wc_ HB.out hcz30_5 :); replace hcz30_6 := (wc_ HB.out hcz30_6 :); go_wp2
       go_ret
       exact ⟨by first | rfl | (simp [errW_none, errW_some] <;> rfl) | (simp [*, errW_none, errW_some] <;> rfl), bb_ HB.out⟩
def spec_l00Max.f (a0 : Int) (a1 : Int) : Option (Int) := if a0 > a1 then (some a0) else (some a1)
theorem spec_l00Max.calls (a0 : Int) (a1 : Int) (r : Int) (w : World) (h : spec_l00Max.f a0 a1 = some r) :
  Calls Try.prog 140 #[.int .i64 a0, .int .i64 a1] w fun e w' => e = .returned (.int .i64 r) ∧ Drawn0 w w' := by
 have H : (if a0 > a1 then (some a0) else (some a1)) = some r := h; clear h
 by_cases c3 : a0 > a1
 ·rw [if_pos c3] at H; have c3b0 : decide (a1 < a0) = true := decide_eq_true c3; clear c3; obtain rfl := Option.some.inj H; go_enter Try.func140, Try.ntmps140; go_wp2
  go_ret
  exact ⟨sv_, dr_⟩
 ·rw [if_neg c3] at H; have c3b0 : decide (a1 < a0) = false := decide_eq_false c3; clear c3; obtain rfl := Option.some.inj H; go_enter Try.func140, Try.ntmps140; go_wp2
  go_ret
  exact ⟨sv_, dr_⟩
def spec_l03Tone.f (a0 : Int) : Option (Int) := some (Int.tmod (wrap64 ((Int.tmod a0 12) + 12)) 12)
theorem spec_l03Tone.calls (a0 : Int) (r : Int) (w : World) (h : spec_l03Tone.f a0 = some r) :
  Calls Try.prog 60 #[.int .i64 a0] w fun e w' => e = .returned (.int .i64 r) ∧ Drawn0 w w' := by
 have H : (some (Int.tmod (wrap64 ((Int.tmod a0 12) + 12)) 12)) = some r := h; clear h; obtain rfl := Option.some.inj H; go_enter Try.func60, Try.ntmps60; go_wp2
 go_ret
 exact ⟨sv_, dr_⟩
end Go.Proofs.Ytinlejhffokbaaa.P
end
