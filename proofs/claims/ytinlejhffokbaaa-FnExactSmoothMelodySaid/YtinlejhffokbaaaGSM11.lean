/- Texts of this seat, merged: QSpecL01Small, QSpecL01Name, QSpecL00Rises, QSpecL03Scale, QSpecL05Pair. -/
import Derived.Test.YtinlejhffokbaaaGSM1
import Derived.Test.YtinlejhffokbaaaGSM2
import Derived.Test.YtinlejhffokbaaaGSM10
section
namespace Go.Proofs.Ytinlejhffokbaaa.P
open Go.RowKit Go.Proofs.YtinlejhffokbaaaW.PrintWords Go.Proofs.YtinlejhffokbaaaW.PrintLast Go.Proofs.YtinlejhffokbaaaW.PrintMore
attribute [local go_sem] max2_int min2_int max_two min_two max_three min_three max_four min_four
set_option linter.unusedVariables false
set_option linter.unusedSimpArgs false
set_option maxHeartbeats 16000000
set_option maxRecDepth 100000
def spec_l01Small.f (a0 : Int) : Option (Bool) := if a0 ≥ 97 then (some (decide (a0 ≤ 122))) else (some false)
theorem spec_l01Small.calls (a0 : Int) (r : Bool) (w : World) (h : spec_l01Small.f a0 = some r) :
  Calls Try.prog 151 #[.int .u8 a0] w fun e w' => e = .returned (.bool r) ∧ Drawn0 w w' := by
 have H : (if a0 ≥ 97 then (some (decide (a0 ≤ 122))) else (some false)) = some r := h; clear h
 by_cases c2 : a0 ≥ 97
 ·rw [if_pos c2] at H; have c2b0 : decide (97 ≤ a0) = true := decide_eq_true c2; clear c2; obtain rfl := Option.some.inj H; go_enter Try.func151, Try.ntmps151; go_wp2
  go_ret
  exact ⟨sv_, dr_⟩
 ·rw [if_neg c2] at H; have c2b0 : decide (97 ≤ a0) = false := decide_eq_false c2; clear c2; obtain rfl := Option.some.inj H; go_enter Try.func151, Try.ntmps151; go_wp2
  go_ret
  exact ⟨sv_, dr_⟩
mutual
def spec_l01Name.j0 : Nat → ByteArray → Bool → Option (Bool)
 | 0, _, _ => none
 | k + 1, x0, x16 => if x16 = true then (some false) else (spec_l01Name.l0 k x0 0)
def spec_l01Name.l0 : Nat → ByteArray → Int → Option (Bool)
 | 0, _, _ => none
 | k + 1, x0, x3 => if x3 < (x0.size : Int) then (if 0 ≤ x3 then ((spec_l01Small.f (bt x0 x3)).bind fun t112 => (if t112 = true then (spec_l01Name.l0 k x0 (wrap64 (x3 + 1))) else ((spec_l01Digit.f (bt x0 x3)).bind fun t113 => (if t113 = true then (spec_l01Name.l0 k x0 (wrap64 (x3 + 1))) else (some false))))) else (none)) else (some true)
end
def spec_l01Name.f (k : Nat) (a0 : ByteArray) : Option (Bool) := if a0.toList = ([] : List UInt8) then (spec_l01Name.j0 k a0 true) else (if (a0.size : Int) > 10 then (spec_l01Name.j0 k a0 true) else (if 0 < (a0.size : Int) then ((spec_l01Small.f (bt a0 0)).bind fun t111 => (spec_l01Name.j0 k a0 (!t111))) else (none)))
theorem spec_l01Name.calls (k : Nat) (a0 : ByteArray) (r : Bool) (w : World) (h : spec_l01Name.f k a0 = some r) :
  Calls Try.prog 125 #[.string a0] w fun e w' => e = .returned (.bool r) ∧ Drawn0 w w' := by
 have H : (if a0.toList = ([] : List UInt8) then (spec_l01Name.j0 k a0 true) else (if (a0.size : Int) > 10 then (spec_l01Name.j0 k a0 true) else (if 0 < (a0.size : Int) then ((spec_l01Small.f (bt a0 0)).bind fun t111 => (spec_l01Name.j0 k a0 (!t111))) else (none)))) = some r := h; clear h; have HC2 := Aside0.mk H; clear H; go_enter Try.func125, Try.ntmps125
 go_upto_region 1 with (fail)
 go_cut [16] (fun v16 wc => ∃ (kq : Nat) (x16_1 : Bool), v16 = .bool x16_1 ∧ Aside0 (spec_l01Name.j0 kq a0 x16_1 = some r) ∧ Aside0 (kq ≤ k) ∧ Drawn0 w wc)
 case first =>
  have H := HC2.out; clear HC2
  by_cases c3 : a0.toList = ([] : List UInt8)
  ·rw [if_pos c3] at H; have c3b0 : (a0.toList == ([] : List UInt8)) = true := beq_iff_eq.mpr c3; have c3b1 : (a0.toList != ([] : List UInt8)) = false := bne_eq_false_iff_eq.mpr c3; clear c3; (first | rw [c3b0] | (simp only [i64_w, i32_w]; rw [c3b0]) | skip); have H' := Aside0.mk H; clear H; go_wp2
   go_meet
   case rel => exact ⟨_, (true), sv_, H', ⟨by first | omega | exact Nat.le_refl _⟩, dr_⟩
  ·rw [if_neg c3] at H; have c3b0 : (a0.toList == ([] : List UInt8)) = false := beq_eq_false_iff_ne.mpr c3; have c3b1 : (a0.toList != ([] : List UInt8)) = true := bne_iff_ne.mpr c3; (first | rw [c3b0] | (simp only [i64_w, i32_w]; rw [c3b0]) | skip)
   by_cases c4 : (a0.size : Int) > 10
   ·rw [if_pos c4] at H; have c4b0 : decide (10 < (a0.size : Int)) = true := decide_eq_true c4; have c4b1 : decide (10 < a0.size) = true := decide_eq_true (by omega); clear c4; have H' := Aside0.mk H; clear H; go_wp2
    go_meet
    case rel => exact ⟨_, (true), sv_, H', ⟨by first | omega | exact Nat.le_refl _⟩, dr_⟩
   ·rw [if_neg c4] at H; have c4b0 : decide (10 < (a0.size : Int)) = false := decide_eq_false c4; have c4b1 : decide (10 < a0.size) = false := decide_eq_false (by omega); clear c4
    by_cases c5 : 0 < (a0.size : Int)
    ·rw [if_pos c5] at H; have c5b0 : decide (0 < (a0.size : Int)) = true := decide_eq_true c5; have c5b1 : decide (0 < a0.size) = true := decide_eq_true (by omega); clear c5; replace H := Option.bind_eq_some_iff.mp H; obtain ⟨t111, A70, H⟩ := H; (try dsimp only at H); have A7 := Aside0.mk A70; clear A70; have H' := Aside0.mk H; clear H; have p6 : 0 ≤ (0 : Int) := (by omega); have q6 : 0 < a0.size := (by have : (0 : Int) < (a0.size : Int) := da_; omega); have hx6 : ∀ h : 0 < a0.size, ((a0[0]'h).toNat : Int) = bt a0 0 := bt_at a0 0; clear p6; have qi6 : (0 < (a0.size : Int)) = True := eq_true (da_); replace q6 := eq_true q6; go_wp2_with (first | (go_at_call 151; (with_reducible refine (spec_l01Small.calls (bt a0 0) t111 _ A7.out).mono ?_); rintro e w' ⟨rfl, ⟨nd, rfl⟩⟩))
     go_meet
     case rel => exact ⟨_, (!t111), sv_, H', ⟨by first | omega | exact Nat.le_refl _⟩, dr_⟩
    ·rw [if_neg c5] at H; exact absurd H (by simp)
 case rest =>
  clear HC2; (try clear c1); (try clear p2); (try clear c3); (try clear c3b0); (try clear c3b1); (try clear c4); (try clear c4b0); (try clear c4b1); (try clear c5); (try clear c5b0); (try clear c5b1); (try clear p6); (try clear q6); (try clear hx6); (try clear qi6); (try clear p6); (try clear q6); obtain ⟨kq, x16_1, rfl, HA, HJ1, ⟨mc1, rfl⟩⟩ := hcut
  cases kq with
  | zero => exact absurd HA.out (by simp [spec_l01Name.j0])
  | succ kj1 =>
   have H := HA.out; clear HA; simp only [spec_l01Name.j0] at H
   by_cases c8 : x16_1 = true
   ·subst c8; rw [if_pos rfl] at H; obtain rfl := Option.some.inj H; go_wp2
    go_ret
    exact ⟨sv_, dr_⟩
   ·replace c8 := Bool.eq_false_iff.mpr c8; subst c8; rw [if_neg (show ¬ (false = true) by decide)] at H; have H' := Aside0.mk H; clear H; go_wp2
    go_loopg [3] kj1 (fun kq v3 w' => ∃ (x3_2 : Int), v3 = .int .i64 x3_2 ∧ Aside0 (spec_l01Name.l0 kq a0 x3_2 = some r) ∧ Aside0 (kq ≤ kj1) ∧ Drawn0 w w')
    case atStart => exact ⟨(0), sv_, H', ⟨Nat.le_refl _⟩, dr_⟩
    case round =>
     clear H'; (try clear c1); (try clear p2); (try clear c3); (try clear c3b0); (try clear c3b1); (try clear c4); (try clear c4b0); (try clear c4b1); (try clear c5); (try clear c5b0); (try clear c5b1); (try clear p6); (try clear q6); (try clear hx6); (try clear qi6); (try clear c8); (try clear p2); (try clear p6); (try clear q6); obtain ⟨x3_2, rfl, HA, HK2, ⟨m2, rfl⟩⟩ := hrel
     cases gk with
     | zero => exact absurd HA.out (by simp [spec_l01Name.l0])
     | succ k2 =>
      have H := HA.out; clear HA; simp only [spec_l01Name.l0] at H
      by_cases c9 : x3_2 < (a0.size : Int)
      ·rw [if_pos c9] at H; have c9b0 : decide (x3_2 < (a0.size : Int)) = true := decide_eq_true c9; clear c9
       by_cases c10 : 0 ≤ x3_2
       ·rw [if_pos c10] at H; have c10b0 : decide (0 ≤ x3_2) = true := decide_eq_true c10; clear c10; replace H := Option.bind_eq_some_iff.mp H; obtain ⟨t112, A120, H⟩ := H; (try dsimp only at H); have A12 := Aside0.mk A120; clear A120
        by_cases c13 : t112 = true
        ·subst c13; rw [if_pos rfl] at H; have H' := Aside0.mk H; clear H; have p11 : 0 ≤ (x3_2 : Int) := da_; have q11 : x3_2 < (a0.size : Int) := da_; have hx11 := bt_at a0 x3_2; replace p11 := eq_true p11; replace q11 := eq_true q11; go_wp2_with (first | ((with_reducible refine gate_callee (f := 151) rfl ?_); refine goesL_ (some 26) rfl rfl Try.func151 (by kernel_rfl) rfl #[.int .u8 (bt a0 x3_2)] rfl av_ ?_; (with_reducible refine (spec_l01Small.calls (bt a0 x3_2) true _ A12.out).mono ?_); rintro e w' ⟨rfl, ⟨nd, rfl⟩⟩; refine ⟨_, rfl, ?_⟩))
         go_roundg k2
         case measure => have := HJ1.out; have := HK2.out; omega
         case rel => exact ⟨(wrap64 (x3_2 + 1)), sv_, H', ⟨by have := HJ1.out; have := HK2.out; omega⟩, dr_⟩
        ·replace c13 := Bool.eq_false_iff.mpr c13; subst c13; rw [if_neg (show ¬ (false = true) by decide)] at H; replace H := Option.bind_eq_some_iff.mp H; obtain ⟨t113, A150, H⟩ := H; (try dsimp only at H); have A15 := Aside0.mk A150; clear A150
         by_cases c16 : t113 = true
         ·subst c16; rw [if_pos rfl] at H; have H' := Aside0.mk H; clear H; have p11 : 0 ≤ (x3_2 : Int) := da_; have q11 : x3_2 < (a0.size : Int) := da_; have hx11 := bt_at a0 x3_2; replace p11 := eq_true p11; replace q11 := eq_true q11; go_wp2_with (first | ((with_reducible refine gate_callee (f := 151) rfl ?_); refine goesL_ (some 26) rfl rfl Try.func151 (by kernel_rfl) rfl #[.int .u8 (bt a0 x3_2)] rfl av_ ?_; (with_reducible refine (spec_l01Small.calls (bt a0 x3_2) false _ A12.out).mono ?_); rintro e w' ⟨rfl, ⟨nd, rfl⟩⟩; refine ⟨_, rfl, ?_⟩; have p14 : 0 ≤ (x3_2 : Int) := da_; have q14 : x3_2 < (a0.size : Int) := da_; have hx14 := bt_at a0 x3_2; replace p14 := eq_true p14; replace q14 := eq_true q14) | (go_at_call 152; (with_reducible refine (spec_l01Digit.calls (bt a0 x3_2) true _ A15.out).mono ?_); rintro e w' ⟨rfl, ⟨nd, rfl⟩⟩))
          go_roundg k2
          case measure => have := HJ1.out; have := HK2.out; omega
          case rel => exact ⟨(wrap64 (x3_2 + 1)), sv_, H', ⟨by have := HJ1.out; have := HK2.out; omega⟩, dr_⟩
         ·replace c16 := Bool.eq_false_iff.mpr c16; subst c16; rw [if_neg (show ¬ (false = true) by decide)] at H; obtain rfl := Option.some.inj H; have p11 : 0 ≤ (x3_2 : Int) := da_; have q11 : x3_2 < (a0.size : Int) := da_; have hx11 := bt_at a0 x3_2; replace p11 := eq_true p11; replace q11 := eq_true q11; go_wp2_with (first | ((with_reducible refine gate_callee (f := 151) rfl ?_); refine goesL_ (some 26) rfl rfl Try.func151 (by kernel_rfl) rfl #[.int .u8 (bt a0 x3_2)] rfl av_ ?_; (with_reducible refine (spec_l01Small.calls (bt a0 x3_2) false _ A12.out).mono ?_); rintro e w' ⟨rfl, ⟨nd, rfl⟩⟩; refine ⟨_, rfl, ?_⟩; have p14 : 0 ≤ (x3_2 : Int) := da_; have q14 : x3_2 < (a0.size : Int) := da_; have hx14 := bt_at a0 x3_2; replace p14 := eq_true p14; replace q14 := eq_true q14) | (go_at_call 152; (with_reducible refine (spec_l01Digit.calls (bt a0 x3_2) false _ A15.out).mono ?_); rintro e w' ⟨rfl, ⟨nd, rfl⟩⟩))
          go_ret
          exact ⟨sv_, dr_⟩
       ·rw [if_neg c10] at H; exact absurd H (by simp)
      ·rw [if_neg c9] at H; have c9b0 : decide (x3_2 < (a0.size : Int)) = false := decide_eq_false c9; clear c9; obtain rfl := Option.some.inj H; go_wp2
       go_ret
       exact ⟨sv_, dr_⟩
def spec_l00Rises.l0 : Nat → List Int → Int → Int → Int → Option (Bool)
 | 0, _, _, _, _ => none
 | k + 1, x0, x1, x2, x7 => if x7 < (x0.length : Int) then (if 0 ≤ x7 then ((spec_l00In.f (rd x0 x7) x1 x2).bind fun t115 => (if t115 = true then (if x7 > 0 then (if 0 ≤ (wrap64 (x7 - 1)) then (if (wrap64 (x7 - 1)) < (x0.length : Int) then (if (rd x0 (wrap64 (x7 - 1))) ≥ (rd x0 x7) then (some false) else (spec_l00Rises.l0 k x0 x1 x2 (wrap64 (x7 + 1)))) else (none)) else (none)) else (spec_l00Rises.l0 k x0 x1 x2 (wrap64 (x7 + 1)))) else (some false))) else (none)) else (some true)
def spec_l00Rises.f (k : Nat) (l0 : List Int) (a1 : Int) (a2 : Int) : Option (Bool) := spec_l00Rises.l0 k l0 a1 a2 0
theorem spec_l00Rises.calls (k : Nat) (A0 : Option Addr) (c0 : Nat) (l0 : List Int) (a1 : Int) (a2 : Int) (r : Bool) (w : World) (hr0 : Kd.C (Kd.int .i64) w A0 l0.length l0) (hc0 : l0.length ≤ c0) (h : spec_l00Rises.f k l0 a1 a2 = some r) :
  Calls Try.prog 153 #[.slice A0 l0.length c0, .int .i64 a1, .int .i64 a2] w fun e w' => e = .returned (.bool r) ∧ Drawn0 w w' := by
 have HR0 := Aside0.mk hr0; have HC0 := Aside0.mk hc0; clear hr0 hc0; have H : (spec_l00Rises.l0 k l0 a1 a2 0) = some r := h; clear h; have H' := Aside0.mk H; clear H; go_enter Try.func153, Try.ntmps153; go_wp2
 repeat (go_quiet (fail); try go_wp2)
 go_loopg [7] k (fun kq v7 w' => ∃ (x7_1 : Int), v7 = .int .i64 x7_1 ∧ Aside0 (spec_l00Rises.l0 kq l0 a1 a2 x7_1 = some r) ∧ Aside0 (kq ≤ k) ∧ Drawn0 w w')
 case atStart => exact ⟨(0), sv_, H', ⟨Nat.le_refl _⟩, dr_⟩
 case round =>
  clear H'; (try clear c1); (try clear p2); obtain ⟨x7_1, rfl, HA, HK1, ⟨m1, rfl⟩⟩ := hrel
  cases gk with
  | zero => exact absurd HA.out (by simp [spec_l00Rises.l0])
  | succ k1 =>
   have H := HA.out; clear HA; simp only [spec_l00Rises.l0] at H
   by_cases c4 : x7_1 < (l0.length : Int)
   ·rw [if_pos c4] at H; have c4b0 : decide (x7_1 < (l0.length : Int)) = true := decide_eq_true c4; clear c4
    by_cases c5 : 0 ≤ x7_1
    ·rw [if_pos c5] at H; have c5b0 : decide (0 ≤ x7_1) = true := decide_eq_true c5; clear c5; replace H := Option.bind_eq_some_iff.mp H; obtain ⟨t115, A60, H⟩ := H; (try dsimp only at H); have A6 := Aside0.mk A60; clear A60
     by_cases c7 : t115 = true
     ·subst c7; rw [if_pos rfl] at H
      by_cases c8 : x7_1 > 0
      ·rw [if_pos c8] at H; have c8b0 : decide (0 < x7_1) = true := decide_eq_true c8; clear c8; obtain ⟨ji9, hji9⟩ : ∃ j_ : Int, (wrap64 (x7_1 - 1)) = j_ := ⟨_, rfl⟩
       replace H : (if 0 ≤ (ji9) then (if (ji9) < (l0.length : Int) then (if (rd l0 (ji9)) ≥ (rd l0 x7_1) then (some false) else (spec_l00Rises.l0 k1 l0 a1 a2 (wrap64 (x7_1 + 1)))) else (none)) else (none)) = some r := by first | (rw [hji9] at H; exact H) | (simp only [hji9] at H ⊢; exact H)
       (try rw [hji9] at A6); have hji9w : (IntKind.i64.wrap (x7_1 - 1)) = ji9 := (i64_w _).trans hji9
       by_cases c10 : 0 ≤ (ji9)
       ·rw [if_pos c10] at H; have c10b0 : decide (0 ≤ (ji9)) = true := decide_eq_true c10; clear c10
        by_cases c11 : (ji9) < (l0.length : Int)
        ·rw [if_pos c11] at H; have c11b0 : decide ((ji9) < (l0.length : Int)) = true := decide_eq_true c11; clear c11
         by_cases c12 : (rd l0 (ji9)) ≥ (rd l0 x7_1)
         ·rw [if_pos c12] at H; have c12b0 : decide ((rd l0 x7_1) ≤ (rd l0 (ji9))) = true := decide_eq_true c12; clear c12; obtain rfl := Option.some.inj H; have p114 : 0 ≤ (x7_1 : Int) := da_; have q114 : x7_1 < (l0.length : Int) := da_; obtain ⟨ad114, e114, hx114_0⟩ := Kd.at_int HR0.out x7_1 p114 q114; cases e114; replace p114 := eq_true p114; replace q114 := eq_true q114; go_wp2_with (first | (go_at_call 58; (with_reducible refine (spec_l00In.calls (rd l0 x7_1) a1 a2 true _ A6.out).mono ?_); rintro e w' ⟨rfl, ⟨nd, rfl⟩⟩; (try first | exact ⟨rfl, _, dN1⟩ | exact ⟨rfl, _, dN2⟩); have p116 : 0 ≤ ((ji9) : Int) := da_; have q116 : (ji9) < (l0.length : Int) := da_; obtain ⟨ad116, e116, hx116_0⟩ := Kd.at_int HR0.out (ji9) p116 q116; obtain rfl : ad114 = ad116 := (by injection e116); replace p116 := eq_true p116; replace q116 := eq_true q116; have p117 : 0 ≤ (x7_1 : Int) := da_; have q117 : x7_1 < (l0.length : Int) := da_; obtain ⟨ad117, e117, hx117_0⟩ := Kd.at_int HR0.out x7_1 p117 q117; obtain rfl : ad114 = ad117 := (by injection e117); replace p117 := eq_true p117; replace q117 := eq_true q117))
          repeat (go_quiet (first | (go_at_call 58; (with_reducible refine (spec_l00In.calls (rd l0 x7_1) a1 a2 true _ A6.out).mono ?_); rintro e w' ⟨rfl, ⟨nd, rfl⟩⟩; (try first | exact ⟨rfl, _, dN1⟩ | exact ⟨rfl, _, dN2⟩); have p116 : 0 ≤ ((ji9) : Int) := da_; have q116 : (ji9) < (l0.length : Int) := da_; obtain ⟨ad116, e116, hx116_0⟩ := Kd.at_int HR0.out (ji9) p116 q116; obtain rfl : ad114 = ad116 := (by injection e116); replace p116 := eq_true p116; replace q116 := eq_true q116; have p117 : 0 ≤ (x7_1 : Int) := da_; have q117 : x7_1 < (l0.length : Int) := da_; obtain ⟨ad117, e117, hx117_0⟩ := Kd.at_int HR0.out x7_1 p117 q117; obtain rfl : ad114 = ad117 := (by injection e117); replace p117 := eq_true p117; replace q117 := eq_true q117)); try go_wp2_with (first | (go_at_call 58; (with_reducible refine (spec_l00In.calls (rd l0 x7_1) a1 a2 true _ A6.out).mono ?_); rintro e w' ⟨rfl, ⟨nd, rfl⟩⟩; (try first | exact ⟨rfl, _, dN1⟩ | exact ⟨rfl, _, dN2⟩); have p116 : 0 ≤ ((ji9) : Int) := da_; have q116 : (ji9) < (l0.length : Int) := da_; obtain ⟨ad116, e116, hx116_0⟩ := Kd.at_int HR0.out (ji9) p116 q116; obtain rfl : ad114 = ad116 := (by injection e116); replace p116 := eq_true p116; replace q116 := eq_true q116; have p117 : 0 ≤ (x7_1 : Int) := da_; have q117 : x7_1 < (l0.length : Int) := da_; obtain ⟨ad117, e117, hx117_0⟩ := Kd.at_int HR0.out x7_1 p117 q117; obtain rfl : ad114 = ad117 := (by injection e117); replace p117 := eq_true p117; replace q117 := eq_true q117)))
          go_ret
          exact ⟨by first | rfl | (simp; done) | (simp only [← hji9] <;> (first | rfl | simp)) | (simp [*]; done), dr_⟩
         ·rw [if_neg c12] at H; have c12b0 : decide ((rd l0 x7_1) ≤ (rd l0 (ji9))) = false := decide_eq_false c12; clear c12; have H' := Aside0.mk H; clear H; have p114 : 0 ≤ (x7_1 : Int) := da_; have q114 : x7_1 < (l0.length : Int) := da_; obtain ⟨ad114, e114, hx114_0⟩ := Kd.at_int HR0.out x7_1 p114 q114; cases e114; replace p114 := eq_true p114; replace q114 := eq_true q114; go_wp2_with (first | (go_at_call 58; (with_reducible refine (spec_l00In.calls (rd l0 x7_1) a1 a2 true _ A6.out).mono ?_); rintro e w' ⟨rfl, ⟨nd, rfl⟩⟩; (try first | exact ⟨rfl, _, dN1⟩ | exact ⟨rfl, _, dN2⟩); have p116 : 0 ≤ ((ji9) : Int) := da_; have q116 : (ji9) < (l0.length : Int) := da_; obtain ⟨ad116, e116, hx116_0⟩ := Kd.at_int HR0.out (ji9) p116 q116; obtain rfl : ad114 = ad116 := (by injection e116); replace p116 := eq_true p116; replace q116 := eq_true q116; have p117 : 0 ≤ (x7_1 : Int) := da_; have q117 : x7_1 < (l0.length : Int) := da_; obtain ⟨ad117, e117, hx117_0⟩ := Kd.at_int HR0.out x7_1 p117 q117; obtain rfl : ad114 = ad117 := (by injection e117); replace p117 := eq_true p117; replace q117 := eq_true q117))
          repeat (go_quiet (first | (go_at_call 58; (with_reducible refine (spec_l00In.calls (rd l0 x7_1) a1 a2 true _ A6.out).mono ?_); rintro e w' ⟨rfl, ⟨nd, rfl⟩⟩; (try first | exact ⟨rfl, _, dN1⟩ | exact ⟨rfl, _, dN2⟩); have p116 : 0 ≤ ((ji9) : Int) := da_; have q116 : (ji9) < (l0.length : Int) := da_; obtain ⟨ad116, e116, hx116_0⟩ := Kd.at_int HR0.out (ji9) p116 q116; obtain rfl : ad114 = ad116 := (by injection e116); replace p116 := eq_true p116; replace q116 := eq_true q116; have p117 : 0 ≤ (x7_1 : Int) := da_; have q117 : x7_1 < (l0.length : Int) := da_; obtain ⟨ad117, e117, hx117_0⟩ := Kd.at_int HR0.out x7_1 p117 q117; obtain rfl : ad114 = ad117 := (by injection e117); replace p117 := eq_true p117; replace q117 := eq_true q117)); try go_wp2_with (first | (go_at_call 58; (with_reducible refine (spec_l00In.calls (rd l0 x7_1) a1 a2 true _ A6.out).mono ?_); rintro e w' ⟨rfl, ⟨nd, rfl⟩⟩; (try first | exact ⟨rfl, _, dN1⟩ | exact ⟨rfl, _, dN2⟩); have p116 : 0 ≤ ((ji9) : Int) := da_; have q116 : (ji9) < (l0.length : Int) := da_; obtain ⟨ad116, e116, hx116_0⟩ := Kd.at_int HR0.out (ji9) p116 q116; obtain rfl : ad114 = ad116 := (by injection e116); replace p116 := eq_true p116; replace q116 := eq_true q116; have p117 : 0 ≤ (x7_1 : Int) := da_; have q117 : x7_1 < (l0.length : Int) := da_; obtain ⟨ad117, e117, hx117_0⟩ := Kd.at_int HR0.out x7_1 p117 q117; obtain rfl : ad114 = ad117 := (by injection e117); replace p117 := eq_true p117; replace q117 := eq_true q117)))
          go_roundg k1
          case measure => have := HK1.out; omega
          case rel => exact ⟨(wrap64 (x7_1 + 1)), sv_, H', ⟨by have := HK1.out; omega⟩, dr_⟩
        ·rw [if_neg c11] at H; exact absurd H (by simp)
       ·rw [if_neg c10] at H; exact absurd H (by simp)
      ·rw [if_neg c8] at H; have c8b0 : decide (0 < x7_1) = false := decide_eq_false c8; clear c8; have H' := Aside0.mk H; clear H; have p114 : 0 ≤ (x7_1 : Int) := da_; have q114 : x7_1 < (l0.length : Int) := da_; obtain ⟨ad114, e114, hx114_0⟩ := Kd.at_int HR0.out x7_1 p114 q114; cases e114; replace p114 := eq_true p114; replace q114 := eq_true q114; go_wp2_with (first | (go_at_call 58; (with_reducible refine (spec_l00In.calls (rd l0 x7_1) a1 a2 true _ A6.out).mono ?_); rintro e w' ⟨rfl, ⟨nd, rfl⟩⟩; (try first | exact ⟨rfl, _, dN1⟩ | exact ⟨rfl, _, dN2⟩)))
       repeat (go_quiet (first | (go_at_call 58; (with_reducible refine (spec_l00In.calls (rd l0 x7_1) a1 a2 true _ A6.out).mono ?_); rintro e w' ⟨rfl, ⟨nd, rfl⟩⟩; (try first | exact ⟨rfl, _, dN1⟩ | exact ⟨rfl, _, dN2⟩))); try go_wp2_with (first | (go_at_call 58; (with_reducible refine (spec_l00In.calls (rd l0 x7_1) a1 a2 true _ A6.out).mono ?_); rintro e w' ⟨rfl, ⟨nd, rfl⟩⟩; (try first | exact ⟨rfl, _, dN1⟩ | exact ⟨rfl, _, dN2⟩))))
       go_roundg k1
       case measure => have := HK1.out; omega
       case rel => exact ⟨(wrap64 (x7_1 + 1)), sv_, H', ⟨by have := HK1.out; omega⟩, dr_⟩
     ·replace c7 := Bool.eq_false_iff.mpr c7; subst c7; rw [if_neg (show ¬ (false = true) by decide)] at H; obtain rfl := Option.some.inj H; have p114 : 0 ≤ (x7_1 : Int) := da_; have q114 : x7_1 < (l0.length : Int) := da_; obtain ⟨ad114, e114, hx114_0⟩ := Kd.at_int HR0.out x7_1 p114 q114; cases e114; replace p114 := eq_true p114; replace q114 := eq_true q114; go_wp2_with (first | (go_at_call 58; (with_reducible refine (spec_l00In.calls (rd l0 x7_1) a1 a2 false _ A6.out).mono ?_); rintro e w' ⟨rfl, ⟨nd, rfl⟩⟩; (try first | exact ⟨rfl, _, dN1⟩ | exact ⟨rfl, _, dN2⟩)))
      repeat (go_quiet (first | (go_at_call 58; (with_reducible refine (spec_l00In.calls (rd l0 x7_1) a1 a2 false _ A6.out).mono ?_); rintro e w' ⟨rfl, ⟨nd, rfl⟩⟩; (try first | exact ⟨rfl, _, dN1⟩ | exact ⟨rfl, _, dN2⟩))); try go_wp2_with (first | (go_at_call 58; (with_reducible refine (spec_l00In.calls (rd l0 x7_1) a1 a2 false _ A6.out).mono ?_); rintro e w' ⟨rfl, ⟨nd, rfl⟩⟩; (try first | exact ⟨rfl, _, dN1⟩ | exact ⟨rfl, _, dN2⟩))))
      go_ret
      exact ⟨sv_, dr_⟩
    ·rw [if_neg c5] at H; exact absurd H (by simp)
   ·rw [if_neg c4] at H; have c4b0 : decide (x7_1 < (l0.length : Int)) = false := decide_eq_false c4; clear c4; obtain rfl := Option.some.inj H; go_wp2
    repeat (go_quiet (fail); try go_wp2)
    go_ret
    exact ⟨sv_, dr_⟩
def spec_l03Scale.f (k : Nat) (l0 : List Int) : Option (Bool) := if (l0.length : Int) ≥ 5 then ((spec_l00Rises.f k l0 0 11).bind fun t118 => (if t118 = true then (if 0 < (l0.length : Int) then (some ((rd l0 0) == 0)) else (none)) else (some false))) else (some false)
theorem spec_l03Scale.calls (k : Nat) (A0 : Option Addr) (c0 : Nat) (l0 : List Int) (r : Bool) (w : World) (hr0 : Kd.C (Kd.int .i64) w A0 l0.length l0) (hc0 : l0.length ≤ c0) (h : spec_l03Scale.f k l0 = some r) :
  Calls Try.prog 126 #[.slice A0 l0.length c0] w fun e w' => e = .returned (.bool r) ∧ Drawn0 w w' := by
 have HR0 := Aside0.mk hr0; have HC0 := Aside0.mk hc0; clear hr0 hc0; have H : (if (l0.length : Int) ≥ 5 then ((spec_l00Rises.f k l0 0 11).bind fun t118 => (if t118 = true then (if 0 < (l0.length : Int) then (some ((rd l0 0) == 0)) else (none)) else (some false))) else (some false)) = some r := h; clear h
 by_cases c2 : (l0.length : Int) ≥ 5
 ·rw [if_pos c2] at H; have c2b0 : decide (5 ≤ (l0.length : Int)) = true := decide_eq_true c2; have c2b1 : decide (5 ≤ l0.length) = true := decide_eq_true (by omega); clear c2; replace H := Option.bind_eq_some_iff.mp H; obtain ⟨t118, A30, H⟩ := H; (try dsimp only at H); have A3 := Aside0.mk A30; clear A30
  by_cases c4 : t118 = true
  ·subst c4; rw [if_pos rfl] at H
   by_cases c5 : 0 < (l0.length : Int)
   ·rw [if_pos c5] at H; have c5b0 : decide (0 < (l0.length : Int)) = true := decide_eq_true c5; have c5b1 : decide (0 < l0.length) = true := decide_eq_true (by omega); clear c5; obtain rfl := Option.some.inj H; go_enter Try.func126, Try.ntmps126; go_wp2_with (first | (go_at_call 153; (with_reducible refine (spec_l00Rises.calls k _ _ l0 0 11 true _ ?side1 HC0.out A3.out).mono ?_); (case side1 => exact cr_ HR0.out); rintro e w' ⟨rfl, ⟨nd, rfl⟩⟩; have p119 : 0 ≤ (0 : Int) := (by omega); have q119 : 0 < (l0.length : Int) := da_; obtain ⟨ad119, e119, hx119_0⟩ := Kd.at_int HR0.out 0 p119 q119; cases e119; have qi119 : (0 < l0.length) = True := eq_true (by omega); (try rw [ti0_] at hx119_0); (try rw [Addr.add_zero'] at hx119_0); replace p119 := eq_true p119; replace q119 := eq_true q119))
    go_ret
    exact ⟨sv_, dr_⟩
   ·rw [if_neg c5] at H; exact absurd H (by simp)
  ·replace c4 := Bool.eq_false_iff.mpr c4; subst c4; rw [if_neg (show ¬ (false = true) by decide)] at H; obtain rfl := Option.some.inj H; go_enter Try.func126, Try.ntmps126; go_wp2_with (first | (go_at_call 153; (with_reducible refine (spec_l00Rises.calls k _ _ l0 0 11 false _ ?side1 HC0.out A3.out).mono ?_); (case side1 => exact cr_ HR0.out); rintro e w' ⟨rfl, ⟨nd, rfl⟩⟩))
   go_ret
   exact ⟨sv_, dr_⟩
 ·rw [if_neg c2] at H; have c2b0 : decide (5 ≤ (l0.length : Int)) = false := decide_eq_false c2; have c2b1 : decide (5 ≤ l0.length) = false := decide_eq_false (by omega); clear c2; obtain rfl := Option.some.inj H; go_enter Try.func126, Try.ntmps126; go_wp2
  go_ret
  exact ⟨sv_, dr_⟩
def spec_l05Pair.f (l0 : List Int) : Option (Bool) := if (l0.length : Int) = 2 then (if 0 < (l0.length : Int) then ((spec_l00In.f (rd l0 0) 0 11).bind fun t121 => (if t121 = true then (if 1 < (l0.length : Int) then ((spec_l00In.f (rd l0 1) 0 11).bind fun t123 => (if t123 = true then (some ((rd l0 0) != (rd l0 1))) else (some false))) else (none)) else (some false))) else (none)) else (some false)
theorem spec_l05Pair.calls (A0 : Option Addr) (c0 : Nat) (l0 : List Int) (r : Bool) (w : World) (hr0 : Kd.C (Kd.int .i64) w A0 l0.length l0) (hc0 : l0.length ≤ c0) (h : spec_l05Pair.f l0 = some r) :
  Calls Try.prog 154 #[.slice A0 l0.length c0] w fun e w' => e = .returned (.bool r) ∧ Drawn0 w w' := by
 have HR0 := Aside0.mk hr0; have HC0 := Aside0.mk hc0; clear hr0 hc0; have H : (if (l0.length : Int) = 2 then (if 0 < (l0.length : Int) then ((spec_l00In.f (rd l0 0) 0 11).bind fun t121 => (if t121 = true then (if 1 < (l0.length : Int) then ((spec_l00In.f (rd l0 1) 0 11).bind fun t123 => (if t123 = true then (some ((rd l0 0) != (rd l0 1))) else (some false))) else (none)) else (some false))) else (none)) else (some false)) = some r := h; clear h
 by_cases c2 : (l0.length : Int) = 2
 ·rw [if_pos c2] at H; have c2b0 : ((l0.length : Int) == 2) = true := beq_iff_eq.mpr c2; have c2b1 : ((l0.length : Int) != 2) = false := bne_eq_false_iff_eq.mpr c2; clear c2
  by_cases c3 : 0 < (l0.length : Int)
  ·rw [if_pos c3] at H; have c3b0 : decide (0 < (l0.length : Int)) = true := decide_eq_true c3; have c3b1 : decide (0 < l0.length) = true := decide_eq_true (by omega); clear c3; replace H := Option.bind_eq_some_iff.mp H; obtain ⟨t121, A40, H⟩ := H; (try dsimp only at H); have A4 := Aside0.mk A40; clear A40
   by_cases c5 : t121 = true
   ·subst c5; rw [if_pos rfl] at H
    by_cases c6 : 1 < (l0.length : Int)
    ·rw [if_pos c6] at H; have c6b0 : decide (1 < (l0.length : Int)) = true := decide_eq_true c6; have c6b1 : decide (1 < l0.length) = true := decide_eq_true (by omega); clear c6; replace H := Option.bind_eq_some_iff.mp H; obtain ⟨t123, A70, H⟩ := H; (try dsimp only at H); have A7 := Aside0.mk A70; clear A70
     by_cases c8 : t123 = true
     ·subst c8; rw [if_pos rfl] at H; obtain rfl := Option.some.inj H; have p120 : 0 ≤ (0 : Int) := (by omega); have q120 : 0 < (l0.length : Int) := da_; obtain ⟨ad120, e120, hx120_0⟩ := Kd.at_int HR0.out 0 p120 q120; cases e120; have qi120 : (0 < l0.length) = True := eq_true (by omega); (try rw [ti0_] at hx120_0); (try rw [Addr.add_zero'] at hx120_0); replace p120 := eq_true p120; replace q120 := eq_true q120; go_enter Try.func154, Try.ntmps154; go_wp2_with (first | (go_at_call 58; (with_reducible refine (spec_l00In.calls (rd l0 0) 0 11 true _ A4.out).mono ?_); rintro e w' ⟨rfl, ⟨nd, rfl⟩⟩; (try first | exact ⟨rfl, _, dN1⟩ | exact ⟨rfl, _, dN2⟩); have p122 : 0 ≤ (1 : Int) := (by omega); have q122 : 1 < (l0.length : Int) := da_; obtain ⟨ad122, e122, hx122_0⟩ := Kd.at_int HR0.out 1 p122 q122; obtain rfl : ad120 = ad122 := (by injection e122); (try simp only [ti1_, Nat.reduceMul, Nat.reduceEqDiff, Go.Addr.add, ↓reduceIte] at hx122_0); have qi122 : (1 < l0.length) = True := eq_true (by omega); (try rw [ti1_] at hx122_0); replace p122 := eq_true p122; replace q122 := eq_true q122) | (go_at_call 58; (with_reducible refine (spec_l00In.calls (rd l0 1) 0 11 true _ A7.out).mono ?_); rintro e w' ⟨rfl, ⟨nd, rfl⟩⟩; (try first | exact ⟨rfl, _, dN1⟩ | exact ⟨rfl, _, dN2⟩); have p124 : 0 ≤ (0 : Int) := (by omega); have q124 : 0 < (l0.length : Int) := da_; obtain ⟨ad124, e124, hx124_0⟩ := Kd.at_int HR0.out 0 p124 q124; obtain rfl : ad120 = ad124 := (by injection e124); have qi124 : (0 < l0.length) = True := eq_true (by omega); (try rw [ti0_] at hx124_0); (try rw [Addr.add_zero'] at hx124_0); replace p124 := eq_true p124; replace q124 := eq_true q124; have p125 : 0 ≤ (1 : Int) := (by omega); have q125 : 1 < (l0.length : Int) := da_; obtain ⟨ad125, e125, hx125_0⟩ := Kd.at_int HR0.out 1 p125 q125; obtain rfl : ad120 = ad125 := (by injection e125); (try simp only [ti1_, Nat.reduceMul, Nat.reduceEqDiff, Go.Addr.add, ↓reduceIte] at hx125_0); have qi125 : (1 < l0.length) = True := eq_true (by omega); (try rw [ti1_] at hx125_0); replace p125 := eq_true p125; replace q125 := eq_true q125))
      repeat (go_quiet (first | (go_at_call 58; (with_reducible refine (spec_l00In.calls (rd l0 0) 0 11 true _ A4.out).mono ?_); rintro e w' ⟨rfl, ⟨nd, rfl⟩⟩; (try first | exact ⟨rfl, _, dN1⟩ | exact ⟨rfl, _, dN2⟩); have p122 : 0 ≤ (1 : Int) := (by omega); have q122 : 1 < (l0.length : Int) := da_; obtain ⟨ad122, e122, hx122_0⟩ := Kd.at_int HR0.out 1 p122 q122; obtain rfl : ad120 = ad122 := (by injection e122); (try simp only [ti1_, Nat.reduceMul, Nat.reduceEqDiff, Go.Addr.add, ↓reduceIte] at hx122_0); have qi122 : (1 < l0.length) = True := eq_true (by omega); (try rw [ti1_] at hx122_0); replace p122 := eq_true p122; replace q122 := eq_true q122) | (go_at_call 58; (with_reducible refine (spec_l00In.calls (rd l0 1) 0 11 true _ A7.out).mono ?_); rintro e w' ⟨rfl, ⟨nd, rfl⟩⟩; (try first | exact ⟨rfl, _, dN1⟩ | exact ⟨rfl, _, dN2⟩); have p124 : 0 ≤ (0 : Int) := (by omega); have q124 : 0 < (l0.length : Int) := da_; obtain ⟨ad124, e124, hx124_0⟩ := Kd.at_int HR0.out 0 p124 q124; obtain rfl : ad120 = ad124 := (by injection e124); have qi124 : (0 < l0.length) = True := eq_true (by omega); (try rw [ti0_] at hx124_0); (try rw [Addr.add_zero'] at hx124_0); replace p124 := eq_true p124; replace q124 := eq_true q124; have p125 : 0 ≤ (1 : Int) := (by omega); have q125 : 1 < (l0.length : Int) := da_; obtain ⟨ad125, e125, hx125_0⟩ := Kd.at_int HR0.out 1 p125 q125; obtain rfl : ad120 = ad125 := (by injection e125); (try simp only [ti1_, Nat.reduceMul, Nat.reduceEqDiff, Go.Addr.add, ↓reduceIte] at hx125_0); have qi125 : (1 < l0.length) = True := eq_true (by omega); (try rw [ti1_] at hx125_0); replace p125 := eq_true p125; replace q125 := eq_true q125)); try go_wp2_with (first | (go_at_call 58; (with_reducible refine (spec_l00In.calls (rd l0 0) 0 11 true _ A4.out).mono ?_); rintro e w' ⟨rfl, ⟨nd, rfl⟩⟩; (try first | exact ⟨rfl, _, dN1⟩ | exact ⟨rfl, _, dN2⟩); have p122 : 0 ≤ (1 : Int) := (by omega); have q122 : 1 < (l0.length : Int) := da_; obtain ⟨ad122, e122, hx122_0⟩ := Kd.at_int HR0.out 1 p122 q122; obtain rfl : ad120 = ad122 := (by injection e122); (try simp only [ti1_, Nat.reduceMul, Nat.reduceEqDiff, Go.Addr.add, ↓reduceIte] at hx122_0); have qi122 : (1 < l0.length) = True := eq_true (by omega); (try rw [ti1_] at hx122_0); replace p122 := eq_true p122; replace q122 := eq_true q122) | (go_at_call 58; (with_reducible refine (spec_l00In.calls (rd l0 1) 0 11 true _ A7.out).mono ?_); rintro e w' ⟨rfl, ⟨nd, rfl⟩⟩; (try first | exact ⟨rfl, _, dN1⟩ | exact ⟨rfl, _, dN2⟩); have p124 : 0 ≤ (0 : Int) := (by omega); have q124 : 0 < (l0.length : Int) := da_; obtain ⟨ad124, e124, hx124_0⟩ := Kd.at_int HR0.out 0 p124 q124; obtain rfl : ad120 = ad124 := (by injection e124); have qi124 : (0 < l0.length) = True := eq_true (by omega); (try rw [ti0_] at hx124_0); (try rw [Addr.add_zero'] at hx124_0); replace p124 := eq_true p124; replace q124 := eq_true q124; have p125 : 0 ≤ (1 : Int) := (by omega); have q125 : 1 < (l0.length : Int) := da_; obtain ⟨ad125, e125, hx125_0⟩ := Kd.at_int HR0.out 1 p125 q125; obtain rfl : ad120 = ad125 := (by injection e125); (try simp only [ti1_, Nat.reduceMul, Nat.reduceEqDiff, Go.Addr.add, ↓reduceIte] at hx125_0); have qi125 : (1 < l0.length) = True := eq_true (by omega); (try rw [ti1_] at hx125_0); replace p125 := eq_true p125; replace q125 := eq_true q125)))
      go_ret
      exact ⟨sv_, dr_⟩
     ·replace c8 := Bool.eq_false_iff.mpr c8; subst c8; rw [if_neg (show ¬ (false = true) by decide)] at H; obtain rfl := Option.some.inj H; have p120 : 0 ≤ (0 : Int) := (by omega); have q120 : 0 < (l0.length : Int) := da_; obtain ⟨ad120, e120, hx120_0⟩ := Kd.at_int HR0.out 0 p120 q120; cases e120; have qi120 : (0 < l0.length) = True := eq_true (by omega); (try rw [ti0_] at hx120_0); (try rw [Addr.add_zero'] at hx120_0); replace p120 := eq_true p120; replace q120 := eq_true q120; go_enter Try.func154, Try.ntmps154; go_wp2_with (first | (go_at_call 58; (with_reducible refine (spec_l00In.calls (rd l0 0) 0 11 true _ A4.out).mono ?_); rintro e w' ⟨rfl, ⟨nd, rfl⟩⟩; (try first | exact ⟨rfl, _, dN1⟩ | exact ⟨rfl, _, dN2⟩); have p122 : 0 ≤ (1 : Int) := (by omega); have q122 : 1 < (l0.length : Int) := da_; obtain ⟨ad122, e122, hx122_0⟩ := Kd.at_int HR0.out 1 p122 q122; obtain rfl : ad120 = ad122 := (by injection e122); (try simp only [ti1_, Nat.reduceMul, Nat.reduceEqDiff, Go.Addr.add, ↓reduceIte] at hx122_0); have qi122 : (1 < l0.length) = True := eq_true (by omega); (try rw [ti1_] at hx122_0); replace p122 := eq_true p122; replace q122 := eq_true q122) | (go_at_call 58; (with_reducible refine (spec_l00In.calls (rd l0 1) 0 11 false _ A7.out).mono ?_); rintro e w' ⟨rfl, ⟨nd, rfl⟩⟩; (try first | exact ⟨rfl, _, dN1⟩ | exact ⟨rfl, _, dN2⟩)))
      repeat (go_quiet (first | (go_at_call 58; (with_reducible refine (spec_l00In.calls (rd l0 0) 0 11 true _ A4.out).mono ?_); rintro e w' ⟨rfl, ⟨nd, rfl⟩⟩; (try first | exact ⟨rfl, _, dN1⟩ | exact ⟨rfl, _, dN2⟩); have p122 : 0 ≤ (1 : Int) := (by omega); have q122 : 1 < (l0.length : Int) := da_; obtain ⟨ad122, e122, hx122_0⟩ := Kd.at_int HR0.out 1 p122 q122; obtain rfl : ad120 = ad122 := (by injection e122); (try simp only [ti1_, Nat.reduceMul, Nat.reduceEqDiff, Go.Addr.add, ↓reduceIte] at hx122_0); have qi122 : (1 < l0.length) = True := eq_true (by omega); (try rw [ti1_] at hx122_0); replace p122 := eq_true p122; replace q122 := eq_true q122) | (go_at_call 58; (with_reducible refine (spec_l00In.calls (rd l0 1) 0 11 false _ A7.out).mono ?_); rintro e w' ⟨rfl, ⟨nd, rfl⟩⟩; (try first | exact ⟨rfl, _, dN1⟩ | exact ⟨rfl, _, dN2⟩))); try go_wp2_with (first | (go_at_call 58; (with_reducible refine (spec_l00In.calls (rd l0 0) 0 11 true _ A4.out).mono ?_); rintro e w' ⟨rfl, ⟨nd, rfl⟩⟩; (try first | exact ⟨rfl, _, dN1⟩ | exact ⟨rfl, _, dN2⟩); have p122 : 0 ≤ (1 : Int) := (by omega); have q122 : 1 < (l0.length : Int) := da_; obtain ⟨ad122, e122, hx122_0⟩ := Kd.at_int HR0.out 1 p122 q122; obtain rfl : ad120 = ad122 := (by injection e122); (try simp only [ti1_, Nat.reduceMul, Nat.reduceEqDiff, Go.Addr.add, ↓reduceIte] at hx122_0); have qi122 : (1 < l0.length) = True := eq_true (by omega); (try rw [ti1_] at hx122_0); replace p122 := eq_true p122; replace q122 := eq_true q122) | (go_at_call 58; (with_reducible refine (spec_l00In.calls (rd l0 1) 0 11 false _ A7.out).mono ?_); rintro e w' ⟨rfl, ⟨nd, rfl⟩⟩; (try first | exact ⟨rfl, _, dN1⟩ | exact ⟨rfl, _, dN2⟩))))
      go_ret
      exact ⟨sv_, dr_⟩
    ·rw [if_neg c6] at H; exact absurd H (by simp)
   ·replace c5 := Bool.eq_false_iff.mpr c5; subst c5; rw [if_neg (show ¬ (false = true) by decide)] at H; obtain rfl := Option.some.inj H; have p120 : 0 ≤ (0 : Int) := (by omega); have q120 : 0 < (l0.length : Int) := da_; obtain ⟨ad120, e120, hx120_0⟩ := Kd.at_int HR0.out 0 p120 q120; cases e120; have qi120 : (0 < l0.length) = True := eq_true (by omega); (try rw [ti0_] at hx120_0); (try rw [Addr.add_zero'] at hx120_0); replace p120 := eq_true p120; replace q120 := eq_true q120; go_enter Try.func154, Try.ntmps154; go_wp2_with (first | (go_at_call 58; (with_reducible refine (spec_l00In.calls (rd l0 0) 0 11 false _ A4.out).mono ?_); rintro e w' ⟨rfl, ⟨nd, rfl⟩⟩; (try first | exact ⟨rfl, _, dN1⟩ | exact ⟨rfl, _, dN2⟩)))
    repeat (go_quiet (first | (go_at_call 58; (with_reducible refine (spec_l00In.calls (rd l0 0) 0 11 false _ A4.out).mono ?_); rintro e w' ⟨rfl, ⟨nd, rfl⟩⟩; (try first | exact ⟨rfl, _, dN1⟩ | exact ⟨rfl, _, dN2⟩))); try go_wp2_with (first | (go_at_call 58; (with_reducible refine (spec_l00In.calls (rd l0 0) 0 11 false _ A4.out).mono ?_); rintro e w' ⟨rfl, ⟨nd, rfl⟩⟩; (try first | exact ⟨rfl, _, dN1⟩ | exact ⟨rfl, _, dN2⟩))))
    go_ret
    exact ⟨sv_, dr_⟩
  ·rw [if_neg c3] at H; exact absurd H (by simp)
 ·rw [if_neg c2] at H; have c2b0 : ((l0.length : Int) == 2) = false := beq_eq_false_iff_ne.mpr c2; have c2b1 : ((l0.length : Int) != 2) = true := bne_iff_ne.mpr c2; obtain rfl := Option.some.inj H; go_enter Try.func154, Try.ntmps154; go_wp2
  repeat (go_quiet (fail); try go_wp2)
  go_ret
  exact ⟨sv_, dr_⟩
end Go.Proofs.Ytinlejhffokbaaa.P
end
