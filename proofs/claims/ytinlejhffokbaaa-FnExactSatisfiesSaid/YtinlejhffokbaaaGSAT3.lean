/- Texts of this seat, merged: QImplOnlynamebytes, QImplIsname, QImplToneok, QImplIncreasing, QImplValidscale, QCmpIsnanInt64, QCmpCompareInt64, QSlicesCompareInt64Int64, QImplValidraga. -/
import Derived.Test.YtinlejhffokbaaaGSAT1
section
namespace Go.Proofs.Ytinlejhffokbaaa.P
open Go.RowKit Go.Proofs.YtinlejhffokbaaaW.PrintWords Go.Proofs.YtinlejhffokbaaaW.PrintLast Go.Proofs.YtinlejhffokbaaaW.PrintMore
attribute [local go_sem] max2_int min2_int max_two min_two max_three min_three max_four min_four   -- for this text's walks alone
set_option linter.unusedVariables false
set_option linter.unusedSimpArgs false
/-! ### impl_onlyNameBytes: function 144 -/
def impl_onlyNameBytes.l0 : Nat → ByteArray → Int → Int → Option (Bool)
 | 0, _, _, _ => none
 | k + 1, x0, x6, x7 => if x7 < x6 then (if 0 ≤ x7 then (if x7 < (x0.size : Int) then (if (bt x0 x7) < 97 then (if (bt x0 x7) < 48 then (some false) else (if (bt x0 x7) > 57 then (some false) else (impl_onlyNameBytes.l0 k x0 x6 (wrap64 (x7 + 1))))) else (if (bt x0 x7) > 122 then (if (bt x0 x7) < 48 then (some false) else (if (bt x0 x7) > 57 then (some false) else (impl_onlyNameBytes.l0 k x0 x6 (wrap64 (x7 + 1))))) else (impl_onlyNameBytes.l0 k x0 x6 (wrap64 (x7 + 1))))) else (none)) else (none)) else (some true)
def impl_onlyNameBytes.f (k : Nat) (a0 : ByteArray) : Option (Bool) := impl_onlyNameBytes.l0 k a0 (a0.size : Int) 0
set_option maxHeartbeats 8000000 in
set_option maxRecDepth 100000 in
theorem impl_onlyNameBytes.calls (k : Nat) (a0 : ByteArray) (r : Bool) (w : World) (h : impl_onlyNameBytes.f k a0 = some r) :
  Calls Try.prog 144 #[.string a0] w fun e w' => e = .returned (.bool r) ∧ Drawn0 w w' := by
 have H : (impl_onlyNameBytes.l0 k a0 (a0.size : Int) 0) = some r := h
 clear h
 have H' := Aside0.mk H
 clear H
 go_enter Try.func144, Try.ntmps144
 go_wp2
 go_loopg [7] k (fun kq v7 w' => ∃ (x7_1 : Int), v7 = .int .i64 x7_1 ∧ Aside0 (impl_onlyNameBytes.l0 kq a0 (a0.size : Int) x7_1 = some r) ∧ Aside0 (kq ≤ k) ∧ Drawn0 w w')
 case atStart => exact ⟨(0), sv_, H', ⟨Nat.le_refl _⟩, dr_⟩
 case round =>
  clear H'
  try clear c1
  obtain ⟨x7_1, rfl, HA, HK1, ⟨m1, rfl⟩⟩ := hrel
  cases gk with
  | zero => exact absurd HA.out (by simp [impl_onlyNameBytes.l0])
  | succ k1 =>
   have H := HA.out
   clear HA
   simp only [impl_onlyNameBytes.l0] at H
   by_cases c2 : x7_1 < (a0.size : Int)
   ·rw [if_pos c2] at H
    have c2b0 : decide (x7_1 < (a0.size : Int)) = true := decide_eq_true c2
    clear c2
    by_cases c3 : 0 ≤ x7_1
    ·rw [if_pos c3] at H
     have c3b0 : decide (0 ≤ x7_1) = true := decide_eq_true c3
     clear c3
     by_cases c4 : x7_1 < (a0.size : Int)
     ·rw [if_pos c4] at H
      have c4b0 : decide (x7_1 < (a0.size : Int)) = true := decide_eq_true c4
      clear c4
      by_cases c6 : (bt a0 x7_1) < 97
      ·rw [if_pos c6] at H
       have c6b0 : decide ((bt a0 x7_1) < 97) = true := decide_eq_true c6
       clear c6
       by_cases c7 : (bt a0 x7_1) < 48
       ·rw [if_pos c7] at H
        have c7b0 : decide ((bt a0 x7_1) < 48) = true := decide_eq_true c7
        clear c7
        obtain rfl := Option.some.inj H
        have p5 : 0 ≤ (x7_1 : Int) := da_
        have q5 : x7_1 < (a0.size : Int) := da_
        have hx5 := bt_at a0 x7_1
        replace p5 := eq_true p5
        replace q5 := eq_true q5
        go_wp2
        go_ret
        exact ⟨sv_, dr_⟩
       ·rw [if_neg c7] at H
        have c7b0 : decide ((bt a0 x7_1) < 48) = false := decide_eq_false c7
        clear c7
        by_cases c8 : (bt a0 x7_1) > 57
        ·rw [if_pos c8] at H
         have c8b0 : decide (57 < (bt a0 x7_1)) = true := decide_eq_true c8
         clear c8
         obtain rfl := Option.some.inj H
         have p5 : 0 ≤ (x7_1 : Int) := da_
         have q5 : x7_1 < (a0.size : Int) := da_
         have hx5 := bt_at a0 x7_1
         replace p5 := eq_true p5
         replace q5 := eq_true q5
         go_wp2
         go_ret
         exact ⟨sv_, dr_⟩
        ·rw [if_neg c8] at H
         have c8b0 : decide (57 < (bt a0 x7_1)) = false := decide_eq_false c8
         clear c8
         have H' := Aside0.mk H
         clear H
         have p5 : 0 ≤ (x7_1 : Int) := da_
         have q5 : x7_1 < (a0.size : Int) := da_
         have hx5 := bt_at a0 x7_1
         replace p5 := eq_true p5
         replace q5 := eq_true q5
         go_wp2
         go_roundg k1
         case measure => have := HK1.out; omega
         case rel => exact ⟨(wrap64 (x7_1 + 1)), sv_, H', ⟨by have := HK1.out; omega⟩, dr_⟩
      ·rw [if_neg c6] at H
       have c6b0 : decide ((bt a0 x7_1) < 97) = false := decide_eq_false c6
       clear c6
       by_cases c9 : (bt a0 x7_1) > 122
       ·rw [if_pos c9] at H
        have c9b0 : decide (122 < (bt a0 x7_1)) = true := decide_eq_true c9
        clear c9
        by_cases c10 : (bt a0 x7_1) < 48
        ·rw [if_pos c10] at H
         have c10b0 : decide ((bt a0 x7_1) < 48) = true := decide_eq_true c10
         clear c10
         obtain rfl := Option.some.inj H
         have p5 : 0 ≤ (x7_1 : Int) := da_
         have q5 : x7_1 < (a0.size : Int) := da_
         have hx5 := bt_at a0 x7_1
         replace p5 := eq_true p5
         replace q5 := eq_true q5
         go_wp2
         go_ret
         exact ⟨sv_, dr_⟩
        ·rw [if_neg c10] at H
         have c10b0 : decide ((bt a0 x7_1) < 48) = false := decide_eq_false c10
         clear c10
         by_cases c11 : (bt a0 x7_1) > 57
         ·rw [if_pos c11] at H
          have c11b0 : decide (57 < (bt a0 x7_1)) = true := decide_eq_true c11
          clear c11
          obtain rfl := Option.some.inj H
          have p5 : 0 ≤ (x7_1 : Int) := da_
          have q5 : x7_1 < (a0.size : Int) := da_
          have hx5 := bt_at a0 x7_1
          replace p5 := eq_true p5
          replace q5 := eq_true q5
          go_wp2
          go_ret
          exact ⟨sv_, dr_⟩
         ·rw [if_neg c11] at H
          have c11b0 : decide (57 < (bt a0 x7_1)) = false := decide_eq_false c11
          clear c11
          have H' := Aside0.mk H
          clear H
          have p5 : 0 ≤ (x7_1 : Int) := da_
          have q5 : x7_1 < (a0.size : Int) := da_
          have hx5 := bt_at a0 x7_1
          replace p5 := eq_true p5
          replace q5 := eq_true q5
          go_wp2
          go_roundg k1
          case measure => have := HK1.out; omega
          case rel => exact ⟨(wrap64 (x7_1 + 1)), sv_, H', ⟨by have := HK1.out; omega⟩, dr_⟩
       ·rw [if_neg c9] at H
        have c9b0 : decide (122 < (bt a0 x7_1)) = false := decide_eq_false c9
        clear c9
        have H' := Aside0.mk H
        clear H
        have p5 : 0 ≤ (x7_1 : Int) := da_
        have q5 : x7_1 < (a0.size : Int) := da_
        have hx5 := bt_at a0 x7_1
        replace p5 := eq_true p5
        replace q5 := eq_true q5
        go_wp2
        go_roundg k1
        case measure => have := HK1.out; omega
        case rel => exact ⟨(wrap64 (x7_1 + 1)), sv_, H', ⟨by have := HK1.out; omega⟩, dr_⟩
     ·rw [if_neg c4] at H
      exact absurd H (by simp)
    ·rw [if_neg c3] at H
     exact absurd H (by simp)
   ·rw [if_neg c2] at H
    have c2b0 : decide (x7_1 < (a0.size : Int)) = false := decide_eq_false c2
    clear c2
    obtain rfl := Option.some.inj H
    go_wp2
    go_ret
    exact ⟨sv_, dr_⟩
/-! ### impl_IsName: function 113 -/
def impl_IsName.f (k : Nat) (a0 : ByteArray) : Option (Bool) := if (a0.size : Int) < 1 then (some false) else (if (a0.size : Int) > 10 then (some false) else (if 0 < (a0.size : Int) then (if (bt a0 0) < 97 then (some false) else (if (bt a0 0) > 122 then (some false) else ((impl_onlyNameBytes.f k a0).bind fun t242 => (some t242)))) else (none)))
set_option maxHeartbeats 8000000 in
set_option maxRecDepth 100000 in
theorem impl_IsName.calls (k : Nat) (a0 : ByteArray) (r : Bool) (w : World) (h : impl_IsName.f k a0 = some r) :
  Calls Try.prog 113 #[.string a0] w fun e w' => e = .returned (.bool r) ∧ Drawn0 w w' := by
 have H : (if (a0.size : Int) < 1 then (some false) else (if (a0.size : Int) > 10 then (some false) else (if 0 < (a0.size : Int) then (if (bt a0 0) < 97 then (some false) else (if (bt a0 0) > 122 then (some false) else ((impl_onlyNameBytes.f k a0).bind fun t242 => (some t242)))) else (none)))) = some r := h
 clear h
 by_cases c2 : (a0.size : Int) < 1
 ·rw [if_pos c2] at H
  have c2b0 : decide ((a0.size : Int) < 1) = true := decide_eq_true c2
  have c2b1 : decide (a0.size < 1) = true := decide_eq_true (by omega)
  clear c2
  obtain rfl := Option.some.inj H
  go_enter Try.func113, Try.ntmps113
  go_wp2
  go_ret
  exact ⟨sv_, dr_⟩
 ·rw [if_neg c2] at H
  have c2b0 : decide ((a0.size : Int) < 1) = false := decide_eq_false c2
  have c2b1 : decide (a0.size < 1) = false := decide_eq_false (by omega)
  clear c2
  by_cases c3 : (a0.size : Int) > 10
  ·rw [if_pos c3] at H
   have c3b0 : decide (10 < (a0.size : Int)) = true := decide_eq_true c3
   have c3b1 : decide (10 < a0.size) = true := decide_eq_true (by omega)
   clear c3
   obtain rfl := Option.some.inj H
   go_enter Try.func113, Try.ntmps113
   go_wp2
   go_ret
   exact ⟨sv_, dr_⟩
  ·rw [if_neg c3] at H
   have c3b0 : decide (10 < (a0.size : Int)) = false := decide_eq_false c3
   have c3b1 : decide (10 < a0.size) = false := decide_eq_false (by omega)
   clear c3
   by_cases c4 : 0 < (a0.size : Int)
   ·rw [if_pos c4] at H
    have c4b0 : decide (0 < (a0.size : Int)) = true := decide_eq_true c4
    have c4b1 : decide (0 < a0.size) = true := decide_eq_true (by omega)
    clear c4
    by_cases c6 : (bt a0 0) < 97
    ·rw [if_pos c6] at H
     have c6b0 : decide ((bt a0 0) < 97) = true := decide_eq_true c6
     clear c6
     obtain rfl := Option.some.inj H
     have p5 : 0 ≤ (0 : Int) := (by omega)
     have q5 : 0 < a0.size := (by have : (0 : Int) < (a0.size : Int) := da_; omega)
     have hx5 : ∀ h : 0 < a0.size, ((a0[0]'h).toNat : Int) = bt a0 0 := bt_at a0 0
     clear p5
     have qi5 : (0 < (a0.size : Int)) = True := eq_true (da_)
     replace q5 := eq_true q5
     go_enter Try.func113, Try.ntmps113
     go_wp2
     go_ret
     exact ⟨sv_, dr_⟩
    ·rw [if_neg c6] at H
     have c6b0 : decide ((bt a0 0) < 97) = false := decide_eq_false c6
     clear c6
     by_cases c8 : (bt a0 0) > 122
     ·rw [if_pos c8] at H
      have c8b0 : decide (122 < (bt a0 0)) = true := decide_eq_true c8
      clear c8
      obtain rfl := Option.some.inj H
      have p5 : 0 ≤ (0 : Int) := (by omega)
      have q5 : 0 < a0.size := (by have : (0 : Int) < (a0.size : Int) := da_; omega)
      have hx5 : ∀ h : 0 < a0.size, ((a0[0]'h).toNat : Int) = bt a0 0 := bt_at a0 0
      clear p5
      have qi5 : (0 < (a0.size : Int)) = True := eq_true (da_)
      replace q5 := eq_true q5
      have p7 : 0 ≤ (0 : Int) := (by omega)
      have q7 : 0 < a0.size := (by have : (0 : Int) < (a0.size : Int) := da_; omega)
      have hx7 : ∀ h : 0 < a0.size, ((a0[0]'h).toNat : Int) = bt a0 0 := bt_at a0 0
      clear p7
      have qi7 : (0 < (a0.size : Int)) = True := eq_true (da_)
      replace q7 := eq_true q7
      go_enter Try.func113, Try.ntmps113
      go_wp2
      go_ret
      exact ⟨sv_, dr_⟩
     ·rw [if_neg c8] at H
      have c8b0 : decide (122 < (bt a0 0)) = false := decide_eq_false c8
      clear c8
      replace H := Option.bind_eq_some_iff.mp H
      obtain ⟨t242, A90, H⟩ := H
      replace H : (some t242) = some r := H
      have A9 := Aside0.mk A90
      clear A90
      obtain rfl := Option.some.inj H
      have p5 : 0 ≤ (0 : Int) := (by omega)
      have q5 : 0 < a0.size := (by have : (0 : Int) < (a0.size : Int) := da_; omega)
      have hx5 : ∀ h : 0 < a0.size, ((a0[0]'h).toNat : Int) = bt a0 0 := bt_at a0 0
      clear p5
      have qi5 : (0 < (a0.size : Int)) = True := eq_true (da_)
      replace q5 := eq_true q5
      have p7 : 0 ≤ (0 : Int) := (by omega)
      have q7 : 0 < a0.size := (by have : (0 : Int) < (a0.size : Int) := da_; omega)
      have hx7 : ∀ h : 0 < a0.size, ((a0[0]'h).toNat : Int) = bt a0 0 := bt_at a0 0
      clear p7
      have qi7 : (0 < (a0.size : Int)) = True := eq_true (da_)
      replace q7 := eq_true q7
      go_enter Try.func113, Try.ntmps113
      go_wp2_with (first | ((with_reducible refine gate_callee (f := 144) rfl ?_); refine goesL_ (some 22) rfl rfl Try.func144 (by kernel_rfl) rfl #[.string a0] rfl av_ ?_; (with_reducible refine (impl_onlyNameBytes.calls k a0 t242 _ A9.out).mono ?_); rintro e w' ⟨rfl, ⟨nd, rfl⟩⟩; refine ⟨_, rfl, ?_⟩))
      go_ret
      exact ⟨sv_, dr_⟩
   ·rw [if_neg c4] at H
    exact absurd H (by simp)
/-! ### impl_toneOk: function 115 -/
def impl_toneOk.f (a0 : Int) : Option (Bool) := (impl_within.f a0 0 11).bind fun t248 => (some t248)
set_option maxHeartbeats 8000000 in
set_option maxRecDepth 100000 in
theorem impl_toneOk.calls (a0 : Int) (r : Bool) (w : World) (h : impl_toneOk.f a0 = some r) :
  Calls Try.prog 115 #[.int .i64 a0] w fun e w' => e = .returned (.bool r) ∧ Drawn0 w w' := by
 have H : ((impl_within.f a0 0 11).bind fun t248 => (some t248)) = some r := h
 clear h
 replace H := Option.bind_eq_some_iff.mp H
 obtain ⟨t248, A20, H⟩ := H
 replace H : (some t248) = some r := H
 have A2 := Aside0.mk A20
 clear A20
 obtain rfl := Option.some.inj H
 go_enter Try.func115, Try.ntmps115
 go_wp2_with (first | ((with_reducible refine gate_callee (f := 65) rfl ?_); refine goesL_ (some 4) rfl rfl Try.func65 (by kernel_rfl) rfl #[.int .i64 a0, .int .i64 0, .int .i64 11] rfl av_ ?_; (with_reducible refine (impl_within.calls a0 0 11 t248 _ A2.out).mono ?_); rintro e w' ⟨rfl, ⟨nd, rfl⟩⟩; refine ⟨_, rfl, ?_⟩))
 go_ret
 exact ⟨sv_, dr_⟩
/-! ### impl_increasing: function 145 -/
def impl_increasing.l0 : Nat → List Int → Int → Option (Bool)
 | 0, _, _ => none
 | k + 1, x0, x3 => if x3 < (x0.length : Int) then (if 0 ≤ x3 then (if 0 ≤ (wrap64 (x3 - 1)) then (if (wrap64 (x3 - 1)) < (x0.length : Int) then (if (rd x0 x3) ≤ (rd x0 (wrap64 (x3 - 1))) then (some false) else (impl_increasing.l0 k x0 (wrap64 (x3 + 1)))) else (none)) else (none)) else (none)) else (some true)
def impl_increasing.f (k : Nat) (l0 : List Int) : Option (Bool) := impl_increasing.l0 k l0 1
set_option maxHeartbeats 8000000 in
set_option maxRecDepth 100000 in
theorem impl_increasing.calls (k : Nat) (A0 : Option Addr) (c0 : Nat) (l0 : List Int) (r : Bool) (w : World) (hr0 : Kd.C (Kd.int .i64) w A0 l0.length l0) (hc0 : l0.length ≤ c0) (h : impl_increasing.f k l0 = some r) :
  Calls Try.prog 145 #[.slice A0 l0.length c0] w fun e w' => e = .returned (.bool r) ∧ Drawn0 w w' := by
 have HR0 := Aside0.mk hr0
 have HC0 := Aside0.mk hc0
 clear hr0 hc0
 have H : (impl_increasing.l0 k l0 1) = some r := h
 clear h
 have H' := Aside0.mk H
 clear H
 go_enter Try.func145, Try.ntmps145
 go_wp2
 repeat (go_quiet (fail); try go_wp2)
 go_loopg [3] k (fun kq v3 w' => ∃ (x3_1 : Int), v3 = .int .i64 x3_1 ∧ Aside0 (impl_increasing.l0 kq l0 x3_1 = some r) ∧ Aside0 (kq ≤ k) ∧ Drawn0 w w')
 case atStart => exact ⟨(1), sv_, H', ⟨Nat.le_refl _⟩, dr_⟩
 case round =>
  clear H'
  try clear c1
  obtain ⟨x3_1, rfl, HA, HK1, ⟨m1, rfl⟩⟩ := hrel
  cases gk with
  | zero => exact absurd HA.out (by simp [impl_increasing.l0])
  | succ k1 =>
   have H := HA.out
   clear HA
   simp only [impl_increasing.l0] at H
   by_cases c2 : x3_1 < (l0.length : Int)
   ·rw [if_pos c2] at H
    have c2b0 : decide (x3_1 < (l0.length : Int)) = true := decide_eq_true c2
    clear c2
    by_cases c3 : 0 ≤ x3_1
    ·rw [if_pos c3] at H
     have c3b0 : decide (0 ≤ x3_1) = true := decide_eq_true c3
     clear c3
     obtain ⟨ji4, hji4⟩ : ∃ j_ : Int, (wrap64 (x3_1 - 1)) = j_ := ⟨_, rfl⟩
     replace H : (if 0 ≤ (ji4) then (if (ji4) < (l0.length : Int) then (if (rd l0 x3_1) ≤ (rd l0 (ji4)) then (some false) else (impl_increasing.l0 k1 l0 (wrap64 (x3_1 + 1)))) else (none)) else (none)) = some r := by first | (rw [hji4] at H; exact H) | (simp only [hji4] at H ⊢; exact H)
     have hji4w : (IntKind.i64.wrap (x3_1 - 1)) = ji4 := (i64_w _).trans hji4
     by_cases c5 : 0 ≤ (ji4)
     ·rw [if_pos c5] at H
      have c5b0 : decide (0 ≤ (ji4)) = true := decide_eq_true c5
      clear c5
      by_cases c6 : (ji4) < (l0.length : Int)
      ·rw [if_pos c6] at H
       have c6b0 : decide ((ji4) < (l0.length : Int)) = true := decide_eq_true c6
       clear c6
       by_cases c7 : (rd l0 x3_1) ≤ (rd l0 (ji4))
       ·rw [if_pos c7] at H
        have c7b0 : decide ((rd l0 x3_1) ≤ (rd l0 (ji4))) = true := decide_eq_true c7
        clear c7
        obtain rfl := Option.some.inj H
        have p243 : 0 ≤ (x3_1 : Int) := da_
        have q243 : x3_1 < (l0.length : Int) := da_
        obtain ⟨ad243, e243, hx243_0⟩ := Kd.at_int HR0.out x3_1 p243 q243
        cases e243
        replace p243 := eq_true p243
        replace q243 := eq_true q243
        have p244 : 0 ≤ ((ji4) : Int) := da_
        have q244 : (ji4) < (l0.length : Int) := da_
        obtain ⟨ad244, e244, hx244_0⟩ := Kd.at_int HR0.out (ji4) p244 q244
        obtain rfl : ad243 = ad244 := (by injection e244)
        replace p244 := eq_true p244
        replace q244 := eq_true q244
        go_wp2
        repeat (go_quiet (fail); try go_wp2)
        go_ret
        exact ⟨by first | rfl | (simp; done) | (simp only [← hji4] <;> (first | rfl | simp)) | (simp [*]; done), dr_⟩
       ·rw [if_neg c7] at H
        have c7b0 : decide ((rd l0 x3_1) ≤ (rd l0 (ji4))) = false := decide_eq_false c7
        clear c7
        have H' := Aside0.mk H
        clear H
        have p243 : 0 ≤ (x3_1 : Int) := da_
        have q243 : x3_1 < (l0.length : Int) := da_
        obtain ⟨ad243, e243, hx243_0⟩ := Kd.at_int HR0.out x3_1 p243 q243
        cases e243
        replace p243 := eq_true p243
        replace q243 := eq_true q243
        have p244 : 0 ≤ ((ji4) : Int) := da_
        have q244 : (ji4) < (l0.length : Int) := da_
        obtain ⟨ad244, e244, hx244_0⟩ := Kd.at_int HR0.out (ji4) p244 q244
        obtain rfl : ad243 = ad244 := (by injection e244)
        replace p244 := eq_true p244
        replace q244 := eq_true q244
        go_wp2
        repeat (go_quiet (fail); try go_wp2)
        go_roundg k1
        case measure => have := HK1.out; omega
        case rel => exact ⟨(wrap64 (x3_1 + 1)), sv_, H', ⟨by have := HK1.out; omega⟩, dr_⟩
      ·rw [if_neg c6] at H
       exact absurd H (by simp)
     ·rw [if_neg c5] at H
      exact absurd H (by simp)
    ·rw [if_neg c3] at H
     exact absurd H (by simp)
   ·rw [if_neg c2] at H
    have c2b0 : decide (x3_1 < (l0.length : Int)) = false := decide_eq_false c2
    clear c2
    obtain rfl := Option.some.inj H
    go_wp2
    repeat (go_quiet (fail); try go_wp2)
    go_ret
    exact ⟨sv_, dr_⟩
/-! ### impl_ValidScale: function 114 -/
def impl_ValidScale.f (k : Nat) (l0 : List Int) : Option (Bool) := if (l0.length : Int) ≥ 5 then (if 0 < (l0.length : Int) then (if (rd l0 0) = 0 then ((impl_increasing.f k l0).bind fun t246 => (if t246 = true then (if 0 ≤ (wrap64 ((l0.length : Int) - 1)) then (if (wrap64 ((l0.length : Int) - 1)) < (l0.length : Int) then (some (decide ((rd l0 (wrap64 ((l0.length : Int) - 1))) < 12))) else (none)) else (none)) else (some false))) else (some false)) else (none)) else (some false)
set_option maxHeartbeats 8000000 in
set_option maxRecDepth 100000 in
theorem impl_ValidScale.calls (k : Nat) (A0 : Option Addr) (c0 : Nat) (l0 : List Int) (r : Bool) (w : World) (hr0 : Kd.C (Kd.int .i64) w A0 l0.length l0) (hc0 : l0.length ≤ c0) (h : impl_ValidScale.f k l0 = some r) :
  Calls Try.prog 114 #[.slice A0 l0.length c0] w fun e w' => e = .returned (.bool r) ∧ Drawn0 w w' := by
 have HR0 := Aside0.mk hr0
 have HC0 := Aside0.mk hc0
 clear hr0 hc0
 have H : (if (l0.length : Int) ≥ 5 then (if 0 < (l0.length : Int) then (if (rd l0 0) = 0 then ((impl_increasing.f k l0).bind fun t246 => (if t246 = true then (if 0 ≤ (wrap64 ((l0.length : Int) - 1)) then (if (wrap64 ((l0.length : Int) - 1)) < (l0.length : Int) then (some (decide ((rd l0 (wrap64 ((l0.length : Int) - 1))) < 12))) else (none)) else (none)) else (some false))) else (some false)) else (none)) else (some false)) = some r := h
 clear h
 by_cases c2 : (l0.length : Int) ≥ 5
 ·rw [if_pos c2] at H
  have c2b0 : decide (5 ≤ (l0.length : Int)) = true := decide_eq_true c2
  have c2b1 : decide (5 ≤ l0.length) = true := decide_eq_true (by omega)
  clear c2
  by_cases c3 : 0 < (l0.length : Int)
  ·rw [if_pos c3] at H
   have c3b0 : decide (0 < (l0.length : Int)) = true := decide_eq_true c3
   have c3b1 : decide (0 < l0.length) = true := decide_eq_true (by omega)
   clear c3
   by_cases c4 : (rd l0 0) = 0
   ·rw [if_pos c4] at H
    have c4b0 : ((rd l0 0) == 0) = true := beq_iff_eq.mpr c4
    have c4b1 : ((rd l0 0) != 0) = false := bne_eq_false_iff_eq.mpr c4
    clear c4
    replace H := Option.bind_eq_some_iff.mp H
    obtain ⟨t246, A50, H⟩ := H
    replace H : (if t246 = true then (if 0 ≤ (wrap64 ((l0.length : Int) - 1)) then (if (wrap64 ((l0.length : Int) - 1)) < (l0.length : Int) then (some (decide ((rd l0 (wrap64 ((l0.length : Int) - 1))) < 12))) else (none)) else (none)) else (some false)) = some r := H
    have A5 := Aside0.mk A50
    clear A50
    by_cases c6 : t246 = true
    ·subst c6
     have H1 : (if 0 ≤ (wrap64 ((l0.length : Int) - 1)) then (if (wrap64 ((l0.length : Int) - 1)) < (l0.length : Int) then (some (decide ((rd l0 (wrap64 ((l0.length : Int) - 1))) < 12))) else (none)) else (none)) = some r := by rw [if_pos rfl] at H; exact H
     clear H
     have H := H1
     clear H1
     obtain ⟨ji7, hji7⟩ : ∃ j_ : Int, (wrap64 ((l0.length : Int) - 1)) = j_ := ⟨_, rfl⟩
     replace H : (if 0 ≤ (ji7) then (if (ji7) < (l0.length : Int) then (some (decide ((rd l0 (ji7)) < 12))) else (none)) else (none)) = some r := by first | (rw [hji7] at H; exact H) | (simp only [hji7] at H ⊢; exact H)
     (try rw [hji7] at A5)
     have hji7w : (IntKind.i64.wrap ((l0.length : Int) - 1)) = ji7 := (i64_w _).trans hji7
     by_cases c8 : 0 ≤ (ji7)
     ·rw [if_pos c8] at H
      have c8b0 : decide (0 ≤ (ji7)) = true := decide_eq_true c8
      clear c8
      by_cases c9 : (ji7) < (l0.length : Int)
      ·rw [if_pos c9] at H
       have c9b0 : decide ((ji7) < (l0.length : Int)) = true := decide_eq_true c9
       clear c9
       obtain rfl := Option.some.inj H
       have p245 : 0 ≤ (0 : Int) := (by omega)
       have q245 : 0 < (l0.length : Int) := da_
       obtain ⟨ad245, e245, hx245_0⟩ := Kd.at_int HR0.out 0 p245 q245
       cases e245
       have qi245 : (0 < l0.length) = True := eq_true (by omega)
       (try rw [show ((0 : Int)).toNat = 0 from rfl] at hx245_0)
       (try rw [Addr.add_zero'] at hx245_0)
       replace p245 := eq_true p245
       replace q245 := eq_true q245
       go_enter Try.func114, Try.ntmps114
       go_wp2_with (first | (go_at_call 145; (with_reducible refine (impl_increasing.calls k _ _ l0 true _ ?side1 ?side2 A5.out).mono ?_); (case side1 => exact cr_ HR0.out); (case side2 => exact HC0.out); rintro e w' ⟨rfl, ⟨nd, rfl⟩⟩; have p247 : 0 ≤ ((ji7) : Int) := da_; have q247 : (ji7) < (l0.length : Int) := da_; obtain ⟨ad247, e247, hx247_0⟩ := Kd.at_int HR0.out (ji7) p247 q247; obtain rfl : ad245 = ad247 := (by injection e247); replace p247 := eq_true p247; replace q247 := eq_true q247))
       go_ret
       exact ⟨by first | rfl | (simp; done) | (simp only [← hji7] <;> (first | rfl | simp)) | (simp [*]; done), dr_⟩
      ·rw [if_neg c9] at H
       exact absurd H (by simp)
     ·rw [if_neg c8] at H
      exact absurd H (by simp)
    ·replace c6 := Bool.eq_false_iff.mpr c6
     subst c6
     have H1 : (some false) = some r := by rw [if_neg (show ¬ (false = true) by decide)] at H; exact H
     clear H
     have H := H1
     clear H1
     obtain rfl := Option.some.inj H
     have p245 : 0 ≤ (0 : Int) := (by omega)
     have q245 : 0 < (l0.length : Int) := da_
     obtain ⟨ad245, e245, hx245_0⟩ := Kd.at_int HR0.out 0 p245 q245
     cases e245
     have qi245 : (0 < l0.length) = True := eq_true (by omega)
     (try rw [show ((0 : Int)).toNat = 0 from rfl] at hx245_0)
     (try rw [Addr.add_zero'] at hx245_0)
     replace p245 := eq_true p245
     replace q245 := eq_true q245
     go_enter Try.func114, Try.ntmps114
     go_wp2_with (first | (go_at_call 145; (with_reducible refine (impl_increasing.calls k _ _ l0 false _ ?side1 ?side2 A5.out).mono ?_); (case side1 => exact cr_ HR0.out); (case side2 => exact HC0.out); rintro e w' ⟨rfl, ⟨nd, rfl⟩⟩))
     go_ret
     exact ⟨sv_, dr_⟩
   ·rw [if_neg c4] at H
    have c4b0 : ((rd l0 0) == 0) = false := beq_eq_false_iff_ne.mpr c4
    have c4b1 : ((rd l0 0) != 0) = true := bne_iff_ne.mpr c4
    obtain rfl := Option.some.inj H
    have p245 : 0 ≤ (0 : Int) := (by omega)
    have q245 : 0 < (l0.length : Int) := da_
    obtain ⟨ad245, e245, hx245_0⟩ := Kd.at_int HR0.out 0 p245 q245
    cases e245
    have qi245 : (0 < l0.length) = True := eq_true (by omega)
    (try rw [show ((0 : Int)).toNat = 0 from rfl] at hx245_0)
    (try rw [Addr.add_zero'] at hx245_0)
    replace p245 := eq_true p245
    replace q245 := eq_true q245
    go_enter Try.func114, Try.ntmps114
    go_wp2
    go_ret
    exact ⟨sv_, dr_⟩
  ·rw [if_neg c3] at H
   exact absurd H (by simp)
 ·rw [if_neg c2] at H
  have c2b0 : decide (5 ≤ (l0.length : Int)) = false := decide_eq_false c2
  have c2b1 : decide (5 ≤ l0.length) = false := decide_eq_false (by omega)
  clear c2
  obtain rfl := Option.some.inj H
  go_enter Try.func114, Try.ntmps114
  go_wp2
  go_ret
  exact ⟨sv_, dr_⟩
/-! ### cmp_isNaN_int64: function 124 -/
def cmp_isNaN_int64.f (a0 : Int) : Option (Bool) := some (a0 != a0)
set_option maxHeartbeats 8000000 in
set_option maxRecDepth 100000 in
theorem cmp_isNaN_int64.calls (a0 : Int) (r : Bool) (w : World) (h : cmp_isNaN_int64.f a0 = some r) :
  Calls Try.prog 124 #[.int .i64 a0] w fun e w' => e = .returned (.bool r) ∧ Drawn0 w w' := by
 have H : (some (a0 != a0)) = some r := h
 clear h
 obtain rfl := Option.some.inj H
 go_enter Try.func124, Try.ntmps124
 go_wp2
 go_ret
 exact ⟨sv_, dr_⟩
/-! ### cmp_Compare_int64: function 81 -/
def cmp_Compare_int64.f (a0 : Int) (a1 : Int) : Option (Int) := (cmp_isNaN_int64.f a0).bind fun t249 => ((cmp_isNaN_int64.f a1).bind fun t250 => (if t249 = true then (if t250 = true then (some 0) else (some (-1))) else (if t250 = true then (some 1) else (if a0 < a1 then (some (-1)) else (if a0 > a1 then (some 1) else (some 0))))))
set_option maxHeartbeats 8000000 in
set_option maxRecDepth 100000 in
theorem cmp_Compare_int64.calls (a0 : Int) (a1 : Int) (r : Int) (w : World) (h : cmp_Compare_int64.f a0 a1 = some r) :
  Calls Try.prog 81 #[.int .i64 a0, .int .i64 a1] w fun e w' => e = .returned (.int .i64 r) ∧ Drawn0 w w' := by
 have H : ((cmp_isNaN_int64.f a0).bind fun t249 => ((cmp_isNaN_int64.f a1).bind fun t250 => (if t249 = true then (if t250 = true then (some 0) else (some (-1))) else (if t250 = true then (some 1) else (if a0 < a1 then (some (-1)) else (if a0 > a1 then (some 1) else (some 0))))))) = some r := h
 clear h
 replace H := Option.bind_eq_some_iff.mp H
 obtain ⟨t249, A30, H⟩ := H
 replace H : ((cmp_isNaN_int64.f a1).bind fun t250 => (if t249 = true then (if t250 = true then (some 0) else (some (-1))) else (if t250 = true then (some 1) else (if a0 < a1 then (some (-1)) else (if a0 > a1 then (some 1) else (some 0)))))) = some r := H
 have A3 := Aside0.mk A30
 clear A30
 replace H := Option.bind_eq_some_iff.mp H
 obtain ⟨t250, A40, H⟩ := H
 replace H : (if t249 = true then (if t250 = true then (some 0) else (some (-1))) else (if t250 = true then (some 1) else (if a0 < a1 then (some (-1)) else (if a0 > a1 then (some 1) else (some 0))))) = some r := H
 have A4 := Aside0.mk A40
 clear A40
 by_cases c5 : t249 = true
 ·subst c5
  have H1 : (if t250 = true then (some 0) else (some (-1))) = some r := by rw [if_pos rfl] at H; exact H
  clear H
  have H := H1
  clear H1
  by_cases c6 : t250 = true
  ·subst c6
   have H1 : (some 0) = some r := by rw [if_pos rfl] at H; exact H
   clear H
   have H := H1
   clear H1
   obtain rfl := Option.some.inj H
   go_enter Try.func81, Try.ntmps81
   go_wp2_with (first | ((with_reducible refine gate_callee (f := 124) rfl ?_); refine goesL_ (some 8) rfl rfl Try.func124 (by kernel_rfl) rfl #[.int .i64 a0] rfl av_ ?_; (with_reducible refine (cmp_isNaN_int64.calls a0 true _ A3.out).mono ?_); rintro e w' ⟨rfl, ⟨nd, rfl⟩⟩; refine ⟨_, rfl, ?_⟩) | ((with_reducible refine gate_callee (f := 124) rfl ?_); refine goesL_ (some 10) rfl rfl Try.func124 (by kernel_rfl) rfl #[.int .i64 a1] rfl av_ ?_; (with_reducible refine (cmp_isNaN_int64.calls a1 true _ A4.out).mono ?_); rintro e w' ⟨rfl, ⟨nd, rfl⟩⟩; refine ⟨_, rfl, ?_⟩))
   go_ret
   exact ⟨sv_, dr_⟩
  ·replace c6 := Bool.eq_false_iff.mpr c6
   subst c6
   have H1 : (some (-1)) = some r := by rw [if_neg (show ¬ (false = true) by decide)] at H; exact H
   clear H
   have H := H1
   clear H1
   obtain rfl := Option.some.inj H
   go_enter Try.func81, Try.ntmps81
   go_wp2_with (first | ((with_reducible refine gate_callee (f := 124) rfl ?_); refine goesL_ (some 8) rfl rfl Try.func124 (by kernel_rfl) rfl #[.int .i64 a0] rfl av_ ?_; (with_reducible refine (cmp_isNaN_int64.calls a0 true _ A3.out).mono ?_); rintro e w' ⟨rfl, ⟨nd, rfl⟩⟩; refine ⟨_, rfl, ?_⟩) | ((with_reducible refine gate_callee (f := 124) rfl ?_); refine goesL_ (some 10) rfl rfl Try.func124 (by kernel_rfl) rfl #[.int .i64 a1] rfl av_ ?_; (with_reducible refine (cmp_isNaN_int64.calls a1 false _ A4.out).mono ?_); rintro e w' ⟨rfl, ⟨nd, rfl⟩⟩; refine ⟨_, rfl, ?_⟩))
   go_ret
   exact ⟨sv_, dr_⟩
 ·replace c5 := Bool.eq_false_iff.mpr c5
  subst c5
  have H1 : (if t250 = true then (some 1) else (if a0 < a1 then (some (-1)) else (if a0 > a1 then (some 1) else (some 0)))) = some r := by rw [if_neg (show ¬ (false = true) by decide)] at H; exact H
  clear H
  have H := H1
  clear H1
  by_cases c7 : t250 = true
  ·subst c7
   have H1 : (some 1) = some r := by rw [if_pos rfl] at H; exact H
   clear H
   have H := H1
   clear H1
   obtain rfl := Option.some.inj H
   go_enter Try.func81, Try.ntmps81
   go_wp2_with (first | ((with_reducible refine gate_callee (f := 124) rfl ?_); refine goesL_ (some 8) rfl rfl Try.func124 (by kernel_rfl) rfl #[.int .i64 a0] rfl av_ ?_; (with_reducible refine (cmp_isNaN_int64.calls a0 false _ A3.out).mono ?_); rintro e w' ⟨rfl, ⟨nd, rfl⟩⟩; refine ⟨_, rfl, ?_⟩) | ((with_reducible refine gate_callee (f := 124) rfl ?_); refine goesL_ (some 10) rfl rfl Try.func124 (by kernel_rfl) rfl #[.int .i64 a1] rfl av_ ?_; (with_reducible refine (cmp_isNaN_int64.calls a1 true _ A4.out).mono ?_); rintro e w' ⟨rfl, ⟨nd, rfl⟩⟩; refine ⟨_, rfl, ?_⟩))
   go_ret
   exact ⟨sv_, dr_⟩
  ·replace c7 := Bool.eq_false_iff.mpr c7
   subst c7
   have H1 : (if a0 < a1 then (some (-1)) else (if a0 > a1 then (some 1) else (some 0))) = some r := by rw [if_neg (show ¬ (false = true) by decide)] at H; exact H
   clear H
   have H := H1
   clear H1
   by_cases c8 : a0 < a1
   ·rw [if_pos c8] at H
    have c8b0 : decide (a0 < a1) = true := decide_eq_true c8
    clear c8
    obtain rfl := Option.some.inj H
    go_enter Try.func81, Try.ntmps81
    go_wp2_with (first | ((with_reducible refine gate_callee (f := 124) rfl ?_); refine goesL_ (some 8) rfl rfl Try.func124 (by kernel_rfl) rfl #[.int .i64 a0] rfl av_ ?_; (with_reducible refine (cmp_isNaN_int64.calls a0 false _ A3.out).mono ?_); rintro e w' ⟨rfl, ⟨nd, rfl⟩⟩; refine ⟨_, rfl, ?_⟩) | ((with_reducible refine gate_callee (f := 124) rfl ?_); refine goesL_ (some 10) rfl rfl Try.func124 (by kernel_rfl) rfl #[.int .i64 a1] rfl av_ ?_; (with_reducible refine (cmp_isNaN_int64.calls a1 false _ A4.out).mono ?_); rintro e w' ⟨rfl, ⟨nd, rfl⟩⟩; refine ⟨_, rfl, ?_⟩))
    go_ret
    exact ⟨sv_, dr_⟩
   ·rw [if_neg c8] at H
    have c8b0 : decide (a0 < a1) = false := decide_eq_false c8
    clear c8
    by_cases c9 : a0 > a1
    ·rw [if_pos c9] at H
     have c9b0 : decide (a1 < a0) = true := decide_eq_true c9
     clear c9
     obtain rfl := Option.some.inj H
     go_enter Try.func81, Try.ntmps81
     go_wp2_with (first | ((with_reducible refine gate_callee (f := 124) rfl ?_); refine goesL_ (some 8) rfl rfl Try.func124 (by kernel_rfl) rfl #[.int .i64 a0] rfl av_ ?_; (with_reducible refine (cmp_isNaN_int64.calls a0 false _ A3.out).mono ?_); rintro e w' ⟨rfl, ⟨nd, rfl⟩⟩; refine ⟨_, rfl, ?_⟩) | ((with_reducible refine gate_callee (f := 124) rfl ?_); refine goesL_ (some 10) rfl rfl Try.func124 (by kernel_rfl) rfl #[.int .i64 a1] rfl av_ ?_; (with_reducible refine (cmp_isNaN_int64.calls a1 false _ A4.out).mono ?_); rintro e w' ⟨rfl, ⟨nd, rfl⟩⟩; refine ⟨_, rfl, ?_⟩))
     go_ret
     exact ⟨sv_, dr_⟩
    ·rw [if_neg c9] at H
     have c9b0 : decide (a1 < a0) = false := decide_eq_false c9
     clear c9
     obtain rfl := Option.some.inj H
     go_enter Try.func81, Try.ntmps81
     go_wp2_with (first | ((with_reducible refine gate_callee (f := 124) rfl ?_); refine goesL_ (some 8) rfl rfl Try.func124 (by kernel_rfl) rfl #[.int .i64 a0] rfl av_ ?_; (with_reducible refine (cmp_isNaN_int64.calls a0 false _ A3.out).mono ?_); rintro e w' ⟨rfl, ⟨nd, rfl⟩⟩; refine ⟨_, rfl, ?_⟩) | ((with_reducible refine gate_callee (f := 124) rfl ?_); refine goesL_ (some 10) rfl rfl Try.func124 (by kernel_rfl) rfl #[.int .i64 a1] rfl av_ ?_; (with_reducible refine (cmp_isNaN_int64.calls a1 false _ A4.out).mono ?_); rintro e w' ⟨rfl, ⟨nd, rfl⟩⟩; refine ⟨_, rfl, ?_⟩))
     go_ret
     exact ⟨sv_, dr_⟩
/-! ### slices_Compare_int64_int64: function 116 -/
def slices_Compare_int64_int64.l0 : Nat → List Int → List Int → List Int → Int → Int → Option (Int)
 | 0, _, _, _, _, _ => none
 | k + 1, x0, x1, x9, x10, x11 => if x11 < x10 then (if 0 ≤ x11 then (if x11 < (x9.length : Int) then (if x11 ≥ (x1.length : Int) then (some 1) else (if x11 < (x1.length : Int) then ((cmp_Compare_int64.f (rd x9 x11) (rd x1 x11)).bind fun t253 => (if t253 = 0 then (slices_Compare_int64_int64.l0 k x0 x1 x9 x10 (wrap64 (x11 + 1))) else (some t253))) else (none))) else (none)) else (none)) else (if (x0.length : Int) < (x1.length : Int) then (some (-1)) else (some 0))
def slices_Compare_int64_int64.f (k : Nat) (l0 : List Int) (l1 : List Int) : Option (Int) := slices_Compare_int64_int64.l0 k l0 l1 l0 (l0.length : Int) 0
set_option maxHeartbeats 8000000 in
set_option maxRecDepth 100000 in
theorem slices_Compare_int64_int64.calls (k : Nat) (A0 : Option Addr) (c0 : Nat) (l0 : List Int) (A1 : Option Addr) (c1 : Nat) (l1 : List Int) (r : Int) (w : World) (hr0 : Kd.C (Kd.int .i64) w A0 l0.length l0) (hc0 : l0.length ≤ c0) (hr1 : Kd.C (Kd.int .i64) w A1 l1.length l1) (hc1 : l1.length ≤ c1) (h : slices_Compare_int64_int64.f k l0 l1 = some r) :
  Calls Try.prog 116 #[.slice A0 l0.length c0, .slice A1 l1.length c1] w fun e w' => e = .returned (.int .i64 r) ∧ Drawn0 w w' := by
 have HR0 := Aside0.mk hr0
 have HC0 := Aside0.mk hc0
 clear hr0 hc0
 have HR1 := Aside0.mk hr1
 have HC1 := Aside0.mk hc1
 clear hr1 hc1
 have H : (slices_Compare_int64_int64.l0 k l0 l1 l0 (l0.length : Int) 0) = some r := h
 clear h
 have H' := Aside0.mk H
 clear H
 go_enter Try.func116, Try.ntmps116
 go_wp2
 go_loopg [11] k (fun kq v11 w' => ∃ (x11_1 : Int), v11 = .int .i64 x11_1 ∧ Aside0 (slices_Compare_int64_int64.l0 kq l0 l1 l0 (l0.length : Int) x11_1 = some r) ∧ Aside0 (kq ≤ k) ∧ Drawn0 w w')
 case atStart => exact ⟨(0), sv_, H', ⟨Nat.le_refl _⟩, dr_⟩
 case round =>
  clear H'
  (try clear c1); (try clear p2)
  obtain ⟨x11_1, rfl, HA, HK1, ⟨m1, rfl⟩⟩ := hrel
  cases gk with
  | zero => exact absurd HA.out (by simp [slices_Compare_int64_int64.l0])
  | succ k1 =>
   have H := HA.out
   clear HA
   simp only [slices_Compare_int64_int64.l0] at H
   by_cases c3 : x11_1 < (l0.length : Int)
   ·rw [if_pos c3] at H
    have c3b0 : decide (x11_1 < (l0.length : Int)) = true := decide_eq_true c3
    clear c3
    by_cases c4 : 0 ≤ x11_1
    ·rw [if_pos c4] at H
     have c4b0 : decide (0 ≤ x11_1) = true := decide_eq_true c4
     clear c4
     by_cases c5 : x11_1 < (l0.length : Int)
     ·rw [if_pos c5] at H
      have c5b0 : decide (x11_1 < (l0.length : Int)) = true := decide_eq_true c5
      clear c5
      by_cases c6 : x11_1 ≥ (l1.length : Int)
      ·rw [if_pos c6] at H
       have c6b0 : decide ((l1.length : Int) ≤ x11_1) = true := decide_eq_true c6
       clear c6
       obtain rfl := Option.some.inj H
       have p251 : 0 ≤ (x11_1 : Int) := da_
       have q251 : x11_1 < (l0.length : Int) := da_
       obtain ⟨ad251, e251, hx251_0⟩ := Kd.at_int HR0.out x11_1 p251 q251
       cases e251
       replace p251 := eq_true p251
       replace q251 := eq_true q251
       go_wp2
       go_ret
       exact ⟨sv_, dr_⟩
      ·rw [if_neg c6] at H
       have c6b0 : decide ((l1.length : Int) ≤ x11_1) = false := decide_eq_false c6
       clear c6
       by_cases c7 : x11_1 < (l1.length : Int)
       ·rw [if_pos c7] at H
        have c7b0 : decide (x11_1 < (l1.length : Int)) = true := decide_eq_true c7
        clear c7
        replace H := Option.bind_eq_some_iff.mp H
        obtain ⟨t253, A80, H⟩ := H
        replace H : (if t253 = 0 then (slices_Compare_int64_int64.l0 k1 l0 l1 l0 (l0.length : Int) (wrap64 (x11_1 + 1))) else (some t253)) = some r := H
        have A8 := Aside0.mk A80
        clear A80
        by_cases c9 : t253 = 0
        ·rw [if_pos c9] at H
         have c9b0 : (t253 == 0) = true := beq_iff_eq.mpr c9
         have c9b1 : (t253 != 0) = false := bne_eq_false_iff_eq.mpr c9
         clear c9
         have H' := Aside0.mk H
         clear H
         have p251 : 0 ≤ (x11_1 : Int) := da_
         have q251 : x11_1 < (l0.length : Int) := da_
         obtain ⟨ad251, e251, hx251_0⟩ := Kd.at_int HR0.out x11_1 p251 q251
         cases e251
         replace p251 := eq_true p251
         replace q251 := eq_true q251
         have p252 : 0 ≤ (x11_1 : Int) := da_
         have q252 : x11_1 < (l1.length : Int) := da_
         obtain ⟨ad252, e252, hx252_0⟩ := Kd.at_int HR1.out x11_1 p252 q252
         cases e252
         replace p252 := eq_true p252
         replace q252 := eq_true q252
         go_wp2_with (first | ((with_reducible refine gate_callee (f := 81) rfl ?_); refine goesL_ (some 26) rfl rfl Try.func81 (by kernel_rfl) rfl #[.int .i64 (rd l0 x11_1), .int .i64 (rd l1 x11_1)] rfl av_ ?_; (with_reducible refine (cmp_Compare_int64.calls (rd l0 x11_1) (rd l1 x11_1) t253 _ A8.out).mono ?_); rintro e w' ⟨rfl, ⟨nd, rfl⟩⟩; refine ⟨_, rfl, ?_⟩))
         go_roundg k1
         case measure => have := HK1.out; omega
         case rel => exact ⟨(wrap64 (x11_1 + 1)), sv_, H', ⟨by have := HK1.out; omega⟩, dr_⟩
        ·rw [if_neg c9] at H
         have c9b0 : (t253 == 0) = false := beq_eq_false_iff_ne.mpr c9
         have c9b1 : (t253 != 0) = true := bne_iff_ne.mpr c9
         obtain rfl := Option.some.inj H
         have p251 : 0 ≤ (x11_1 : Int) := da_
         have q251 : x11_1 < (l0.length : Int) := da_
         obtain ⟨ad251, e251, hx251_0⟩ := Kd.at_int HR0.out x11_1 p251 q251
         cases e251
         replace p251 := eq_true p251
         replace q251 := eq_true q251
         have p252 : 0 ≤ (x11_1 : Int) := da_
         have q252 : x11_1 < (l1.length : Int) := da_
         obtain ⟨ad252, e252, hx252_0⟩ := Kd.at_int HR1.out x11_1 p252 q252
         cases e252
         replace p252 := eq_true p252
         replace q252 := eq_true q252
         go_wp2_with (first | ((with_reducible refine gate_callee (f := 81) rfl ?_); refine goesL_ (some 26) rfl rfl Try.func81 (by kernel_rfl) rfl #[.int .i64 (rd l0 x11_1), .int .i64 (rd l1 x11_1)] rfl av_ ?_; (with_reducible refine (cmp_Compare_int64.calls (rd l0 x11_1) (rd l1 x11_1) t253 _ A8.out).mono ?_); rintro e w' ⟨rfl, ⟨nd, rfl⟩⟩; refine ⟨_, rfl, ?_⟩))
         go_ret
         exact ⟨sv_, dr_⟩
       ·rw [if_neg c7] at H
        exact absurd H (by simp)
     ·rw [if_neg c5] at H
      exact absurd H (by simp)
    ·rw [if_neg c4] at H
     exact absurd H (by simp)
   ·rw [if_neg c3] at H
    have c3b0 : decide (x11_1 < (l0.length : Int)) = false := decide_eq_false c3
    clear c3
    by_cases c10 : (l0.length : Int) < (l1.length : Int)
    ·rw [if_pos c10] at H
     have c10b0 : decide ((l0.length : Int) < (l1.length : Int)) = true := decide_eq_true c10
     have c10b1 : decide (l0.length < l1.length) = true := decide_eq_true (Int.ofNat_lt.mp c10)
     clear c10
     obtain rfl := Option.some.inj H
     go_wp2
     go_ret
     exact ⟨sv_, dr_⟩
    ·rw [if_neg c10] at H
     have c10b0 : decide ((l0.length : Int) < (l1.length : Int)) = false := decide_eq_false c10
     have c10b1 : decide (l0.length < l1.length) = false := decide_eq_false (fun h => c10 (Int.ofNat_lt.mpr h))
     clear c10
     obtain rfl := Option.some.inj H
     go_wp2
     go_ret
     exact ⟨sv_, dr_⟩
/-! ### impl_ValidRaga: function 62 -/
def impl_ValidRaga.K0 : Array Bool := #[n_,n_,n_,n_,n_,n_,n_,n_,n_,n_,n_,n_,n_,n_,n_,n_,n_,n_,n_,n_,n_,n_,n_,n_,n_,n_,n_,n_,n_,n_,n_,n_,n_,n_,n_,n_,n_,n_,n_,n_,n_]
def impl_ValidRaga.K1 : Array Bool := #[y_,n_,n_,n_,n_,n_,n_,n_,n_,n_,n_,n_,n_,n_,n_,n_,n_,n_,n_,n_,n_,n_,n_,n_,n_,n_,n_,n_,n_,n_,n_,n_,n_,n_,n_,n_,n_,n_,n_,n_,n_]
def impl_ValidRaga.K2 : Array Bool := #[y_,y_,n_,n_,n_,n_,n_,n_,n_,n_,n_,n_,n_,n_,n_,n_,n_,n_,n_,n_,n_,n_,n_,n_,n_,n_,n_,n_,n_,n_,n_,n_,n_,n_,n_,n_,n_,n_,n_,n_,n_]
def impl_ValidRaga.K3 : Array Bool := #[y_,y_,y_,n_,n_,n_,n_,n_,n_,n_,n_,n_,n_,n_,n_,n_,n_,n_,n_,n_,n_,n_,n_,n_,n_,n_,n_,n_,n_,n_,n_,n_,n_,n_,n_,n_,n_,n_,n_,n_,n_]
def impl_ValidRaga.K4 : Array Bool := #[y_,y_,y_,y_,n_,n_,n_,n_,n_,n_,n_,n_,n_,n_,n_,n_,n_,n_,n_,n_,n_,n_,n_,n_,n_,n_,n_,n_,n_,n_,n_,n_,n_,n_,n_,n_,n_,n_,n_,n_,n_]
def impl_ValidRaga.K5 : Array Bool := #[y_,y_,y_,y_,y_,n_,n_,n_,n_,n_,n_,n_,n_,n_,n_,n_,n_,n_,n_,n_,n_,n_,n_,n_,n_,n_,n_,n_,n_,n_,n_,n_,n_,n_,n_,n_,n_,n_,n_,n_,n_]
def impl_ValidRaga.K6 : Array Bool := #[y_,y_,y_,y_,y_,y_,n_,n_,n_,n_,n_,n_,n_,n_,n_,n_,n_,n_,n_,n_,n_,n_,n_,n_,n_,n_,n_,n_,n_,n_,n_,n_,n_,n_,n_,n_,n_,n_,n_,n_,n_]
def impl_ValidRaga.K7 : Array Bool := #[y_,y_,y_,y_,y_,y_,y_,n_,n_,n_,n_,n_,n_,n_,n_,n_,n_,n_,n_,n_,n_,n_,n_,n_,n_,n_,n_,n_,n_,n_,n_,n_,n_,n_,n_,n_,n_,n_,n_,n_,n_]
def impl_ValidRaga.K8 : Array Bool := #[y_,y_,y_,y_,y_,y_,y_,y_,n_,n_,n_,n_,n_,n_,n_,n_,n_,n_,n_,n_,n_,n_,n_,n_,n_,n_,n_,n_,n_,n_,n_,n_,n_,n_,n_,n_,n_,n_,n_,n_,n_]
def impl_ValidRaga.K9 : Array Bool := #[y_,y_,y_,y_,y_,y_,y_,y_,y_,n_,n_,n_,n_,n_,n_,n_,n_,n_,n_,n_,n_,n_,n_,n_,n_,n_,n_,n_,n_,n_,n_,n_,n_,n_,n_,n_,n_,n_,n_,n_,n_]
def impl_ValidRaga.K10 : Array Bool := #[y_,y_,y_,y_,y_,y_,y_,y_,y_,y_,n_,n_,n_,n_,n_,n_,n_,n_,n_,n_,n_,n_,n_,n_,n_,n_,n_,n_,n_,n_,n_,n_,n_,n_,n_,n_,n_,n_,n_,n_,n_]
def impl_ValidRaga.K11 : Array Bool := #[y_,y_,y_,y_,y_,y_,y_,y_,y_,y_,y_,n_,n_,n_,n_,n_,n_,n_,n_,n_,n_,n_,n_,n_,n_,n_,n_,n_,n_,n_,n_,n_,n_,n_,n_,n_,n_,n_,n_,n_,n_]
def impl_ValidRaga.K12 : Array Bool := #[y_,y_,y_,y_,y_,y_,y_,y_,y_,y_,y_,y_,n_,n_,n_,n_,n_,n_,n_,n_,n_,n_,n_,n_,n_,n_,n_,n_,n_,n_,n_,n_,n_,n_,n_,n_,n_,n_,n_,n_,n_]
def impl_ValidRaga.K13 : Array Bool := #[y_,y_,y_,y_,y_,y_,y_,y_,y_,y_,y_,y_,y_,n_,n_,n_,n_,n_,n_,n_,n_,n_,n_,n_,n_,n_,n_,n_,n_,n_,n_,n_,n_,n_,n_,n_,n_,n_,n_,n_,n_]
def impl_ValidRaga.K14 : Array Bool := #[y_,y_,y_,y_,y_,y_,y_,y_,y_,y_,y_,y_,y_,y_,n_,n_,n_,n_,n_,n_,n_,n_,n_,n_,n_,n_,n_,n_,n_,n_,n_,n_,n_,n_,n_,n_,n_,n_,n_,n_,n_]
def impl_ValidRaga.K15 : Array Bool := #[y_,y_,y_,y_,y_,y_,y_,y_,y_,y_,y_,y_,y_,y_,y_,n_,n_,n_,n_,n_,n_,n_,n_,n_,n_,n_,n_,n_,n_,n_,n_,n_,n_,n_,n_,n_,n_,n_,n_,n_,n_]
def impl_ValidRaga.K16 : Array Bool := #[y_,y_,y_,y_,y_,y_,y_,y_,y_,y_,y_,y_,y_,y_,y_,y_,n_,n_,n_,n_,n_,n_,n_,n_,n_,n_,n_,n_,n_,n_,n_,n_,n_,n_,n_,n_,n_,n_,n_,n_,n_]
def impl_ValidRaga.K17 : Array Bool := #[y_,y_,y_,y_,y_,y_,y_,y_,y_,y_,y_,y_,y_,y_,y_,y_,y_,n_,n_,n_,n_,n_,n_,n_,n_,n_,n_,n_,n_,n_,n_,n_,n_,n_,n_,n_,n_,n_,n_,n_,n_]
def impl_ValidRaga.K18 : Array Bool := #[y_,y_,y_,y_,y_,y_,y_,y_,y_,y_,y_,y_,y_,y_,y_,y_,y_,y_,n_,n_,n_,n_,n_,n_,n_,n_,n_,n_,n_,n_,n_,n_,n_,n_,n_,n_,n_,n_,n_,n_,n_]
def impl_ValidRaga.K19 : Array Bool := #[y_,y_,y_,y_,y_,y_,y_,y_,y_,y_,y_,y_,y_,y_,y_,y_,y_,y_,y_,n_,n_,n_,n_,n_,n_,n_,n_,n_,n_,n_,n_,n_,n_,n_,n_,n_,n_,n_,n_,n_,n_]
def impl_ValidRaga.K20 : Array Bool := #[y_,y_,y_,y_,y_,y_,y_,y_,y_,y_,y_,y_,y_,y_,y_,y_,y_,y_,y_,y_,n_,n_,n_,n_,n_,n_,n_,n_,n_,n_,n_,n_,n_,n_,n_,n_,n_,n_,n_,n_,n_]
def impl_ValidRaga.K21 : Array Bool := #[y_,y_,y_,y_,y_,y_,y_,y_,y_,y_,y_,y_,y_,y_,y_,y_,y_,y_,y_,y_,n_,y_,n_,n_,n_,n_,n_,n_,n_,n_,n_,n_,n_,n_,n_,n_,n_,n_,n_,n_,n_]
def impl_ValidRaga.K22 : Array Bool := #[y_,y_,y_,y_,y_,y_,y_,y_,y_,y_,y_,y_,y_,y_,y_,y_,y_,y_,y_,y_,n_,y_,y_,n_,n_,n_,n_,n_,n_,n_,n_,n_,n_,n_,n_,n_,n_,n_,n_,n_,n_]
def impl_ValidRaga.K23 : Array Bool := #[y_,y_,y_,y_,y_,y_,y_,y_,y_,y_,y_,y_,y_,y_,y_,y_,y_,y_,y_,y_,y_,y_,y_,n_,n_,n_,n_,n_,n_,n_,n_,n_,n_,n_,n_,n_,n_,n_,n_,n_,n_]
def impl_ValidRaga.K24 : Array Bool := #[y_,y_,y_,y_,y_,y_,y_,y_,y_,y_,y_,y_,y_,y_,y_,y_,y_,y_,y_,y_,y_,y_,y_,y_,n_,n_,n_,n_,n_,n_,n_,n_,n_,n_,n_,n_,n_,n_,n_,n_,n_]
def impl_ValidRaga.K25 : Array Bool := #[y_,y_,y_,y_,y_,y_,y_,y_,y_,y_,y_,y_,y_,y_,y_,y_,y_,y_,y_,y_,y_,y_,y_,y_,y_,n_,n_,n_,n_,n_,n_,n_,n_,n_,n_,n_,n_,n_,n_,n_,n_]
def impl_ValidRaga.K26 : Array Bool := #[y_,y_,y_,y_,y_,y_,y_,y_,y_,y_,y_,y_,y_,y_,y_,y_,y_,y_,y_,y_,y_,y_,y_,y_,y_,y_,n_,n_,n_,n_,n_,n_,n_,n_,n_,n_,n_,n_,n_,n_,n_]
def impl_ValidRaga.K27 : Array Bool := #[y_,y_,y_,y_,y_,y_,y_,y_,y_,y_,y_,y_,y_,y_,y_,y_,y_,y_,y_,y_,y_,y_,y_,y_,y_,y_,y_,n_,n_,n_,n_,n_,n_,n_,n_,n_,n_,n_,n_,n_,n_]
def impl_ValidRaga.K28 : Array Bool := #[y_,y_,y_,y_,y_,y_,y_,y_,y_,y_,y_,y_,y_,y_,y_,y_,y_,y_,y_,y_,y_,y_,y_,y_,y_,y_,y_,y_,n_,n_,n_,n_,n_,n_,n_,n_,n_,n_,n_,n_,n_]
def impl_ValidRaga.K29 : Array Bool := #[y_,y_,y_,y_,y_,y_,y_,y_,y_,y_,y_,y_,y_,y_,y_,y_,y_,y_,y_,y_,y_,y_,y_,y_,y_,y_,y_,y_,y_,n_,n_,n_,n_,n_,n_,n_,n_,n_,n_,n_,n_]
def impl_ValidRaga.K30 : Array Bool := #[y_,y_,y_,y_,y_,y_,y_,y_,y_,y_,y_,y_,y_,y_,y_,y_,y_,y_,y_,y_,y_,y_,y_,y_,y_,y_,y_,y_,y_,y_,n_,n_,n_,n_,n_,n_,n_,n_,n_,n_,n_]
def impl_ValidRaga.K31 : Array Bool := #[y_,y_,y_,y_,y_,y_,y_,y_,y_,y_,y_,y_,y_,y_,y_,y_,y_,y_,y_,y_,y_,y_,y_,y_,y_,y_,y_,y_,y_,y_,y_,n_,n_,n_,n_,n_,n_,n_,n_,n_,n_]
def impl_ValidRaga.K32 : Array Bool := #[y_,y_,y_,y_,y_,y_,y_,y_,y_,y_,y_,y_,y_,y_,y_,y_,y_,y_,y_,y_,y_,y_,y_,y_,y_,y_,y_,y_,y_,y_,y_,y_,n_,n_,n_,n_,n_,n_,n_,n_,n_]
def impl_ValidRaga.K33 : Array Bool := #[y_,y_,y_,y_,y_,y_,y_,y_,y_,y_,y_,y_,y_,y_,y_,y_,y_,y_,y_,y_,y_,y_,y_,y_,y_,y_,y_,y_,y_,y_,y_,y_,y_,n_,n_,n_,n_,n_,n_,n_,n_]
def impl_ValidRaga.K34 : Array Bool := #[y_,y_,y_,y_,y_,y_,y_,y_,y_,y_,y_,y_,y_,y_,y_,y_,y_,y_,y_,y_,y_,y_,y_,y_,y_,y_,y_,y_,y_,y_,y_,y_,y_,y_,n_,n_,n_,n_,n_,n_,n_]
def impl_ValidRaga.K35 : Array Bool := #[y_,y_,y_,y_,y_,y_,y_,y_,y_,y_,y_,y_,y_,y_,y_,y_,y_,y_,y_,y_,y_,y_,y_,y_,y_,y_,y_,y_,y_,y_,y_,y_,y_,y_,y_,n_,n_,n_,n_,n_,n_]
def impl_ValidRaga.K36 : Array Bool := #[y_,y_,y_,y_,y_,y_,y_,y_,y_,y_,y_,y_,y_,y_,y_,y_,y_,y_,y_,y_,y_,y_,y_,y_,y_,y_,y_,y_,y_,y_,y_,y_,y_,y_,y_,y_,n_,n_,n_,n_,n_]
def impl_ValidRaga.K37 : Array Bool := #[y_,y_,y_,y_,y_,y_,y_,y_,y_,y_,y_,y_,y_,y_,y_,y_,y_,y_,y_,y_,y_,y_,y_,y_,y_,y_,y_,y_,y_,y_,y_,y_,y_,y_,y_,y_,y_,n_,n_,n_,n_]
def impl_ValidRaga.K38 : Array Bool := #[y_,y_,y_,y_,y_,y_,y_,y_,y_,y_,y_,y_,y_,y_,y_,y_,y_,y_,y_,y_,y_,y_,y_,y_,y_,y_,y_,y_,y_,y_,y_,y_,y_,y_,y_,y_,y_,y_,n_,n_,n_]
def impl_ValidRaga.K39 : Array Bool := #[y_,y_,y_,y_,y_,y_,y_,y_,y_,y_,y_,y_,y_,y_,y_,y_,y_,y_,y_,y_,y_,y_,y_,y_,y_,y_,y_,y_,y_,y_,y_,y_,y_,y_,y_,y_,y_,y_,y_,n_,n_]
def impl_ValidRaga.K40 : Array Bool := #[y_,y_,y_,y_,y_,y_,y_,y_,y_,y_,y_,y_,y_,y_,y_,y_,y_,y_,y_,y_,y_,y_,y_,y_,y_,y_,y_,y_,y_,y_,y_,y_,y_,y_,y_,y_,y_,y_,y_,y_,n_]
def impl_ValidRaga.K41 : Array Bool := #[y_,y_,y_,y_,y_,y_,y_,y_,y_,y_,y_,y_,y_,y_,y_,y_,y_,y_,y_,y_,y_,y_,y_,y_,y_,y_,y_,y_,y_,y_,y_,y_,y_,y_,y_,y_,y_,y_,y_,y_,y_]
def impl_ValidRaga.K42 : Array Bool := #[y_,y_,y_,y_,y_,y_,y_,y_,y_,y_,y_,y_,y_,y_,y_,y_,y_,y_,y_,y_,y_,y_,y_,y_,y_,y_,y_,y_,y_,y_,y_,n_,y_,n_,n_,n_,n_,n_,n_,n_,n_]
def impl_ValidRaga.K43 : Array Bool := #[y_,y_,y_,y_,y_,y_,y_,y_,y_,y_,y_,y_,y_,y_,y_,y_,y_,y_,y_,y_,y_,y_,y_,y_,y_,y_,y_,y_,y_,y_,y_,n_,y_,y_,n_,n_,n_,n_,n_,n_,n_]
def impl_ValidRaga.K44 : Array Bool := #[y_,y_,y_,y_,y_,y_,y_,y_,y_,y_,y_,y_,y_,y_,y_,y_,y_,y_,y_,y_,y_,y_,y_,y_,y_,y_,y_,y_,y_,y_,y_,n_,y_,y_,n_,n_,y_,n_,n_,n_,n_]
def impl_ValidRaga.K45 : Array Bool := #[y_,y_,y_,y_,y_,y_,y_,y_,y_,y_,y_,y_,y_,y_,y_,y_,y_,y_,y_,y_,y_,y_,y_,y_,y_,y_,y_,y_,y_,y_,y_,y_,y_,y_,n_,n_,y_,n_,n_,n_,n_]
def impl_ValidRaga.K46 : Array Bool := #[y_,y_,y_,y_,y_,y_,y_,y_,y_,y_,y_,y_,y_,y_,y_,y_,y_,y_,y_,y_,y_,y_,y_,y_,y_,y_,y_,y_,y_,y_,y_,y_,y_,y_,y_,n_,y_,n_,n_,n_,n_]
def impl_ValidRaga.K47 : Array Bool := #[y_,y_,y_,y_,y_,y_,y_,y_,y_,y_,y_,y_,y_,y_,y_,y_,y_,y_,y_,y_,y_,n_,n_,n_,n_,n_,n_,n_,n_,n_,n_,n_,n_,n_,n_,n_,n_,n_,n_,n_,n_]
def impl_ValidRaga.K48 : Array Bool := #[y_,y_,y_,y_,y_,y_,y_,y_,y_,y_,y_,y_,y_,y_,y_,y_,y_,y_,y_,y_,y_,y_,n_,n_,n_,n_,n_,n_,n_,n_,n_,n_,n_,n_,n_,n_,n_,n_,n_,n_,n_]
mutual
def impl_ValidRaga.j0 : Nat → Bool → ByteArray → List Int → List Int → Int → Int → List (List Int) → Option (Bool)
 | 0, _, _, _, _, _, _, _ => none
 | k + 1, x47, x255000, x255001, x255002, x255003, x255004, x255005 => if x47 = true then (some false) else (impl_ValidRaga.l0 k x255005 (x255005.length : Int) 0 x255000 x255001 x255002 x255003 x255004 x255005)
def impl_ValidRaga.l0 : Nat → List (List Int) → Int → Int → ByteArray → List Int → List Int → Int → Int → List (List Int) → Option (Bool)
 | 0, _, _, _, _, _, _, _, _, _ => none
 | k + 1, x49, x50, x51, x255000, x255001, x255002, x255003, x255004, x255005 => if x51 < x50 then (if 0 ≤ x51 then (if x51 < (x49.length : Int) then (if ((rd_L1 x49 x51).length : Int) = 2 then (if 0 < ((rd_L1 x49 x51).length : Int) then ((impl_toneOk.f (rd (rd_L1 x49 x51) 0)).bind fun t262 => (if t262 = true then (if 1 < ((rd_L1 x49 x51).length : Int) then ((impl_toneOk.f (rd (rd_L1 x49 x51) 1)).bind fun t264 => (if t264 = true then (if (rd (rd_L1 x49 x51) 0) = (rd (rd_L1 x49 x51) 1) then (some false) else (if x51 > 0 then (if 0 ≤ (wrap64 (x51 - 1)) then (if (wrap64 (x51 - 1)) < (x255005.length : Int) then ((slices_Compare_int64_int64.f k (rd_L1 x255005 (wrap64 (x51 - 1))) (rd_L1 x49 x51)).bind fun t268 => (if t268 ≥ 0 then (some false) else (impl_ValidRaga.l0 k x49 x50 (wrap64 (x51 + 1)) x255000 x255001 x255002 x255003 x255004 x255005))) else (none)) else (none)) else (impl_ValidRaga.l0 k x49 x50 (wrap64 (x51 + 1)) x255000 x255001 x255002 x255003 x255004 x255005))) else (some false))) else (none)) else (some false))) else (none)) else (some false)) else (none)) else (none)) else (some true)
end
def impl_ValidRaga.f (k : Nat) (a0_0 : ByteArray) (l0_1 : List Int) (l0_2 : List Int) (a0_3 : Int) (a0_4 : Int) (l0_5 : List (List Int)) : Option (Bool) := (impl_IsName.f k a0_0).bind fun t255 => (if t255 = true then ((impl_ValidScale.f k l0_1).bind fun t256 => (if t256 = true then ((impl_ValidScale.f k l0_2).bind fun t257 => (if t257 = true then (if a0_3 = a0_4 then (impl_ValidRaga.j0 k true a0_0 l0_1 l0_2 a0_3 a0_4 l0_5) else ((impl_Raga_hasTone.f k a0_0 l0_1 l0_2 a0_3 a0_4 l0_5 a0_3).bind fun t258 => (if t258 = true then ((impl_Raga_hasTone.f k a0_0 l0_1 l0_2 a0_3 a0_4 l0_5 a0_4).bind fun t259 => (if t259 = true then (impl_ValidRaga.j0 k (decide ((l0_5.length : Int) > 8)) a0_0 l0_1 l0_2 a0_3 a0_4 l0_5) else (impl_ValidRaga.j0 k true a0_0 l0_1 l0_2 a0_3 a0_4 l0_5))) else (impl_ValidRaga.j0 k true a0_0 l0_1 l0_2 a0_3 a0_4 l0_5)))) else (impl_ValidRaga.j0 k true a0_0 l0_1 l0_2 a0_3 a0_4 l0_5))) else (impl_ValidRaga.j0 k true a0_0 l0_1 l0_2 a0_3 a0_4 l0_5))) else (impl_ValidRaga.j0 k true a0_0 l0_1 l0_2 a0_3 a0_4 l0_5))
def impl_ValidRaga.T6 : Bool × List (List Nat × List Nat) := (true, [([], []), ([0], [0]), ([1], [1]), ([2], [2]), ([3], [3]), ([4, 3], [3, 4]), ([5, 3], [3, 5]), ([6, 3, 3], [3, 6]), ([7, 3], [3, 7]), ([3, 8], [3, 8]), ([9, 7], [9]), ([10], [10]), ([11, 10], [10, 11]), ([12, 10], [10, 12]), ([13, 10, 10], [10, 13]), ([14, 10], [10, 14]), ([10, 15], [10, 15]), ([16, 14], [16]), ([17], [17]), ([18, 17], [17, 18]), ([19, 17], [17, 19]), ([17], [17]), ([21, 17], [17, 21]), ([22, 17], [17, 22]), ([20, 23, 17], [17, 20, 23]), ([17, 24], [17, 24]), ([25, 17], [25]), ([26], [26]), ([27, 26], [26, 27]), ([28, 26, 26], [26, 28]), ([29], [29]), ([30, 29], [29, 30]), ([29], [29]), ([32, 29], [29, 32]), ([31, 33, 29], [29, 31, 33]), ([34, 29], [29, 34]), ([29], [29]), ([35, 36, 29, 29], [29, 35, 36]), ([37, 29], [29, 37]), ([29, 38, 26], [26, 29, 38]), ([26, 39], [26, 39])])
def impl_ValidRaga.B6 : List Nat := [0, 1, 3, 7, 15, 31, 63, 127, 255, 511, 1023, 2047, 4095, 8191, 16383, 32767, 65535, 131071, 262143, 524287, 1048575, 262143, 2359295, 6553599, 16777215, 33554431, 67108863, 134217727, 268435455, 536870911, 1073741823, 2147483647, 1073741823, 5368709119, 17179869183, 34359738367, 1073741823, 137438953471, 274877906943, 549755813887, 1099511627775]
theorem impl_ValidRaga.tab6 : rtab .any (opsOf Try.f62 6) = impl_ValidRaga.T6 := by kernel_rfl
theorem impl_ValidRaga.bits6 : waitsOk impl_ValidRaga.T6.2 impl_ValidRaga.B6 = true := by kernel_rfl
set_option maxHeartbeats 8000000 in
set_option maxRecDepth 100000 in
theorem impl_ValidRaga.calls (k : Nat) (a0_0 : ByteArray) (A0_1 : Option Addr) (c0_1 : Nat) (l0_1 : List Int) (A0_2 : Option Addr) (c0_2 : Nat) (l0_2 : List Int) (a0_3 : Int) (a0_4 : Int) (A0_5 : Option Addr) (c0_5 : Nat) (l0_5 : List (List Int)) (r : Bool) (w : World) (hr0_1 : Kd.C (Kd.int .i64) w A0_1 l0_1.length l0_1) (hc0_1 : l0_1.length ≤ c0_1) (hr0_2 : Kd.C (Kd.int .i64) w A0_2 l0_2.length l0_2) (hc0_2 : l0_2.length ≤ c0_2) (hr0_5 : Kd.C (Kd.slice 2 (Kd.int .i64)) w A0_5 l0_5.length l0_5) (hc0_5 : l0_5.length ≤ c0_5) (h : impl_ValidRaga.f k a0_0 l0_1 l0_2 a0_3 a0_4 l0_5 = some r) :
  Calls Try.prog 62 #[.agg #[.string a0_0, .slice A0_1 l0_1.length c0_1, .slice A0_2 l0_2.length c0_2, .int .i64 a0_3, .int .i64 a0_4, .slice A0_5 l0_5.length c0_5]] w fun e w' => e = .returned (.bool r) ∧ Below w.heap.size w w' := by
 have hu29 := Try.underlying29
 have HR0_1 := Aside0.mk hr0_1
 have HC0_1 := Aside0.mk hc0_1
 clear hr0_1 hc0_1
 have HR0_2 := Aside0.mk hr0_2
 have HC0_2 := Aside0.mk hc0_2
 clear hr0_2 hc0_2
 have HR0_5 := Aside0.mk hr0_5
 have HC0_5 := Aside0.mk hc0_5
 clear hr0_5 hc0_5
 have HB := Aside0.mk (Below.refl w.heap.size w)
 have H : ((impl_IsName.f k a0_0).bind fun t255 => (if t255 = true then ((impl_ValidScale.f k l0_1).bind fun t256 => (if t256 = true then ((impl_ValidScale.f k l0_2).bind fun t257 => (if t257 = true then (if a0_3 = a0_4 then (impl_ValidRaga.j0 k true a0_0 l0_1 l0_2 a0_3 a0_4 l0_5) else ((impl_Raga_hasTone.f k a0_0 l0_1 l0_2 a0_3 a0_4 l0_5 a0_3).bind fun t258 => (if t258 = true then ((impl_Raga_hasTone.f k a0_0 l0_1 l0_2 a0_3 a0_4 l0_5 a0_4).bind fun t259 => (if t259 = true then (impl_ValidRaga.j0 k (decide ((l0_5.length : Int) > 8)) a0_0 l0_1 l0_2 a0_3 a0_4 l0_5) else (impl_ValidRaga.j0 k true a0_0 l0_1 l0_2 a0_3 a0_4 l0_5))) else (impl_ValidRaga.j0 k true a0_0 l0_1 l0_2 a0_3 a0_4 l0_5)))) else (impl_ValidRaga.j0 k true a0_0 l0_1 l0_2 a0_3 a0_4 l0_5))) else (impl_ValidRaga.j0 k true a0_0 l0_1 l0_2 a0_3 a0_4 l0_5))) else (impl_ValidRaga.j0 k true a0_0 l0_1 l0_2 a0_3 a0_4 l0_5))) = some r := h
 clear h
 have HC2 := Aside0.mk H
 clear H
 go_enter Try.func62, Try.ntmps62
 go_upto_region 1 with (first | ((with_reducible refine gate_dst (N := 1) rfl ?_); (try (refine gate_guard (by rfl) ?_; dsimp only)); refine box_event ?hg (N := 1) ?hd (cs := #[.string a0_0, .slice A0_1 l0_1.length c0_1, .slice A0_2 l0_2.length c0_2, .int .i64 a0_3, .int .i64 a0_4, .slice A0_5 l0_5.length c0_5]) (t := 29) ?hr ?_; (case hd => rfl); (case hg => rfl); (case hr => first | (go_simp; done) | (go_simp; rfl)); intro gb254 hg w3 hbox hb; have n0_ := Aside0.mk (below_step (ba_ HB.out) hb); have n1_ := Aside0.mk (hbox); have n2_ := Aside0.mk ((by rw [hg]; exact (below_size (ba_ HB.out)) : w.heap.size ≤ gb254)); have n3_ := Aside0.mk ((by rw [hg]; exact (below_size (ba_ HB.out)) : w.heap.size ≤ gb254)); clear HB; have HB := n0_; have BK254 := n1_; have GW254 := n2_; have GE254 := n3_; clear n0_ n1_ n2_ n3_; clear hb hbox hg))
 (try simp only [Act.put, List.setIfInBounds_toArray, List.set_cons_zero, List.set_cons_succ])
 go_cut [47] (fun v47 wc => ∃ (kq : Nat) (x47_1 : Bool), v47 = .bool x47_1 ∧ Aside0 (impl_ValidRaga.j0 kq x47_1 a0_0 l0_1 l0_2 a0_3 a0_4 l0_5 = some r) ∧ Aside0 (kq ≤ k) ∧ Aside0 (wc.heap[gb254]? = some (.cells #[.string a0_0, (.slice A0_1 l0_1.length c0_1), (.slice A0_2 l0_2.length c0_2), .int .i64 a0_3, .int .i64 a0_4, (.slice A0_5 l0_5.length c0_5)] 29 (0, 0))) ∧ Aside0 (Below w.heap.size w wc))
 case first =>
  have H := HC2.out
  clear HC2
  replace H := Option.bind_eq_some_iff.mp H
  obtain ⟨t255, A40, H⟩ := H
  replace H : (if t255 = true then ((impl_ValidScale.f k l0_1).bind fun t256 => (if t256 = true then ((impl_ValidScale.f k l0_2).bind fun t257 => (if t257 = true then (if a0_3 = a0_4 then (impl_ValidRaga.j0 k true a0_0 l0_1 l0_2 a0_3 a0_4 l0_5) else ((impl_Raga_hasTone.f k a0_0 l0_1 l0_2 a0_3 a0_4 l0_5 a0_3).bind fun t258 => (if t258 = true then ((impl_Raga_hasTone.f k a0_0 l0_1 l0_2 a0_3 a0_4 l0_5 a0_4).bind fun t259 => (if t259 = true then (impl_ValidRaga.j0 k (decide ((l0_5.length : Int) > 8)) a0_0 l0_1 l0_2 a0_3 a0_4 l0_5) else (impl_ValidRaga.j0 k true a0_0 l0_1 l0_2 a0_3 a0_4 l0_5))) else (impl_ValidRaga.j0 k true a0_0 l0_1 l0_2 a0_3 a0_4 l0_5)))) else (impl_ValidRaga.j0 k true a0_0 l0_1 l0_2 a0_3 a0_4 l0_5))) else (impl_ValidRaga.j0 k true a0_0 l0_1 l0_2 a0_3 a0_4 l0_5))) else (impl_ValidRaga.j0 k true a0_0 l0_1 l0_2 a0_3 a0_4 l0_5)) = some r := H
  have A4 := Aside0.mk A40
  clear A40
  by_cases c5 : t255 = true
  ·subst c5
   have H1 : ((impl_ValidScale.f k l0_1).bind fun t256 => (if t256 = true then ((impl_ValidScale.f k l0_2).bind fun t257 => (if t257 = true then (if a0_3 = a0_4 then (impl_ValidRaga.j0 k true a0_0 l0_1 l0_2 a0_3 a0_4 l0_5) else ((impl_Raga_hasTone.f k a0_0 l0_1 l0_2 a0_3 a0_4 l0_5 a0_3).bind fun t258 => (if t258 = true then ((impl_Raga_hasTone.f k a0_0 l0_1 l0_2 a0_3 a0_4 l0_5 a0_4).bind fun t259 => (if t259 = true then (impl_ValidRaga.j0 k (decide ((l0_5.length : Int) > 8)) a0_0 l0_1 l0_2 a0_3 a0_4 l0_5) else (impl_ValidRaga.j0 k true a0_0 l0_1 l0_2 a0_3 a0_4 l0_5))) else (impl_ValidRaga.j0 k true a0_0 l0_1 l0_2 a0_3 a0_4 l0_5)))) else (impl_ValidRaga.j0 k true a0_0 l0_1 l0_2 a0_3 a0_4 l0_5))) else (impl_ValidRaga.j0 k true a0_0 l0_1 l0_2 a0_3 a0_4 l0_5))) = some r := by rw [if_pos rfl] at H; exact H
   clear H
   have H := H1
   clear H1
   replace H := Option.bind_eq_some_iff.mp H
   obtain ⟨t256, A60, H⟩ := H
   replace H : (if t256 = true then ((impl_ValidScale.f k l0_2).bind fun t257 => (if t257 = true then (if a0_3 = a0_4 then (impl_ValidRaga.j0 k true a0_0 l0_1 l0_2 a0_3 a0_4 l0_5) else ((impl_Raga_hasTone.f k a0_0 l0_1 l0_2 a0_3 a0_4 l0_5 a0_3).bind fun t258 => (if t258 = true then ((impl_Raga_hasTone.f k a0_0 l0_1 l0_2 a0_3 a0_4 l0_5 a0_4).bind fun t259 => (if t259 = true then (impl_ValidRaga.j0 k (decide ((l0_5.length : Int) > 8)) a0_0 l0_1 l0_2 a0_3 a0_4 l0_5) else (impl_ValidRaga.j0 k true a0_0 l0_1 l0_2 a0_3 a0_4 l0_5))) else (impl_ValidRaga.j0 k true a0_0 l0_1 l0_2 a0_3 a0_4 l0_5)))) else (impl_ValidRaga.j0 k true a0_0 l0_1 l0_2 a0_3 a0_4 l0_5))) else (impl_ValidRaga.j0 k true a0_0 l0_1 l0_2 a0_3 a0_4 l0_5)) = some r := H
   have A6 := Aside0.mk A60
   clear A60
   by_cases c7 : t256 = true
   ·subst c7
    have H1 : ((impl_ValidScale.f k l0_2).bind fun t257 => (if t257 = true then (if a0_3 = a0_4 then (impl_ValidRaga.j0 k true a0_0 l0_1 l0_2 a0_3 a0_4 l0_5) else ((impl_Raga_hasTone.f k a0_0 l0_1 l0_2 a0_3 a0_4 l0_5 a0_3).bind fun t258 => (if t258 = true then ((impl_Raga_hasTone.f k a0_0 l0_1 l0_2 a0_3 a0_4 l0_5 a0_4).bind fun t259 => (if t259 = true then (impl_ValidRaga.j0 k (decide ((l0_5.length : Int) > 8)) a0_0 l0_1 l0_2 a0_3 a0_4 l0_5) else (impl_ValidRaga.j0 k true a0_0 l0_1 l0_2 a0_3 a0_4 l0_5))) else (impl_ValidRaga.j0 k true a0_0 l0_1 l0_2 a0_3 a0_4 l0_5)))) else (impl_ValidRaga.j0 k true a0_0 l0_1 l0_2 a0_3 a0_4 l0_5))) = some r := by rw [if_pos rfl] at H; exact H
    clear H; have H := H1; clear H1
    replace H := Option.bind_eq_some_iff.mp H
    obtain ⟨t257, A80, H⟩ := H
    replace H : (if t257 = true then (if a0_3 = a0_4 then (impl_ValidRaga.j0 k true a0_0 l0_1 l0_2 a0_3 a0_4 l0_5) else ((impl_Raga_hasTone.f k a0_0 l0_1 l0_2 a0_3 a0_4 l0_5 a0_3).bind fun t258 => (if t258 = true then ((impl_Raga_hasTone.f k a0_0 l0_1 l0_2 a0_3 a0_4 l0_5 a0_4).bind fun t259 => (if t259 = true then (impl_ValidRaga.j0 k (decide ((l0_5.length : Int) > 8)) a0_0 l0_1 l0_2 a0_3 a0_4 l0_5) else (impl_ValidRaga.j0 k true a0_0 l0_1 l0_2 a0_3 a0_4 l0_5))) else (impl_ValidRaga.j0 k true a0_0 l0_1 l0_2 a0_3 a0_4 l0_5)))) else (impl_ValidRaga.j0 k true a0_0 l0_1 l0_2 a0_3 a0_4 l0_5)) = some r := H
    have A8 := Aside0.mk A80; clear A80
    by_cases c9 : t257 = true
    ·subst c9
     have H1 : (if a0_3 = a0_4 then (impl_ValidRaga.j0 k true a0_0 l0_1 l0_2 a0_3 a0_4 l0_5) else ((impl_Raga_hasTone.f k a0_0 l0_1 l0_2 a0_3 a0_4 l0_5 a0_3).bind fun t258 => (if t258 = true then ((impl_Raga_hasTone.f k a0_0 l0_1 l0_2 a0_3 a0_4 l0_5 a0_4).bind fun t259 => (if t259 = true then (impl_ValidRaga.j0 k (decide ((l0_5.length : Int) > 8)) a0_0 l0_1 l0_2 a0_3 a0_4 l0_5) else (impl_ValidRaga.j0 k true a0_0 l0_1 l0_2 a0_3 a0_4 l0_5))) else (impl_ValidRaga.j0 k true a0_0 l0_1 l0_2 a0_3 a0_4 l0_5)))) = some r := by rw [if_pos rfl] at H; exact H
     clear H; have H := H1; clear H1
     by_cases c10 : a0_3 = a0_4
     ·rw [if_pos c10] at H
      have c10b0 : (a0_3 == a0_4) = true := beq_iff_eq.mpr c10
      have c10b1 : (a0_3 != a0_4) = false := bne_eq_false_iff_eq.mpr c10
      clear c10
      (first | rw [c10b0] | (simp only [i64_w, i32_w]; rw [c10b0]) | skip)
      have H' := Aside0.mk H
      clear H
      have hcz11_0 : w3.cell? ⟨gb254, 0, none⟩ = some (.string a0_0) := (blk_cell BK254.out 0).trans rfl
      have hcz11_1 : w3.cell? ⟨gb254, 1, none⟩ = some (.slice A0_1 l0_1.length c0_1) := (blk_cell BK254.out 1).trans rfl
      have hcz11_2 : w3.cell? ⟨gb254, 2, none⟩ = some (.slice A0_2 l0_2.length c0_2) := (blk_cell BK254.out 2).trans rfl
      have hcz11_3 : w3.cell? ⟨gb254, 3, none⟩ = some (.int .i64 a0_3) := (blk_cell BK254.out 3).trans rfl
      have hcz11_4 : w3.cell? ⟨gb254, 4, none⟩ = some (.int .i64 a0_4) := (blk_cell BK254.out 4).trans rfl
      have hcz11_5 : w3.cell? ⟨gb254, 5, none⟩ = some (.slice A0_5 l0_5.length c0_5) := (blk_cell BK254.out 5).trans rfl
      have hfz11_0 := blk_frozen BK254.out 0; have hfz11_1 := blk_frozen BK254.out 1; have hfz11_2 := blk_frozen BK254.out 2; have hfz11_3 := blk_frozen BK254.out 3; have hfz11_4 := blk_frozen BK254.out 4; have hfz11_5 := blk_frozen BK254.out 5
      go_wp2_with (first | ((with_reducible refine gate_callee (f := 113) rfl ?_); refine goesL_ (some 7) rfl rfl Try.func113 (by kernel_rfl) rfl #[.string a0_0] rfl av_ ?_; (with_reducible refine (impl_IsName.calls k a0_0 true _ A4.out).mono ?_); rintro e w' ⟨rfl, ⟨nd, rfl⟩⟩; refine ⟨_, rfl, ?_⟩) | (go_at_call 114; (with_reducible refine (impl_ValidScale.calls k _ _ l0_1 true _ ?side1 ?side2 A6.out).mono ?_); (case side1 => repeat (first | exact (Kd.C_below HR0_1.out (bg_ HB.out GE254.out)) | (with_reducible refine Kd.C_alloc ?_ _) | (with_reducible refine Kd.C_drewN ?_ _) | (with_reducible refine Kd.C_drew ?_))); (case side2 => exact HC0_1.out); rintro e w' ⟨rfl, ⟨nd, rfl⟩⟩) | (go_at_call 114; (with_reducible refine (impl_ValidScale.calls k _ _ l0_2 true _ ?side1 ?side2 A8.out).mono ?_); (case side1 => repeat (first | exact (Kd.C_below HR0_2.out (bg_ HB.out GE254.out)) | (with_reducible refine Kd.C_alloc ?_ _) | (with_reducible refine Kd.C_drewN ?_ _) | (with_reducible refine Kd.C_drew ?_))); (case side2 => exact HC0_2.out); rintro e w' ⟨rfl, ⟨nd, rfl⟩⟩))
      go_meet
      case rel => exact ⟨_, (true), sv_, H', ⟨by first | omega | exact Nat.le_refl _⟩, ⟨by (with_reducible repeat (first | refine blk_drewN ?_ _ | refine blk_drew ?_ | refine blk_alloc ?_ _)); exact BK254.out⟩, ⟨bg_ HB.out GE254.out⟩⟩
     ·rw [if_neg c10] at H
      have c10b0 : (a0_3 == a0_4) = false := beq_eq_false_iff_ne.mpr c10
      have c10b1 : (a0_3 != a0_4) = true := bne_iff_ne.mpr c10
      (first | rw [c10b0] | (simp only [i64_w, i32_w]; rw [c10b0]) | skip)
      replace H := Option.bind_eq_some_iff.mp H
      obtain ⟨t258, A120, H⟩ := H
      replace H : (if t258 = true then ((impl_Raga_hasTone.f k a0_0 l0_1 l0_2 a0_3 a0_4 l0_5 a0_4).bind fun t259 => (if t259 = true then (impl_ValidRaga.j0 k (decide ((l0_5.length : Int) > 8)) a0_0 l0_1 l0_2 a0_3 a0_4 l0_5) else (impl_ValidRaga.j0 k true a0_0 l0_1 l0_2 a0_3 a0_4 l0_5))) else (impl_ValidRaga.j0 k true a0_0 l0_1 l0_2 a0_3 a0_4 l0_5)) = some r := H
      have A12 := Aside0.mk A120; clear A120
      by_cases c13 : t258 = true
      ·subst c13
       have H1 : ((impl_Raga_hasTone.f k a0_0 l0_1 l0_2 a0_3 a0_4 l0_5 a0_4).bind fun t259 => (if t259 = true then (impl_ValidRaga.j0 k (decide ((l0_5.length : Int) > 8)) a0_0 l0_1 l0_2 a0_3 a0_4 l0_5) else (impl_ValidRaga.j0 k true a0_0 l0_1 l0_2 a0_3 a0_4 l0_5))) = some r := by rw [if_pos rfl] at H; exact H
       clear H; have H := H1; clear H1
       replace H := Option.bind_eq_some_iff.mp H
       obtain ⟨t259, A140, H⟩ := H
       replace H : (if t259 = true then (impl_ValidRaga.j0 k (decide ((l0_5.length : Int) > 8)) a0_0 l0_1 l0_2 a0_3 a0_4 l0_5) else (impl_ValidRaga.j0 k true a0_0 l0_1 l0_2 a0_3 a0_4 l0_5)) = some r := H
       have A14 := Aside0.mk A140; clear A140
       by_cases c15 : t259 = true
       ·subst c15
        have H1 : (impl_ValidRaga.j0 k (decide ((l0_5.length : Int) > 8)) a0_0 l0_1 l0_2 a0_3 a0_4 l0_5) = some r := by rw [if_pos rfl] at H; exact H
        clear H; have H := H1; clear H1
        have H' := Aside0.mk H
        clear H
        have hcz16_0 : w3.cell? ⟨gb254, 0, none⟩ = some (.string a0_0) := (blk_cell BK254.out 0).trans rfl
        have hcz16_1 : w3.cell? ⟨gb254, 1, none⟩ = some (.slice A0_1 l0_1.length c0_1) := (blk_cell BK254.out 1).trans rfl
        have hcz16_2 : w3.cell? ⟨gb254, 2, none⟩ = some (.slice A0_2 l0_2.length c0_2) := (blk_cell BK254.out 2).trans rfl
        have hcz16_3 : w3.cell? ⟨gb254, 3, none⟩ = some (.int .i64 a0_3) := (blk_cell BK254.out 3).trans rfl
        have hcz16_4 : w3.cell? ⟨gb254, 4, none⟩ = some (.int .i64 a0_4) := (blk_cell BK254.out 4).trans rfl
        have hcz16_5 : w3.cell? ⟨gb254, 5, none⟩ = some (.slice A0_5 l0_5.length c0_5) := (blk_cell BK254.out 5).trans rfl
        have hfz16_0 := blk_frozen BK254.out 0; have hfz16_1 := blk_frozen BK254.out 1; have hfz16_2 := blk_frozen BK254.out 2; have hfz16_3 := blk_frozen BK254.out 3; have hfz16_4 := blk_frozen BK254.out 4; have hfz16_5 := blk_frozen BK254.out 5
        go_wp2_with (first | ((with_reducible refine gate_callee (f := 113) rfl ?_); refine goesL_ (some 7) rfl rfl Try.func113 (by kernel_rfl) rfl #[.string a0_0] rfl av_ ?_; (with_reducible refine (impl_IsName.calls k a0_0 true _ A4.out).mono ?_); rintro e w' ⟨rfl, ⟨nd, rfl⟩⟩; refine ⟨_, rfl, ?_⟩) | (go_at_call 114; (with_reducible refine (impl_ValidScale.calls k _ _ l0_1 true _ ?side1 ?side2 A6.out).mono ?_); (case side1 => repeat (first | exact (Kd.C_below HR0_1.out (bg_ HB.out GE254.out)) | (with_reducible refine Kd.C_alloc ?_ _) | (with_reducible refine Kd.C_drewN ?_ _) | (with_reducible refine Kd.C_drew ?_))); (case side2 => exact HC0_1.out); rintro e w' ⟨rfl, ⟨nd, rfl⟩⟩) | (go_at_call 114; (with_reducible refine (impl_ValidScale.calls k _ _ l0_2 true _ ?side1 ?side2 A8.out).mono ?_); (case side1 => repeat (first | exact (Kd.C_below HR0_2.out (bg_ HB.out GE254.out)) | (with_reducible refine Kd.C_alloc ?_ _) | (with_reducible refine Kd.C_drewN ?_ _) | (with_reducible refine Kd.C_drew ?_))); (case side2 => exact HC0_2.out); rintro e w' ⟨rfl, ⟨nd, rfl⟩⟩) | (go_at_call 69; (with_reducible refine (impl_Raga_hasTone.calls k a0_0 _ _ l0_1 _ _ l0_2 a0_3 a0_4 _ _ l0_5 a0_3 true _ ?side1 ?side2 ?side3 ?side4 ?side5 ?side6 A12.out).mono ?_); (case side1 => repeat (first | exact (Kd.C_below HR0_1.out (bg_ HB.out GE254.out)) | (with_reducible refine Kd.C_alloc ?_ _) | (with_reducible refine Kd.C_drewN ?_ _) | (with_reducible refine Kd.C_drew ?_))); (case side2 => exact HC0_1.out); (case side3 => repeat (first | exact (Kd.C_below HR0_2.out (bg_ HB.out GE254.out)) | (with_reducible refine Kd.C_alloc ?_ _) | (with_reducible refine Kd.C_drewN ?_ _) | (with_reducible refine Kd.C_drew ?_))); (case side4 => exact HC0_2.out); (case side5 => repeat (first | exact (Kd.C_below HR0_5.out (bg_ HB.out GE254.out)) | (with_reducible refine Kd.C_alloc ?_ _) | (with_reducible refine Kd.C_drewN ?_ _) | (with_reducible refine Kd.C_drew ?_))); (case side6 => exact HC0_5.out); rintro e w17 ⟨rfl, hb⟩; have n0_ := Aside0.mk (blk_below (g := gb254) (o := .cells #[.string a0_0, .slice A0_1 l0_1.length c0_1, .slice A0_2 l0_2.length c0_2, .int .i64 a0_3, .int .i64 a0_4, .slice A0_5 l0_5.length c0_5] 29 (0, 0)) (by repeat first | exact BK254.out | refine blk_drewN ?_ _ | refine blk_drew ?_ | refine blk_alloc ?_ _) hb); have n1_ := Aside0.mk (below_step (bg_ HB.out GE254.out) hb); clear BK254; clear HB; have BK254 := n0_; have HB := n1_; clear n0_ n1_; (try clear hb); (try clear hb2); (try clear hk); (try clear hi); have hcz18_0 : w17.cell? ⟨gb254, 0, none⟩ = some (.string a0_0) := (blk_cell BK254.out 0).trans rfl; have hcz18_1 : w17.cell? ⟨gb254, 1, none⟩ = some (.slice A0_1 l0_1.length c0_1) := (blk_cell BK254.out 1).trans rfl; have hcz18_2 : w17.cell? ⟨gb254, 2, none⟩ = some (.slice A0_2 l0_2.length c0_2) := (blk_cell BK254.out 2).trans rfl; have hcz18_3 : w17.cell? ⟨gb254, 3, none⟩ = some (.int .i64 a0_3) := (blk_cell BK254.out 3).trans rfl; have hcz18_4 : w17.cell? ⟨gb254, 4, none⟩ = some (.int .i64 a0_4) := (blk_cell BK254.out 4).trans rfl; have hcz18_5 : w17.cell? ⟨gb254, 5, none⟩ = some (.slice A0_5 l0_5.length c0_5) := (blk_cell BK254.out 5).trans rfl; have hfz18_0 := blk_frozen BK254.out 0; have hfz18_1 := blk_frozen BK254.out 1; have hfz18_2 := blk_frozen BK254.out 2; have hfz18_3 := blk_frozen BK254.out 3; have hfz18_4 := blk_frozen BK254.out 4; have hfz18_5 := blk_frozen BK254.out 5) | (go_at_call 69; (with_reducible refine (impl_Raga_hasTone.calls k a0_0 _ _ l0_1 _ _ l0_2 a0_3 a0_4 _ _ l0_5 a0_4 true _ ?side1 ?side2 ?side3 ?side4 ?side5 ?side6 A14.out).mono ?_); (case side1 => exact (Kd.C_below HR0_1.out HB.out)); (case side2 => exact HC0_1.out); (case side3 => exact (Kd.C_below HR0_2.out HB.out)); (case side4 => exact HC0_2.out); (case side5 => exact (Kd.C_below HR0_5.out HB.out)); (case side6 => exact HC0_5.out); rintro e w19 ⟨rfl, hb⟩; have n0_ := Aside0.mk (blk_below (g := gb254) (o := .cells #[.string a0_0, .slice A0_1 l0_1.length c0_1, .slice A0_2 l0_2.length c0_2, .int .i64 a0_3, .int .i64 a0_4, .slice A0_5 l0_5.length c0_5] 29 (0, 0)) (by repeat first | exact BK254.out | refine blk_drewN ?_ _ | refine blk_drew ?_ | refine blk_alloc ?_ _) hb); have n1_ := Aside0.mk (below_step (bg_ HB.out GE254.out) hb); clear BK254; clear HB; have BK254 := n0_; have HB := n1_; clear n0_ n1_; (try clear hb); (try clear hb2); (try clear hk); (try clear hi); have hcz20_0 : w19.cell? ⟨gb254, 0, none⟩ = some (.string a0_0) := (blk_cell BK254.out 0).trans rfl; have hcz20_1 : w19.cell? ⟨gb254, 1, none⟩ = some (.slice A0_1 l0_1.length c0_1) := (blk_cell BK254.out 1).trans rfl; have hcz20_2 : w19.cell? ⟨gb254, 2, none⟩ = some (.slice A0_2 l0_2.length c0_2) := (blk_cell BK254.out 2).trans rfl; have hcz20_3 : w19.cell? ⟨gb254, 3, none⟩ = some (.int .i64 a0_3) := (blk_cell BK254.out 3).trans rfl; have hcz20_4 : w19.cell? ⟨gb254, 4, none⟩ = some (.int .i64 a0_4) := (blk_cell BK254.out 4).trans rfl; have hcz20_5 : w19.cell? ⟨gb254, 5, none⟩ = some (.slice A0_5 l0_5.length c0_5) := (blk_cell BK254.out 5).trans rfl; have hfz20_0 := blk_frozen BK254.out 0; have hfz20_1 := blk_frozen BK254.out 1; have hfz20_2 := blk_frozen BK254.out 2; have hfz20_3 := blk_frozen BK254.out 3; have hfz20_4 := blk_frozen BK254.out 4; have hfz20_5 := blk_frozen BK254.out 5))
        go_meet
        case rel => exact ⟨_, (decide ((l0_5.length : Int) > 8)), sv_, H', ⟨by first | omega | exact Nat.le_refl _⟩, ⟨by (with_reducible repeat (first | refine blk_drewN ?_ _ | refine blk_drew ?_ | refine blk_alloc ?_ _)); exact BK254.out⟩, ⟨bg_ HB.out GE254.out⟩⟩
       ·replace c15 := Bool.eq_false_iff.mpr c15
        subst c15
        have H1 : (impl_ValidRaga.j0 k true a0_0 l0_1 l0_2 a0_3 a0_4 l0_5) = some r := by rw [if_neg (show ¬ (false = true) by decide)] at H; exact H
        clear H; have H := H1; clear H1
        have H' := Aside0.mk H
        clear H
        have hcz21_0 : w3.cell? ⟨gb254, 0, none⟩ = some (.string a0_0) := (blk_cell BK254.out 0).trans rfl
        have hcz21_1 : w3.cell? ⟨gb254, 1, none⟩ = some (.slice A0_1 l0_1.length c0_1) := (blk_cell BK254.out 1).trans rfl
        have hcz21_2 : w3.cell? ⟨gb254, 2, none⟩ = some (.slice A0_2 l0_2.length c0_2) := (blk_cell BK254.out 2).trans rfl
        have hcz21_3 : w3.cell? ⟨gb254, 3, none⟩ = some (.int .i64 a0_3) := (blk_cell BK254.out 3).trans rfl
        have hcz21_4 : w3.cell? ⟨gb254, 4, none⟩ = some (.int .i64 a0_4) := (blk_cell BK254.out 4).trans rfl
        have hcz21_5 : w3.cell? ⟨gb254, 5, none⟩ = some (.slice A0_5 l0_5.length c0_5) := (blk_cell BK254.out 5).trans rfl
        have hfz21_0 := blk_frozen BK254.out 0; have hfz21_1 := blk_frozen BK254.out 1; have hfz21_2 := blk_frozen BK254.out 2; have hfz21_3 := blk_frozen BK254.out 3; have hfz21_4 := blk_frozen BK254.out 4; have hfz21_5 := blk_frozen BK254.out 5
        go_wp2_with (first | ((with_reducible refine gate_callee (f := 113) rfl ?_); refine goesL_ (some 7) rfl rfl Try.func113 (by kernel_rfl) rfl #[.string a0_0] rfl av_ ?_; (with_reducible refine (impl_IsName.calls k a0_0 true _ A4.out).mono ?_); rintro e w' ⟨rfl, ⟨nd, rfl⟩⟩; refine ⟨_, rfl, ?_⟩) | (go_at_call 114; (with_reducible refine (impl_ValidScale.calls k _ _ l0_1 true _ ?side1 ?side2 A6.out).mono ?_); (case side1 => repeat (first | exact (Kd.C_below HR0_1.out (bg_ HB.out GE254.out)) | (with_reducible refine Kd.C_alloc ?_ _) | (with_reducible refine Kd.C_drewN ?_ _) | (with_reducible refine Kd.C_drew ?_))); (case side2 => exact HC0_1.out); rintro e w' ⟨rfl, ⟨nd, rfl⟩⟩) | (go_at_call 114; (with_reducible refine (impl_ValidScale.calls k _ _ l0_2 true _ ?side1 ?side2 A8.out).mono ?_); (case side1 => repeat (first | exact (Kd.C_below HR0_2.out (bg_ HB.out GE254.out)) | (with_reducible refine Kd.C_alloc ?_ _) | (with_reducible refine Kd.C_drewN ?_ _) | (with_reducible refine Kd.C_drew ?_))); (case side2 => exact HC0_2.out); rintro e w' ⟨rfl, ⟨nd, rfl⟩⟩) | (go_at_call 69; (with_reducible refine (impl_Raga_hasTone.calls k a0_0 _ _ l0_1 _ _ l0_2 a0_3 a0_4 _ _ l0_5 a0_3 true _ ?side1 ?side2 ?side3 ?side4 ?side5 ?side6 A12.out).mono ?_); (case side1 => repeat (first | exact (Kd.C_below HR0_1.out (bg_ HB.out GE254.out)) | (with_reducible refine Kd.C_alloc ?_ _) | (with_reducible refine Kd.C_drewN ?_ _) | (with_reducible refine Kd.C_drew ?_))); (case side2 => exact HC0_1.out); (case side3 => repeat (first | exact (Kd.C_below HR0_2.out (bg_ HB.out GE254.out)) | (with_reducible refine Kd.C_alloc ?_ _) | (with_reducible refine Kd.C_drewN ?_ _) | (with_reducible refine Kd.C_drew ?_))); (case side4 => exact HC0_2.out); (case side5 => repeat (first | exact (Kd.C_below HR0_5.out (bg_ HB.out GE254.out)) | (with_reducible refine Kd.C_alloc ?_ _) | (with_reducible refine Kd.C_drewN ?_ _) | (with_reducible refine Kd.C_drew ?_))); (case side6 => exact HC0_5.out); rintro e w22 ⟨rfl, hb⟩; have n0_ := Aside0.mk (blk_below (g := gb254) (o := .cells #[.string a0_0, .slice A0_1 l0_1.length c0_1, .slice A0_2 l0_2.length c0_2, .int .i64 a0_3, .int .i64 a0_4, .slice A0_5 l0_5.length c0_5] 29 (0, 0)) (by repeat first | exact BK254.out | refine blk_drewN ?_ _ | refine blk_drew ?_ | refine blk_alloc ?_ _) hb); have n1_ := Aside0.mk (below_step (bg_ HB.out GE254.out) hb); clear BK254; clear HB; have BK254 := n0_; have HB := n1_; clear n0_ n1_; (try clear hb); (try clear hb2); (try clear hk); (try clear hi); have hcz23_0 : w22.cell? ⟨gb254, 0, none⟩ = some (.string a0_0) := (blk_cell BK254.out 0).trans rfl; have hcz23_1 : w22.cell? ⟨gb254, 1, none⟩ = some (.slice A0_1 l0_1.length c0_1) := (blk_cell BK254.out 1).trans rfl; have hcz23_2 : w22.cell? ⟨gb254, 2, none⟩ = some (.slice A0_2 l0_2.length c0_2) := (blk_cell BK254.out 2).trans rfl; have hcz23_3 : w22.cell? ⟨gb254, 3, none⟩ = some (.int .i64 a0_3) := (blk_cell BK254.out 3).trans rfl; have hcz23_4 : w22.cell? ⟨gb254, 4, none⟩ = some (.int .i64 a0_4) := (blk_cell BK254.out 4).trans rfl; have hcz23_5 : w22.cell? ⟨gb254, 5, none⟩ = some (.slice A0_5 l0_5.length c0_5) := (blk_cell BK254.out 5).trans rfl; have hfz23_0 := blk_frozen BK254.out 0; have hfz23_1 := blk_frozen BK254.out 1; have hfz23_2 := blk_frozen BK254.out 2; have hfz23_3 := blk_frozen BK254.out 3; have hfz23_4 := blk_frozen BK254.out 4; have hfz23_5 := blk_frozen BK254.out 5) | (go_at_call 69; (with_reducible refine (impl_Raga_hasTone.calls k a0_0 _ _ l0_1 _ _ l0_2 a0_3 a0_4 _ _ l0_5 a0_4 false _ ?side1 ?side2 ?side3 ?side4 ?side5 ?side6 A14.out).mono ?_); (case side1 => exact (Kd.C_below HR0_1.out HB.out)); (case side2 => exact HC0_1.out); (case side3 => exact (Kd.C_below HR0_2.out HB.out)); (case side4 => exact HC0_2.out); (case side5 => exact (Kd.C_below HR0_5.out HB.out)); (case side6 => exact HC0_5.out); rintro e w24 ⟨rfl, hb⟩; have n0_ := Aside0.mk (blk_below (g := gb254) (o := .cells #[.string a0_0, .slice A0_1 l0_1.length c0_1, .slice A0_2 l0_2.length c0_2, .int .i64 a0_3, .int .i64 a0_4, .slice A0_5 l0_5.length c0_5] 29 (0, 0)) (by repeat first | exact BK254.out | refine blk_drewN ?_ _ | refine blk_drew ?_ | refine blk_alloc ?_ _) hb); have n1_ := Aside0.mk (below_step (bg_ HB.out GE254.out) hb); clear BK254; clear HB; have BK254 := n0_; have HB := n1_; clear n0_ n1_; (try clear hb); (try clear hb2); (try clear hk); (try clear hi)))
        go_meet
        case rel => exact ⟨_, (true), sv_, H', ⟨by first | omega | exact Nat.le_refl _⟩, ⟨by (with_reducible repeat (first | refine blk_drewN ?_ _ | refine blk_drew ?_ | refine blk_alloc ?_ _)); exact BK254.out⟩, ⟨bg_ HB.out GE254.out⟩⟩
      ·replace c13 := Bool.eq_false_iff.mpr c13
       subst c13
       have H1 : (impl_ValidRaga.j0 k true a0_0 l0_1 l0_2 a0_3 a0_4 l0_5) = some r := by rw [if_neg (show ¬ (false = true) by decide)] at H; exact H
       clear H; have H := H1; clear H1
       have H' := Aside0.mk H
       clear H
       have hcz25_0 : w3.cell? ⟨gb254, 0, none⟩ = some (.string a0_0) := (blk_cell BK254.out 0).trans rfl
       have hcz25_1 : w3.cell? ⟨gb254, 1, none⟩ = some (.slice A0_1 l0_1.length c0_1) := (blk_cell BK254.out 1).trans rfl
       have hcz25_2 : w3.cell? ⟨gb254, 2, none⟩ = some (.slice A0_2 l0_2.length c0_2) := (blk_cell BK254.out 2).trans rfl
       have hcz25_3 : w3.cell? ⟨gb254, 3, none⟩ = some (.int .i64 a0_3) := (blk_cell BK254.out 3).trans rfl
       have hcz25_4 : w3.cell? ⟨gb254, 4, none⟩ = some (.int .i64 a0_4) := (blk_cell BK254.out 4).trans rfl
       have hcz25_5 : w3.cell? ⟨gb254, 5, none⟩ = some (.slice A0_5 l0_5.length c0_5) := (blk_cell BK254.out 5).trans rfl
       have hfz25_0 := blk_frozen BK254.out 0; have hfz25_1 := blk_frozen BK254.out 1; have hfz25_2 := blk_frozen BK254.out 2; have hfz25_3 := blk_frozen BK254.out 3; have hfz25_4 := blk_frozen BK254.out 4; have hfz25_5 := blk_frozen BK254.out 5
       go_wp2_with (first | ((with_reducible refine gate_callee (f := 113) rfl ?_); refine goesL_ (some 7) rfl rfl Try.func113 (by kernel_rfl) rfl #[.string a0_0] rfl av_ ?_; (with_reducible refine (impl_IsName.calls k a0_0 true _ A4.out).mono ?_); rintro e w' ⟨rfl, ⟨nd, rfl⟩⟩; refine ⟨_, rfl, ?_⟩) | (go_at_call 114; (with_reducible refine (impl_ValidScale.calls k _ _ l0_1 true _ ?side1 ?side2 A6.out).mono ?_); (case side1 => repeat (first | exact (Kd.C_below HR0_1.out (bg_ HB.out GE254.out)) | (with_reducible refine Kd.C_alloc ?_ _) | (with_reducible refine Kd.C_drewN ?_ _) | (with_reducible refine Kd.C_drew ?_))); (case side2 => exact HC0_1.out); rintro e w' ⟨rfl, ⟨nd, rfl⟩⟩) | (go_at_call 114; (with_reducible refine (impl_ValidScale.calls k _ _ l0_2 true _ ?side1 ?side2 A8.out).mono ?_); (case side1 => repeat (first | exact (Kd.C_below HR0_2.out (bg_ HB.out GE254.out)) | (with_reducible refine Kd.C_alloc ?_ _) | (with_reducible refine Kd.C_drewN ?_ _) | (with_reducible refine Kd.C_drew ?_))); (case side2 => exact HC0_2.out); rintro e w' ⟨rfl, ⟨nd, rfl⟩⟩) | (go_at_call 69; (with_reducible refine (impl_Raga_hasTone.calls k a0_0 _ _ l0_1 _ _ l0_2 a0_3 a0_4 _ _ l0_5 a0_3 false _ ?side1 ?side2 ?side3 ?side4 ?side5 ?side6 A12.out).mono ?_); (case side1 => repeat (first | exact (Kd.C_below HR0_1.out (bg_ HB.out GE254.out)) | (with_reducible refine Kd.C_alloc ?_ _) | (with_reducible refine Kd.C_drewN ?_ _) | (with_reducible refine Kd.C_drew ?_))); (case side2 => exact HC0_1.out); (case side3 => repeat (first | exact (Kd.C_below HR0_2.out (bg_ HB.out GE254.out)) | (with_reducible refine Kd.C_alloc ?_ _) | (with_reducible refine Kd.C_drewN ?_ _) | (with_reducible refine Kd.C_drew ?_))); (case side4 => exact HC0_2.out); (case side5 => repeat (first | exact (Kd.C_below HR0_5.out (bg_ HB.out GE254.out)) | (with_reducible refine Kd.C_alloc ?_ _) | (with_reducible refine Kd.C_drewN ?_ _) | (with_reducible refine Kd.C_drew ?_))); (case side6 => exact HC0_5.out); rintro e w26 ⟨rfl, hb⟩; have n0_ := Aside0.mk (blk_below (g := gb254) (o := .cells #[.string a0_0, .slice A0_1 l0_1.length c0_1, .slice A0_2 l0_2.length c0_2, .int .i64 a0_3, .int .i64 a0_4, .slice A0_5 l0_5.length c0_5] 29 (0, 0)) (by repeat first | exact BK254.out | refine blk_drewN ?_ _ | refine blk_drew ?_ | refine blk_alloc ?_ _) hb); have n1_ := Aside0.mk (below_step (bg_ HB.out GE254.out) hb); clear BK254; clear HB; have BK254 := n0_; have HB := n1_; clear n0_ n1_; (try clear hb); (try clear hb2); (try clear hk); (try clear hi)))
       go_meet
       case rel => exact ⟨_, (true), sv_, H', ⟨by first | omega | exact Nat.le_refl _⟩, ⟨by (with_reducible repeat (first | refine blk_drewN ?_ _ | refine blk_drew ?_ | refine blk_alloc ?_ _)); exact BK254.out⟩, ⟨bg_ HB.out GE254.out⟩⟩
    ·replace c9 := Bool.eq_false_iff.mpr c9
     subst c9
     have H1 : (impl_ValidRaga.j0 k true a0_0 l0_1 l0_2 a0_3 a0_4 l0_5) = some r := by rw [if_neg (show ¬ (false = true) by decide)] at H; exact H
     clear H; have H := H1; clear H1
     have H' := Aside0.mk H
     clear H
     have hcz27_0 : w3.cell? ⟨gb254, 0, none⟩ = some (.string a0_0) := (blk_cell BK254.out 0).trans rfl
     have hcz27_1 : w3.cell? ⟨gb254, 1, none⟩ = some (.slice A0_1 l0_1.length c0_1) := (blk_cell BK254.out 1).trans rfl
     have hcz27_2 : w3.cell? ⟨gb254, 2, none⟩ = some (.slice A0_2 l0_2.length c0_2) := (blk_cell BK254.out 2).trans rfl
     have hcz27_3 : w3.cell? ⟨gb254, 3, none⟩ = some (.int .i64 a0_3) := (blk_cell BK254.out 3).trans rfl
     have hcz27_4 : w3.cell? ⟨gb254, 4, none⟩ = some (.int .i64 a0_4) := (blk_cell BK254.out 4).trans rfl
     have hcz27_5 : w3.cell? ⟨gb254, 5, none⟩ = some (.slice A0_5 l0_5.length c0_5) := (blk_cell BK254.out 5).trans rfl
     have hfz27_0 := blk_frozen BK254.out 0; have hfz27_1 := blk_frozen BK254.out 1; have hfz27_2 := blk_frozen BK254.out 2; have hfz27_3 := blk_frozen BK254.out 3; have hfz27_4 := blk_frozen BK254.out 4; have hfz27_5 := blk_frozen BK254.out 5
     go_wp2_with (first | ((with_reducible refine gate_callee (f := 113) rfl ?_); refine goesL_ (some 7) rfl rfl Try.func113 (by kernel_rfl) rfl #[.string a0_0] rfl av_ ?_; (with_reducible refine (impl_IsName.calls k a0_0 true _ A4.out).mono ?_); rintro e w' ⟨rfl, ⟨nd, rfl⟩⟩; refine ⟨_, rfl, ?_⟩) | (go_at_call 114; (with_reducible refine (impl_ValidScale.calls k _ _ l0_1 true _ ?side1 ?side2 A6.out).mono ?_); (case side1 => repeat (first | exact (Kd.C_below HR0_1.out (bg_ HB.out GE254.out)) | (with_reducible refine Kd.C_alloc ?_ _) | (with_reducible refine Kd.C_drewN ?_ _) | (with_reducible refine Kd.C_drew ?_))); (case side2 => exact HC0_1.out); rintro e w' ⟨rfl, ⟨nd, rfl⟩⟩) | (go_at_call 114; (with_reducible refine (impl_ValidScale.calls k _ _ l0_2 false _ ?side1 ?side2 A8.out).mono ?_); (case side1 => repeat (first | exact (Kd.C_below HR0_2.out (bg_ HB.out GE254.out)) | (with_reducible refine Kd.C_alloc ?_ _) | (with_reducible refine Kd.C_drewN ?_ _) | (with_reducible refine Kd.C_drew ?_))); (case side2 => exact HC0_2.out); rintro e w' ⟨rfl, ⟨nd, rfl⟩⟩))
     go_meet
     case rel => exact ⟨_, (true), sv_, H', ⟨by first | omega | exact Nat.le_refl _⟩, ⟨by (with_reducible repeat (first | refine blk_drewN ?_ _ | refine blk_drew ?_ | refine blk_alloc ?_ _)); exact BK254.out⟩, ⟨bg_ HB.out GE254.out⟩⟩
   ·replace c7 := Bool.eq_false_iff.mpr c7
    subst c7
    have H1 : (impl_ValidRaga.j0 k true a0_0 l0_1 l0_2 a0_3 a0_4 l0_5) = some r := by rw [if_neg (show ¬ (false = true) by decide)] at H; exact H
    clear H; have H := H1; clear H1
    have H' := Aside0.mk H
    clear H
    have hcz28_0 : w3.cell? ⟨gb254, 0, none⟩ = some (.string a0_0) := (blk_cell BK254.out 0).trans rfl
    have hcz28_1 : w3.cell? ⟨gb254, 1, none⟩ = some (.slice A0_1 l0_1.length c0_1) := (blk_cell BK254.out 1).trans rfl
    have hcz28_2 : w3.cell? ⟨gb254, 2, none⟩ = some (.slice A0_2 l0_2.length c0_2) := (blk_cell BK254.out 2).trans rfl
    have hcz28_3 : w3.cell? ⟨gb254, 3, none⟩ = some (.int .i64 a0_3) := (blk_cell BK254.out 3).trans rfl
    have hcz28_4 : w3.cell? ⟨gb254, 4, none⟩ = some (.int .i64 a0_4) := (blk_cell BK254.out 4).trans rfl
    have hcz28_5 : w3.cell? ⟨gb254, 5, none⟩ = some (.slice A0_5 l0_5.length c0_5) := (blk_cell BK254.out 5).trans rfl
    have hfz28_0 := blk_frozen BK254.out 0; have hfz28_1 := blk_frozen BK254.out 1; have hfz28_2 := blk_frozen BK254.out 2; have hfz28_3 := blk_frozen BK254.out 3; have hfz28_4 := blk_frozen BK254.out 4; have hfz28_5 := blk_frozen BK254.out 5
    go_wp2_with (first | ((with_reducible refine gate_callee (f := 113) rfl ?_); refine goesL_ (some 7) rfl rfl Try.func113 (by kernel_rfl) rfl #[.string a0_0] rfl av_ ?_; (with_reducible refine (impl_IsName.calls k a0_0 true _ A4.out).mono ?_); rintro e w' ⟨rfl, ⟨nd, rfl⟩⟩; refine ⟨_, rfl, ?_⟩) | (go_at_call 114; (with_reducible refine (impl_ValidScale.calls k _ _ l0_1 false _ ?side1 ?side2 A6.out).mono ?_); (case side1 => repeat (first | exact (Kd.C_below HR0_1.out (bg_ HB.out GE254.out)) | (with_reducible refine Kd.C_alloc ?_ _) | (with_reducible refine Kd.C_drewN ?_ _) | (with_reducible refine Kd.C_drew ?_))); (case side2 => exact HC0_1.out); rintro e w' ⟨rfl, ⟨nd, rfl⟩⟩))
    go_meet
    case rel => exact ⟨_, (true), sv_, H', ⟨by first | omega | exact Nat.le_refl _⟩, ⟨by (with_reducible repeat (first | refine blk_drewN ?_ _ | refine blk_drew ?_ | refine blk_alloc ?_ _)); exact BK254.out⟩, ⟨bg_ HB.out GE254.out⟩⟩
  ·replace c5 := Bool.eq_false_iff.mpr c5
   subst c5
   have H1 : (impl_ValidRaga.j0 k true a0_0 l0_1 l0_2 a0_3 a0_4 l0_5) = some r := by rw [if_neg (show ¬ (false = true) by decide)] at H; exact H
   clear H
   have H := H1
   clear H1
   have H' := Aside0.mk H
   clear H
   have hcz29_0 : w3.cell? ⟨gb254, 0, none⟩ = some (.string a0_0) := (blk_cell BK254.out 0).trans rfl
   have hcz29_1 : w3.cell? ⟨gb254, 1, none⟩ = some (.slice A0_1 l0_1.length c0_1) := (blk_cell BK254.out 1).trans rfl
   have hcz29_2 : w3.cell? ⟨gb254, 2, none⟩ = some (.slice A0_2 l0_2.length c0_2) := (blk_cell BK254.out 2).trans rfl
   have hcz29_3 : w3.cell? ⟨gb254, 3, none⟩ = some (.int .i64 a0_3) := (blk_cell BK254.out 3).trans rfl
   have hcz29_4 : w3.cell? ⟨gb254, 4, none⟩ = some (.int .i64 a0_4) := (blk_cell BK254.out 4).trans rfl
   have hcz29_5 : w3.cell? ⟨gb254, 5, none⟩ = some (.slice A0_5 l0_5.length c0_5) := (blk_cell BK254.out 5).trans rfl
   have hfz29_0 := blk_frozen BK254.out 0
   have hfz29_1 := blk_frozen BK254.out 1
   have hfz29_2 := blk_frozen BK254.out 2
   have hfz29_3 := blk_frozen BK254.out 3
   have hfz29_4 := blk_frozen BK254.out 4
   have hfz29_5 := blk_frozen BK254.out 5
   go_wp2_with (first | ((with_reducible refine gate_callee (f := 113) rfl ?_); refine goesL_ (some 7) rfl rfl Try.func113 (by kernel_rfl) rfl #[.string a0_0] rfl av_ ?_; (with_reducible refine (impl_IsName.calls k a0_0 false _ A4.out).mono ?_); rintro e w' ⟨rfl, ⟨nd, rfl⟩⟩; refine ⟨_, rfl, ?_⟩))
   go_meet
   case rel => exact ⟨_, (true), sv_, H', ⟨by first | omega | exact Nat.le_refl _⟩, ⟨by (with_reducible repeat (first | refine blk_drewN ?_ _ | refine blk_drew ?_ | refine blk_alloc ?_ _)); exact BK254.out⟩, ⟨bg_ HB.out GE254.out⟩⟩
 case rest =>
  clear HC2
  (try clear c1); (try clear p2); (try clear c5); (try clear c6); (try clear c7); (try clear c9); (try clear c10); (try clear c10b0); (try clear c10b1); (try clear c11); (try clear c13); (try clear c15); (try clear hcz11_0); (try clear hcz11_1); (try clear hcz11_2); (try clear hcz11_3); (try clear hcz11_4); (try clear hcz11_5); (try clear hcz16_0); (try clear hcz16_1); (try clear hcz16_2); (try clear hcz16_3); (try clear hcz16_4); (try clear hcz16_5); (try clear hcz18_0); (try clear hcz18_1); (try clear hcz18_2); (try clear hcz18_3); (try clear hcz18_4); (try clear hcz18_5); (try clear hcz20_0); (try clear hcz20_1); (try clear hcz20_2); (try clear hcz20_3); (try clear hcz20_4); (try clear hcz20_5); (try clear hcz21_0); (try clear hcz21_1); (try clear hcz21_2); (try clear hcz21_3); (try clear hcz21_4); (try clear hcz21_5); (try clear hcz23_0); (try clear hcz23_1); (try clear hcz23_2); (try clear hcz23_3); (try clear hcz23_4); (try clear hcz23_5); (try clear hcz25_0); (try clear hcz25_1); (try clear hcz25_2); (try clear hcz25_3); (try clear hcz25_4); (try clear hcz25_5); (try clear hcz27_0); (try clear hcz27_1); (try clear hcz27_2); (try clear hcz27_3); (try clear hcz27_4); (try clear hcz27_5); (try clear hcz28_0); (try clear hcz28_1); (try clear hcz28_2); (try clear hcz28_3); (try clear hcz28_4); (try clear hcz28_5); (try clear hcz29_0); (try clear hcz29_1); (try clear hcz29_2); (try clear hcz29_3); (try clear hcz29_4); (try clear hcz29_5); (try clear hfz11_0); (try clear hfz11_1); (try clear hfz11_2); (try clear hfz11_3); (try clear hfz11_4); (try clear hfz11_5); (try clear hfz16_0); (try clear hfz16_1); (try clear hfz16_2); (try clear hfz16_3); (try clear hfz16_4); (try clear hfz16_5); (try clear hfz18_0); (try clear hfz18_1); (try clear hfz18_2); (try clear hfz18_3); (try clear hfz18_4); (try clear hfz18_5); (try clear hfz20_0); (try clear hfz20_1); (try clear hfz20_2); (try clear hfz20_3); (try clear hfz20_4); (try clear hfz20_5); (try clear hfz21_0); (try clear hfz21_1); (try clear hfz21_2); (try clear hfz21_3); (try clear hfz21_4); (try clear hfz21_5); (try clear hfz23_0); (try clear hfz23_1); (try clear hfz23_2); (try clear hfz23_3); (try clear hfz23_4); (try clear hfz23_5); (try clear hfz25_0); (try clear hfz25_1); (try clear hfz25_2); (try clear hfz25_3); (try clear hfz25_4); (try clear hfz25_5); (try clear hfz27_0); (try clear hfz27_1); (try clear hfz27_2); (try clear hfz27_3); (try clear hfz27_4); (try clear hfz27_5); (try clear hfz28_0); (try clear hfz28_1); (try clear hfz28_2); (try clear hfz28_3); (try clear hfz28_4); (try clear hfz28_5); (try clear hfz29_0); (try clear hfz29_1); (try clear hfz29_2); (try clear hfz29_3); (try clear hfz29_4); (try clear hfz29_5)
  obtain ⟨kq, x47_1, rfl, HA, HJ1, BK254, HB⟩ := hcut
  cases kq with
  | zero => exact absurd HA.out (by simp [impl_ValidRaga.j0])
  | succ kj1 =>
   have H := HA.out
   clear HA
   simp only [impl_ValidRaga.j0] at H
   by_cases c30 : x47_1 = true
   ·subst c30
    have H1 : (some false) = some r := by rw [if_pos rfl] at H; exact H
    clear H; have H := H1; clear H1
    obtain rfl := Option.some.inj H
    go_wp2
    go_ret
    exact ⟨by first | rfl | (simp [errW_none, errW_some] <;> rfl) | (simp [*, errW_none, errW_some] <;> rfl), bg_ HB.out GE254.out⟩
   ·replace c30 := Bool.eq_false_iff.mpr c30
    subst c30
    have H1 : (impl_ValidRaga.l0 kj1 l0_5 (l0_5.length : Int) 0 a0_0 l0_1 l0_2 a0_3 a0_4 l0_5) = some r := by rw [if_neg (show ¬ (false = true) by decide)] at H; exact H
    clear H; have H := H1; clear H1
    have H' := Aside0.mk H
    clear H
    have hcz31_0 : wc.cell? ⟨gb254, 0, none⟩ = some (.string a0_0) := (blk_cell BK254.out 0).trans rfl
    have hcz31_1 : wc.cell? ⟨gb254, 1, none⟩ = some (.slice A0_1 l0_1.length c0_1) := (blk_cell BK254.out 1).trans rfl
    have hcz31_2 : wc.cell? ⟨gb254, 2, none⟩ = some (.slice A0_2 l0_2.length c0_2) := (blk_cell BK254.out 2).trans rfl
    have hcz31_3 : wc.cell? ⟨gb254, 3, none⟩ = some (.int .i64 a0_3) := (blk_cell BK254.out 3).trans rfl
    have hcz31_4 : wc.cell? ⟨gb254, 4, none⟩ = some (.int .i64 a0_4) := (blk_cell BK254.out 4).trans rfl
    have hcz31_5 : wc.cell? ⟨gb254, 5, none⟩ = some (.slice A0_5 l0_5.length c0_5) := (blk_cell BK254.out 5).trans rfl
    have hfz31_0 := blk_frozen BK254.out 0; have hfz31_1 := blk_frozen BK254.out 1; have hfz31_2 := blk_frozen BK254.out 2; have hfz31_3 := blk_frozen BK254.out 3; have hfz31_4 := blk_frozen BK254.out 4; have hfz31_5 := blk_frozen BK254.out 5
    go_wp2
    go_loopg [51] kj1 (fun kq v51 w' => ∃ (x51_2 : Int), v51 = .int .i64 x51_2 ∧ Aside0 (impl_ValidRaga.l0 kq l0_5 (l0_5.length : Int) x51_2 a0_0 l0_1 l0_2 a0_3 a0_4 l0_5 = some r) ∧ Aside0 (kq ≤ kj1) ∧ Aside0 (w'.heap[gb254]? = some (.cells #[.string a0_0, (.slice A0_1 l0_1.length c0_1), (.slice A0_2 l0_2.length c0_2), .int .i64 a0_3, .int .i64 a0_4, (.slice A0_5 l0_5.length c0_5)] 29 (0, 0))) ∧ Aside0 (Below w.heap.size w w'))
    case atStart => exact ⟨(0), sv_, H', ⟨Nat.le_refl _⟩, ⟨by (with_reducible repeat (first | refine blk_drewN ?_ _ | refine blk_drew ?_ | refine blk_alloc ?_ _)); exact BK254.out⟩, ⟨bg_ HB.out GE254.out⟩⟩
    case round =>
     clear H'
     (try clear c1); (try clear p2); (try clear c3); (try clear c5); (try clear c6); (try clear c7); (try clear c9); (try clear c10); (try clear c10b0); (try clear c10b1); (try clear c11); (try clear c13); (try clear c15); (try clear c30); (try clear hcz11_0); (try clear hcz11_1); (try clear hcz11_2); (try clear hcz11_3); (try clear hcz11_4); (try clear hcz11_5); (try clear hcz16_0); (try clear hcz16_1); (try clear hcz16_2); (try clear hcz16_3); (try clear hcz16_4); (try clear hcz16_5); (try clear hcz18_0); (try clear hcz18_1); (try clear hcz18_2); (try clear hcz18_3); (try clear hcz18_4); (try clear hcz18_5); (try clear hcz20_0); (try clear hcz20_1); (try clear hcz20_2); (try clear hcz20_3); (try clear hcz20_4); (try clear hcz20_5); (try clear hcz21_0); (try clear hcz21_1); (try clear hcz21_2); (try clear hcz21_3); (try clear hcz21_4); (try clear hcz21_5); (try clear hcz23_0); (try clear hcz23_1); (try clear hcz23_2); (try clear hcz23_3); (try clear hcz23_4); (try clear hcz23_5); (try clear hcz25_0); (try clear hcz25_1); (try clear hcz25_2); (try clear hcz25_3); (try clear hcz25_4); (try clear hcz25_5); (try clear hcz27_0); (try clear hcz27_1); (try clear hcz27_2); (try clear hcz27_3); (try clear hcz27_4); (try clear hcz27_5); (try clear hcz28_0); (try clear hcz28_1); (try clear hcz28_2); (try clear hcz28_3); (try clear hcz28_4); (try clear hcz28_5); (try clear hcz29_0); (try clear hcz29_1); (try clear hcz29_2); (try clear hcz29_3); (try clear hcz29_4); (try clear hcz29_5); (try clear hcz31_0); (try clear hcz31_1); (try clear hcz31_2); (try clear hcz31_3); (try clear hcz31_4); (try clear hcz31_5); (try clear hfz11_0); (try clear hfz11_1); (try clear hfz11_2); (try clear hfz11_3); (try clear hfz11_4); (try clear hfz11_5); (try clear hfz16_0); (try clear hfz16_1); (try clear hfz16_2); (try clear hfz16_3); (try clear hfz16_4); (try clear hfz16_5); (try clear hfz18_0); (try clear hfz18_1); (try clear hfz18_2); (try clear hfz18_3); (try clear hfz18_4); (try clear hfz18_5); (try clear hfz20_0); (try clear hfz20_1); (try clear hfz20_2); (try clear hfz20_3); (try clear hfz20_4); (try clear hfz20_5); (try clear hfz21_0); (try clear hfz21_1); (try clear hfz21_2); (try clear hfz21_3); (try clear hfz21_4); (try clear hfz21_5); (try clear hfz23_0); (try clear hfz23_1); (try clear hfz23_2); (try clear hfz23_3); (try clear hfz23_4); (try clear hfz23_5); (try clear hfz25_0); (try clear hfz25_1); (try clear hfz25_2); (try clear hfz25_3); (try clear hfz25_4); (try clear hfz25_5); (try clear hfz27_0); (try clear hfz27_1); (try clear hfz27_2); (try clear hfz27_3); (try clear hfz27_4); (try clear hfz27_5); (try clear hfz28_0); (try clear hfz28_1); (try clear hfz28_2); (try clear hfz28_3); (try clear hfz28_4); (try clear hfz28_5); (try clear hfz29_0); (try clear hfz29_1); (try clear hfz29_2); (try clear hfz29_3); (try clear hfz29_4); (try clear hfz29_5); (try clear hfz31_0); (try clear hfz31_1); (try clear hfz31_2); (try clear hfz31_3); (try clear hfz31_4); (try clear hfz31_5); (try clear p2)
     obtain ⟨x51_2, rfl, HA, HK2, BK254, HB⟩ := hrel
     cases gk with
     | zero => exact absurd HA.out (by simp [impl_ValidRaga.l0])
     | succ k2 =>
      have H := HA.out; clear HA
      simp only [impl_ValidRaga.l0] at H
      by_cases c32 : x51_2 < (l0_5.length : Int)
      ·rw [if_pos c32] at H
       have c32b0 : decide (x51_2 < (l0_5.length : Int)) = true := decide_eq_true c32
       clear c32
       by_cases c33 : 0 ≤ x51_2
       ·rw [if_pos c33] at H
        have c33b0 : decide (0 ≤ x51_2) = true := decide_eq_true c33
        clear c33
        by_cases c34 : x51_2 < (l0_5.length : Int)
        ·rw [if_pos c34] at H
         have c34b0 : decide (x51_2 < (l0_5.length : Int)) = true := decide_eq_true c34
         clear c34
         by_cases c35 : ((rd_L1 l0_5 x51_2).length : Int) = 2
         ·rw [if_pos c35] at H
          have c35b0 : (((rd_L1 l0_5 x51_2).length : Int) == 2) = true := beq_iff_eq.mpr c35
          have c35b1 : (((rd_L1 l0_5 x51_2).length : Int) != 2) = false := bne_eq_false_iff_eq.mpr c35
          clear c35
          by_cases c36 : 0 < ((rd_L1 l0_5 x51_2).length : Int)
          ·rw [if_pos c36] at H
           have c36b0 : decide (0 < ((rd_L1 l0_5 x51_2).length : Int)) = true := decide_eq_true c36
           have c36b1 : decide (0 < (rd_L1 l0_5 x51_2).length) = true := decide_eq_true (by omega)
           clear c36
           replace H := Option.bind_eq_some_iff.mp H
           obtain ⟨t262, A370, H⟩ := H
           replace H : (if t262 = true then (if 1 < ((rd_L1 l0_5 x51_2).length : Int) then ((impl_toneOk.f (rd (rd_L1 l0_5 x51_2) 1)).bind fun t264 => (if t264 = true then (if (rd (rd_L1 l0_5 x51_2) 0) = (rd (rd_L1 l0_5 x51_2) 1) then (some false) else (if x51_2 > 0 then (if 0 ≤ (wrap64 (x51_2 - 1)) then (if (wrap64 (x51_2 - 1)) < (l0_5.length : Int) then ((slices_Compare_int64_int64.f k2 (rd_L1 l0_5 (wrap64 (x51_2 - 1))) (rd_L1 l0_5 x51_2)).bind fun t268 => (if t268 ≥ 0 then (some false) else (impl_ValidRaga.l0 k2 l0_5 (l0_5.length : Int) (wrap64 (x51_2 + 1)) a0_0 l0_1 l0_2 a0_3 a0_4 l0_5))) else (none)) else (none)) else (impl_ValidRaga.l0 k2 l0_5 (l0_5.length : Int) (wrap64 (x51_2 + 1)) a0_0 l0_1 l0_2 a0_3 a0_4 l0_5))) else (some false))) else (none)) else (some false)) = some r := H
           have A37 := Aside0.mk A370; clear A370
           by_cases c38 : t262 = true
           ·subst c38
            have H1 : (if 1 < ((rd_L1 l0_5 x51_2).length : Int) then ((impl_toneOk.f (rd (rd_L1 l0_5 x51_2) 1)).bind fun t264 => (if t264 = true then (if (rd (rd_L1 l0_5 x51_2) 0) = (rd (rd_L1 l0_5 x51_2) 1) then (some false) else (if x51_2 > 0 then (if 0 ≤ (wrap64 (x51_2 - 1)) then (if (wrap64 (x51_2 - 1)) < (l0_5.length : Int) then ((slices_Compare_int64_int64.f k2 (rd_L1 l0_5 (wrap64 (x51_2 - 1))) (rd_L1 l0_5 x51_2)).bind fun t268 => (if t268 ≥ 0 then (some false) else (impl_ValidRaga.l0 k2 l0_5 (l0_5.length : Int) (wrap64 (x51_2 + 1)) a0_0 l0_1 l0_2 a0_3 a0_4 l0_5))) else (none)) else (none)) else (impl_ValidRaga.l0 k2 l0_5 (l0_5.length : Int) (wrap64 (x51_2 + 1)) a0_0 l0_1 l0_2 a0_3 a0_4 l0_5))) else (some false))) else (none)) = some r := by rw [if_pos rfl] at H; exact H
            clear H; have H := H1; clear H1
            by_cases c39 : 1 < ((rd_L1 l0_5 x51_2).length : Int)
            ·rw [if_pos c39] at H
             have c39b0 : decide (1 < ((rd_L1 l0_5 x51_2).length : Int)) = true := decide_eq_true c39
             have c39b1 : decide (1 < (rd_L1 l0_5 x51_2).length) = true := decide_eq_true (by omega)
             clear c39
             replace H := Option.bind_eq_some_iff.mp H
             obtain ⟨t264, A400, H⟩ := H
             replace H : (if t264 = true then (if (rd (rd_L1 l0_5 x51_2) 0) = (rd (rd_L1 l0_5 x51_2) 1) then (some false) else (if x51_2 > 0 then (if 0 ≤ (wrap64 (x51_2 - 1)) then (if (wrap64 (x51_2 - 1)) < (l0_5.length : Int) then ((slices_Compare_int64_int64.f k2 (rd_L1 l0_5 (wrap64 (x51_2 - 1))) (rd_L1 l0_5 x51_2)).bind fun t268 => (if t268 ≥ 0 then (some false) else (impl_ValidRaga.l0 k2 l0_5 (l0_5.length : Int) (wrap64 (x51_2 + 1)) a0_0 l0_1 l0_2 a0_3 a0_4 l0_5))) else (none)) else (none)) else (impl_ValidRaga.l0 k2 l0_5 (l0_5.length : Int) (wrap64 (x51_2 + 1)) a0_0 l0_1 l0_2 a0_3 a0_4 l0_5))) else (some false)) = some r := H
             have A40 := Aside0.mk A400; clear A400
             by_cases c41 : t264 = true
             ·subst c41
              have H1 : (if (rd (rd_L1 l0_5 x51_2) 0) = (rd (rd_L1 l0_5 x51_2) 1) then (some false) else (if x51_2 > 0 then (if 0 ≤ (wrap64 (x51_2 - 1)) then (if (wrap64 (x51_2 - 1)) < (l0_5.length : Int) then ((slices_Compare_int64_int64.f k2 (rd_L1 l0_5 (wrap64 (x51_2 - 1))) (rd_L1 l0_5 x51_2)).bind fun t268 => (if t268 ≥ 0 then (some false) else (impl_ValidRaga.l0 k2 l0_5 (l0_5.length : Int) (wrap64 (x51_2 + 1)) a0_0 l0_1 l0_2 a0_3 a0_4 l0_5))) else (none)) else (none)) else (impl_ValidRaga.l0 k2 l0_5 (l0_5.length : Int) (wrap64 (x51_2 + 1)) a0_0 l0_1 l0_2 a0_3 a0_4 l0_5))) = some r := by rw [if_pos rfl] at H; exact H
              clear H; have H := H1; clear H1
              by_cases c42 : (rd (rd_L1 l0_5 x51_2) 0) = (rd (rd_L1 l0_5 x51_2) 1)
              ·rw [if_pos c42] at H
               have c42b0 : ((rd (rd_L1 l0_5 x51_2) 0) == (rd (rd_L1 l0_5 x51_2) 1)) = true := beq_iff_eq.mpr c42
               have c42b1 : ((rd (rd_L1 l0_5 x51_2) 0) != (rd (rd_L1 l0_5 x51_2) 1)) = false := bne_eq_false_iff_eq.mpr c42
               clear c42
               obtain rfl := Option.some.inj H
               have p260 : 0 ≤ (x51_2 : Int) := da_
               have q260 : x51_2 < (l0_5.length : Int) := da_
               obtain ⟨ad260, A260_0, c260_0, e260, hx260_0, hl260_0, hi260_0⟩ := at_L1 HR0_5.out x51_2 p260 q260; cases e260
               replace hx260_0 := (wc_ HB.out hx260_0 :)
               have HR260_0 := Aside0.mk hi260_0; have HC260_0 := Aside0.mk hl260_0; clear hi260_0 hl260_0; replace p260 := eq_true p260; replace q260 := eq_true q260
               try go_wp2
               have n0_ := Aside0.mk (blk_drew BK254.out)
               have n1_ := Aside0.mk (below_drew1 HB.out)
               clear BK254; clear HB; have BK254 := n0_; have HB := n1_; clear n0_ n1_
               have p261 : 0 ≤ (0 : Int) := (by omega)
               have q261 : 0 < ((rd_L1 l0_5 x51_2).length : Int) := da_
               obtain ⟨ad261, e261, hx261_0⟩ := Kd.at_int HR260_0.out 0 p261 q261; have hw261_0 := hx261_0; (try rw [show ((0 : Int)).toNat = 0 from rfl] at hw261_0); (try rw [show 0 * 1 = 0 from rfl] at hw261_0); (try rw [Addr.add_zero'] at hw261_0); cases e261
               have qi261 : (0 < (rd_L1 l0_5 x51_2).length) = True := eq_true (by omega)
               (try rw [show ((0 : Int)).toNat = 0 from rfl] at hx261_0); (try rw [Addr.add_zero'] at hx261_0)
               replace hx261_0 := (wc_ HB.out hx261_0 :)
               replace p261 := eq_true p261; replace q261 := eq_true q261
               have p263 : 0 ≤ (1 : Int) := (by omega)
               have q263 : 1 < ((rd_L1 l0_5 x51_2).length : Int) := da_
               obtain ⟨ad263, e263, hx263_0⟩ := Kd.at_int HR260_0.out 1 p263 q263; have hw263_0 := hx263_0; (try rw [show ((1 : Int)).toNat = 1 from rfl] at hw263_0); (try rw [show 1 * 1 = 1 from rfl] at hw263_0); (try simp only [Nat.reduceMul, Nat.reduceEqDiff, Go.Addr.add, ↓reduceIte] at hw263_0); obtain rfl : ad261 = ad263 := (by injection e263); (try simp only [show (1 : Int).toNat = 1 from rfl, Nat.reduceMul, Nat.reduceEqDiff, Go.Addr.add, ↓reduceIte] at hx263_0)
               have qi263 : (1 < (rd_L1 l0_5 x51_2).length) = True := eq_true (by omega)
               (try rw [show ((1 : Int)).toNat = 1 from rfl] at hx263_0)
               replace hx263_0 := (wc_ HB.out hx263_0 :)
               replace p263 := eq_true p263; replace q263 := eq_true q263
               have p265 : 0 ≤ (0 : Int) := (by omega)
               have q265 : 0 < ((rd_L1 l0_5 x51_2).length : Int) := da_
               obtain ⟨ad265, e265, hx265_0⟩ := Kd.at_int HR260_0.out 0 p265 q265; have hw265_0 := hx265_0; (try rw [show ((0 : Int)).toNat = 0 from rfl] at hw265_0); (try rw [show 0 * 1 = 0 from rfl] at hw265_0); (try rw [Addr.add_zero'] at hw265_0); obtain rfl : ad261 = ad265 := (by injection e265)
               have qi265 : (0 < (rd_L1 l0_5 x51_2).length) = True := eq_true (by omega)
               (try rw [show ((0 : Int)).toNat = 0 from rfl] at hx265_0); (try rw [Addr.add_zero'] at hx265_0)
               replace hx265_0 := (wc_ HB.out hx265_0 :)
               replace p265 := eq_true p265; replace q265 := eq_true q265
               have p266 : 0 ≤ (1 : Int) := (by omega)
               have q266 : 1 < ((rd_L1 l0_5 x51_2).length : Int) := da_
               obtain ⟨ad266, e266, hx266_0⟩ := Kd.at_int HR260_0.out 1 p266 q266; have hw266_0 := hx266_0; (try rw [show ((1 : Int)).toNat = 1 from rfl] at hw266_0); (try rw [show 1 * 1 = 1 from rfl] at hw266_0); (try simp only [Nat.reduceMul, Nat.reduceEqDiff, Go.Addr.add, ↓reduceIte] at hw266_0); obtain rfl : ad261 = ad266 := (by injection e266); (try simp only [show (1 : Int).toNat = 1 from rfl, Nat.reduceMul, Nat.reduceEqDiff, Go.Addr.add, ↓reduceIte] at hx266_0)
               have qi266 : (1 < (rd_L1 l0_5 x51_2).length) = True := eq_true (by omega)
               (try rw [show ((1 : Int)).toNat = 1 from rfl] at hx266_0)
               replace hx266_0 := (wc_ HB.out hx266_0 :)
               replace p266 := eq_true p266; replace q266 := eq_true q266
               refine start_ (n := 41) (S := fun w' => w'.cell? ad261 = some (.int .i64 (rd (rd_L1 l0_5 x51_2) 0)) ∧ w'.cell? ⟨ad261.block, ad261.off + 1, none⟩ = some (.int .i64 (rd (rd_L1 l0_5 x51_2) 1)) ∧ w'.cell? ad261 = some (.int .i64 (rd (rd_L1 l0_5 x51_2) 0)) ∧ w'.cell? ⟨ad261.block, ad261.off + 1, none⟩ = some (.int .i64 (rd (rd_L1 l0_5 x51_2) 1))) (ds := []) impl_ValidRaga.K0 (by kernel_rfl) rfl rfl ⟨(wc_ HB.out hw261_0 :), (wc_ HB.out hw263_0 :), (wc_ HB.out hw265_0 :), (wc_ HB.out hw266_0 :)⟩ (fun hHeld => ?_); refine with_tabW impl_ValidRaga.tab6 impl_ValidRaga.bits6 (fun HT_ HW_ => ?_)
               generalize wr.drew = w43 at BK254 HB hx261_0 hx263_0 hx265_0 hx266_0 hHeld ⊢
               refine pu_ HT_ 0 56 impl_ValidRaga.K1 ?_; refine pu_ HT_ 1 57 impl_ValidRaga.K2 ?_; refine pu_ HT_ 2 58 impl_ValidRaga.K3 ?_; refine pu_ HT_ 3 59 impl_ValidRaga.K4 ?_; refine pu_ HT_ 4 60 impl_ValidRaga.K5 ?_; refine pu_ HT_ 5 61 impl_ValidRaga.K6 ?_; refine tk_ HT_ HW_ hHeld 6 62 impl_ValidRaga.K7 ?_
               refine one_ (i := 7) (N := some 63) impl_ValidRaga.K8 rfl rfl (one_of HT_.out (by kernel_rfl)) (by decide) (fun K hK => ?_)
               refine goes_ Try.func115 (by kernel_rfl) rfl #[.int .i64 (rd (rd_L1 l0_5 x51_2) 0)] (by rfl) rfl rfl av_ ?_
               with_reducible refine (impl_toneOk.calls (rd (rd_L1 l0_5 x51_2) 0) true _ A37.out).mono ?_
               rintro e w' ⟨rfl, ⟨nd, rfl⟩⟩
               refine ⟨_, rfl, ?_⟩
               refine hK.out _ _ ⟨(wc_ HB.out hw261_0 :), (wc_ HB.out hw263_0 :), (wc_ HB.out hw265_0 :), (wc_ HB.out hw266_0 :)⟩ (fun hHeld => ?_)
               clear hK K; refine norm_ (a' := ?_) ?_ ?_; rotate_left
               ·show Act.put _ (some 63) _ = _
                go_simp
                rfl
               refine pu_ HT_ 8 64 impl_ValidRaga.K9 ?_; refine pu_ HT_ 9 65 impl_ValidRaga.K10 ?_; refine pu_ HT_ 10 66 impl_ValidRaga.K11 ?_; refine pu_ HT_ 11 67 impl_ValidRaga.K12 ?_; refine pu_ HT_ 12 68 impl_ValidRaga.K13 ?_; refine tk_ HT_ HW_ hHeld 13 69 impl_ValidRaga.K14 ?_
               refine one_ (i := 14) (N := some 70) impl_ValidRaga.K15 rfl rfl (one_of HT_.out (by kernel_rfl)) (by decide) (fun K hK => ?_)
               refine goes_ Try.func115 (by kernel_rfl) rfl #[.int .i64 (rd (rd_L1 l0_5 x51_2) 1)] (by rfl) rfl rfl av_ ?_
               with_reducible refine (impl_toneOk.calls (rd (rd_L1 l0_5 x51_2) 1) true _ A40.out).mono ?_
               rintro e w' ⟨rfl, ⟨nd, rfl⟩⟩
               refine ⟨_, rfl, ?_⟩
               refine hK.out _ _ ⟨(wc_ HB.out hw261_0 :), (wc_ HB.out hw263_0 :), (wc_ HB.out hw265_0 :), (wc_ HB.out hw266_0 :)⟩ (fun hHeld => ?_)
               clear hK K; refine norm_ (a' := ?_) ?_ ?_; rotate_left
               ·show Act.put _ (some 70) _ = _
                go_simp
                rfl
               refine pu_ HT_ 15 71 impl_ValidRaga.K16 ?_; refine pu_ HT_ 16 72 impl_ValidRaga.K17 ?_; refine pu_ HT_ 17 73 impl_ValidRaga.K18 ?_; refine pu_ HT_ 18 74 impl_ValidRaga.K19 ?_; refine pu_ HT_ 19 75 impl_ValidRaga.K20 ?_; refine pu_ HT_ 21 77 impl_ValidRaga.K21 ?_; refine pu_ HT_ 22 78 impl_ValidRaga.K22 ?_; refine tk_ HT_ HW_ hHeld 20 76 impl_ValidRaga.K23 ?_; refine tk_ HT_ HW_ hHeld 23 79 impl_ValidRaga.K24 ?_; refine pu_ HT_ 24 80 impl_ValidRaga.K25 ?_; refine pu_ HT_ 25 81 impl_ValidRaga.K26 ?_; refine pu_ HT_ 26 82 impl_ValidRaga.K27 ?_; refine un_ HT_ 27 83 impl_ValidRaga.K28 ?_; refine un_ HT_ 28 84 impl_ValidRaga.K29 ?_; refine un_ HT_ 29 85 impl_ValidRaga.K30 ?_; refine un_ HT_ 30 86 impl_ValidRaga.K31 ?_; refine un_ HT_ 31 87 impl_ValidRaga.K32 ?_; refine un_ HT_ 32 88 impl_ValidRaga.K33 ?_; refine un_ HT_ 33 89 impl_ValidRaga.K34 ?_; refine un_ HT_ 34 90 impl_ValidRaga.K35 ?_; refine un_ HT_ 35 91 impl_ValidRaga.K36 ?_; refine un_ HT_ 36 92 impl_ValidRaga.K37 ?_; refine un_ HT_ 37 93 impl_ValidRaga.K38 ?_; refine un_ HT_ 38 94 impl_ValidRaga.K39 ?_; refine un_ HT_ 39 95 impl_ValidRaga.K40 ?_; refine pu_ HT_ 40 96 impl_ValidRaga.K41 ?_
               refine done_ (done_of HT_.out (by kernel_rfl)) ?_
               try go_wp2
               go_ret
               exact ⟨by first | rfl | (simp [errW_none, errW_some] <;> rfl) | (simp [*, errW_none, errW_some] <;> rfl), bg_ HB.out GE254.out⟩
              ·rw [if_neg c42] at H
               have c42b0 : ((rd (rd_L1 l0_5 x51_2) 0) == (rd (rd_L1 l0_5 x51_2) 1)) = false := beq_eq_false_iff_ne.mpr c42
               have c42b1 : ((rd (rd_L1 l0_5 x51_2) 0) != (rd (rd_L1 l0_5 x51_2) 1)) = true := bne_iff_ne.mpr c42
               by_cases c44 : x51_2 > 0
               ·rw [if_pos c44] at H
                have c44b0 : decide (0 < x51_2) = true := decide_eq_true c44
                clear c44
                obtain ⟨ji45, hji45⟩ : ∃ j_ : Int, (wrap64 (x51_2 - 1)) = j_ := ⟨_, rfl⟩
                replace H : (if 0 ≤ (ji45) then (if (ji45) < (l0_5.length : Int) then ((slices_Compare_int64_int64.f k2 (rd_L1 l0_5 (ji45)) (rd_L1 l0_5 x51_2)).bind fun t268 => (if t268 ≥ 0 then (some false) else (impl_ValidRaga.l0 k2 l0_5 (l0_5.length : Int) (wrap64 (x51_2 + 1)) a0_0 l0_1 l0_2 a0_3 a0_4 l0_5))) else (none)) else (none)) = some r := by first | (rw [hji45] at H; exact H) | (simp only [hji45] at H ⊢; exact H)
                (try rw [hji45] at A37); (try rw [hji45] at A40)
                have hji45w : (IntKind.i64.wrap (x51_2 - 1)) = ji45 := (i64_w _).trans hji45
                by_cases c46 : 0 ≤ (ji45)
                ·rw [if_pos c46] at H
                 have c46b0 : decide (0 ≤ (ji45)) = true := decide_eq_true c46
                 clear c46
                 by_cases c47 : (ji45) < (l0_5.length : Int)
                 ·rw [if_pos c47] at H
                  have c47b0 : decide ((ji45) < (l0_5.length : Int)) = true := decide_eq_true c47
                  clear c47
                  replace H := Option.bind_eq_some_iff.mp H
                  obtain ⟨t268, A480, H⟩ := H
                  replace H : (if t268 ≥ 0 then (some false) else (impl_ValidRaga.l0 k2 l0_5 (l0_5.length : Int) (wrap64 (x51_2 + 1)) a0_0 l0_1 l0_2 a0_3 a0_4 l0_5)) = some r := H
                  have A48 := Aside0.mk A480; clear A480
                  by_cases c49 : t268 ≥ 0
                  ·rw [if_pos c49] at H
                   have c49b0 : decide (0 ≤ t268) = true := decide_eq_true c49
                   clear c49
                   obtain rfl := Option.some.inj H
                   have p260 : 0 ≤ (x51_2 : Int) := da_
                   have q260 : x51_2 < (l0_5.length : Int) := da_
                   obtain ⟨ad260, A260_0, c260_0, e260, hx260_0, hl260_0, hi260_0⟩ := at_L1 HR0_5.out x51_2 p260 q260; cases e260
                   replace hx260_0 := (wc_ HB.out hx260_0 :)
                   have HR260_0 := Aside0.mk hi260_0; have HC260_0 := Aside0.mk hl260_0; clear hi260_0 hl260_0; replace p260 := eq_true p260; replace q260 := eq_true q260
                   try go_wp2
                   have n0_ := Aside0.mk (blk_drew BK254.out)
                   have n1_ := Aside0.mk (below_drew1 HB.out)
                   clear BK254; clear HB; have BK254 := n0_; have HB := n1_; clear n0_ n1_
                   have p261 : 0 ≤ (0 : Int) := (by omega)
                   have q261 : 0 < ((rd_L1 l0_5 x51_2).length : Int) := da_
                   obtain ⟨ad261, e261, hx261_0⟩ := Kd.at_int HR260_0.out 0 p261 q261; have hw261_0 := hx261_0; (try rw [show ((0 : Int)).toNat = 0 from rfl] at hw261_0); (try rw [show 0 * 1 = 0 from rfl] at hw261_0); (try rw [Addr.add_zero'] at hw261_0); cases e261
                   have qi261 : (0 < (rd_L1 l0_5 x51_2).length) = True := eq_true (by omega)
                   (try rw [show ((0 : Int)).toNat = 0 from rfl] at hx261_0); (try rw [Addr.add_zero'] at hx261_0)
                   replace hx261_0 := (wc_ HB.out hx261_0 :)
                   replace p261 := eq_true p261; replace q261 := eq_true q261
                   have p263 : 0 ≤ (1 : Int) := (by omega)
                   have q263 : 1 < ((rd_L1 l0_5 x51_2).length : Int) := da_
                   obtain ⟨ad263, e263, hx263_0⟩ := Kd.at_int HR260_0.out 1 p263 q263; have hw263_0 := hx263_0; (try rw [show ((1 : Int)).toNat = 1 from rfl] at hw263_0); (try rw [show 1 * 1 = 1 from rfl] at hw263_0); (try simp only [Nat.reduceMul, Nat.reduceEqDiff, Go.Addr.add, ↓reduceIte] at hw263_0); obtain rfl : ad261 = ad263 := (by injection e263); (try simp only [show (1 : Int).toNat = 1 from rfl, Nat.reduceMul, Nat.reduceEqDiff, Go.Addr.add, ↓reduceIte] at hx263_0)
                   have qi263 : (1 < (rd_L1 l0_5 x51_2).length) = True := eq_true (by omega)
                   (try rw [show ((1 : Int)).toNat = 1 from rfl] at hx263_0)
                   replace hx263_0 := (wc_ HB.out hx263_0 :)
                   replace p263 := eq_true p263; replace q263 := eq_true q263
                   have p265 : 0 ≤ (0 : Int) := (by omega)
                   have q265 : 0 < ((rd_L1 l0_5 x51_2).length : Int) := da_
                   obtain ⟨ad265, e265, hx265_0⟩ := Kd.at_int HR260_0.out 0 p265 q265; have hw265_0 := hx265_0; (try rw [show ((0 : Int)).toNat = 0 from rfl] at hw265_0); (try rw [show 0 * 1 = 0 from rfl] at hw265_0); (try rw [Addr.add_zero'] at hw265_0); obtain rfl : ad261 = ad265 := (by injection e265)
                   have qi265 : (0 < (rd_L1 l0_5 x51_2).length) = True := eq_true (by omega)
                   (try rw [show ((0 : Int)).toNat = 0 from rfl] at hx265_0); (try rw [Addr.add_zero'] at hx265_0)
                   replace hx265_0 := (wc_ HB.out hx265_0 :)
                   replace p265 := eq_true p265; replace q265 := eq_true q265
                   have p266 : 0 ≤ (1 : Int) := (by omega)
                   have q266 : 1 < ((rd_L1 l0_5 x51_2).length : Int) := da_
                   obtain ⟨ad266, e266, hx266_0⟩ := Kd.at_int HR260_0.out 1 p266 q266; have hw266_0 := hx266_0; (try rw [show ((1 : Int)).toNat = 1 from rfl] at hw266_0); (try rw [show 1 * 1 = 1 from rfl] at hw266_0); (try simp only [Nat.reduceMul, Nat.reduceEqDiff, Go.Addr.add, ↓reduceIte] at hw266_0); obtain rfl : ad261 = ad266 := (by injection e266); (try simp only [show (1 : Int).toNat = 1 from rfl, Nat.reduceMul, Nat.reduceEqDiff, Go.Addr.add, ↓reduceIte] at hx266_0)
                   have qi266 : (1 < (rd_L1 l0_5 x51_2).length) = True := eq_true (by omega)
                   (try rw [show ((1 : Int)).toNat = 1 from rfl] at hx266_0)
                   replace hx266_0 := (wc_ HB.out hx266_0 :)
                   replace p266 := eq_true p266; replace q266 := eq_true q266
                   have p267 : 0 ≤ ((ji45) : Int) := da_
                   have q267 : (ji45) < (l0_5.length : Int) := da_
                   obtain ⟨ad267, A267_0, c267_0, e267, hx267_0, hl267_0, hi267_0⟩ := at_L1 HR0_5.out (ji45) p267 q267; have hw267_0 := hx267_0; obtain rfl : ad260 = ad267 := (by injection e267)
                   replace hx267_0 := (wc_ HB.out hx267_0 :)
                   have HR267_0 := Aside0.mk hi267_0; have HC267_0 := Aside0.mk hl267_0; clear hi267_0 hl267_0; replace p267 := eq_true p267; replace q267 := eq_true q267
                   refine start_ (n := 41) (S := fun w' => w'.cell? ⟨gb254, 0, none⟩ = some (.string a0_0) ∧ w'.cell? ⟨gb254, 1, none⟩ = some (.slice A0_1 l0_1.length c0_1) ∧ w'.cell? ⟨gb254, 2, none⟩ = some (.slice A0_2 l0_2.length c0_2) ∧ w'.cell? ⟨gb254, 3, none⟩ = some (.int .i64 a0_3) ∧ w'.cell? ⟨gb254, 4, none⟩ = some (.int .i64 a0_4) ∧ w'.cell? ⟨gb254, 5, none⟩ = some (.slice (some ad260) l0_5.length c0_5) ∧ w'.cell? ad261 = some (.int .i64 (rd (rd_L1 l0_5 x51_2) 0)) ∧ w'.cell? ⟨ad261.block, ad261.off + 1, none⟩ = some (.int .i64 (rd (rd_L1 l0_5 x51_2) 1)) ∧ w'.cell? ad261 = some (.int .i64 (rd (rd_L1 l0_5 x51_2) 0)) ∧ w'.cell? ⟨ad261.block, ad261.off + 1, none⟩ = some (.int .i64 (rd (rd_L1 l0_5 x51_2) 1)) ∧ w'.cell? (ad260.add ((ji45)).toNat) = some (.slice A267_0 (rd_L1 l0_5 (ji45)).length c267_0)) (ds := []) impl_ValidRaga.K0 (by kernel_rfl) rfl rfl ⟨(blk_cell BK254.out 0).trans rfl, (blk_cell BK254.out 1).trans rfl, (blk_cell BK254.out 2).trans rfl, (blk_cell BK254.out 3).trans rfl, (blk_cell BK254.out 4).trans rfl, (blk_cell BK254.out 5).trans rfl, (wc_ HB.out hw261_0 :), (wc_ HB.out hw263_0 :), (wc_ HB.out hw265_0 :), (wc_ HB.out hw266_0 :), (wc_ HB.out hw267_0 :)⟩ (fun hHeld => ?_); refine with_tabW impl_ValidRaga.tab6 impl_ValidRaga.bits6 (fun HT_ HW_ => ?_)
                   generalize wr.drew = w50 at BK254 HB HR267_0 hx261_0 hx263_0 hx265_0 hx266_0 hx267_0 hHeld ⊢
                   refine pu_ HT_ 0 56 impl_ValidRaga.K1 ?_; refine pu_ HT_ 1 57 impl_ValidRaga.K2 ?_; refine pu_ HT_ 2 58 impl_ValidRaga.K3 ?_; refine pu_ HT_ 3 59 impl_ValidRaga.K4 ?_; refine pu_ HT_ 4 60 impl_ValidRaga.K5 ?_; refine pu_ HT_ 5 61 impl_ValidRaga.K6 ?_; refine tk_ HT_ HW_ hHeld 6 62 impl_ValidRaga.K7 ?_
                   refine one_ (i := 7) (N := some 63) impl_ValidRaga.K8 rfl rfl (one_of HT_.out (by kernel_rfl)) (by decide) (fun K hK => ?_)
                   refine goes_ Try.func115 (by kernel_rfl) rfl #[.int .i64 (rd (rd_L1 l0_5 x51_2) 0)] (by rfl) rfl rfl av_ ?_
                   with_reducible refine (impl_toneOk.calls (rd (rd_L1 l0_5 x51_2) 0) true _ A37.out).mono ?_
                   rintro e w' ⟨rfl, ⟨nd, rfl⟩⟩
                   refine ⟨_, rfl, ?_⟩
                   refine hK.out _ _ ⟨(blk_cell BK254.out 0).trans rfl, (blk_cell BK254.out 1).trans rfl, (blk_cell BK254.out 2).trans rfl, (blk_cell BK254.out 3).trans rfl, (blk_cell BK254.out 4).trans rfl, (blk_cell BK254.out 5).trans rfl, (wc_ HB.out hw261_0 :), (wc_ HB.out hw263_0 :), (wc_ HB.out hw265_0 :), (wc_ HB.out hw266_0 :), (wc_ HB.out hw267_0 :)⟩ (fun hHeld => ?_)
                   clear hK K; refine norm_ (a' := ?_) ?_ ?_; rotate_left
                   ·show Act.put _ (some 63) _ = _
                    go_simp
                    rfl
                   refine pu_ HT_ 8 64 impl_ValidRaga.K9 ?_; refine pu_ HT_ 9 65 impl_ValidRaga.K10 ?_; refine pu_ HT_ 10 66 impl_ValidRaga.K11 ?_; refine pu_ HT_ 11 67 impl_ValidRaga.K12 ?_; refine pu_ HT_ 12 68 impl_ValidRaga.K13 ?_; refine tk_ HT_ HW_ hHeld 13 69 impl_ValidRaga.K14 ?_
                   refine one_ (i := 14) (N := some 70) impl_ValidRaga.K15 rfl rfl (one_of HT_.out (by kernel_rfl)) (by decide) (fun K hK => ?_)
                   refine goes_ Try.func115 (by kernel_rfl) rfl #[.int .i64 (rd (rd_L1 l0_5 x51_2) 1)] (by rfl) rfl rfl av_ ?_
                   with_reducible refine (impl_toneOk.calls (rd (rd_L1 l0_5 x51_2) 1) true _ A40.out).mono ?_
                   rintro e w' ⟨rfl, ⟨nd, rfl⟩⟩
                   refine ⟨_, rfl, ?_⟩
                   refine hK.out _ _ ⟨(blk_cell BK254.out 0).trans rfl, (blk_cell BK254.out 1).trans rfl, (blk_cell BK254.out 2).trans rfl, (blk_cell BK254.out 3).trans rfl, (blk_cell BK254.out 4).trans rfl, (blk_cell BK254.out 5).trans rfl, (wc_ HB.out hw261_0 :), (wc_ HB.out hw263_0 :), (wc_ HB.out hw265_0 :), (wc_ HB.out hw266_0 :), (wc_ HB.out hw267_0 :)⟩ (fun hHeld => ?_)
                   clear hK K; refine norm_ (a' := ?_) ?_ ?_; rotate_left
                   ·show Act.put _ (some 70) _ = _
                    go_simp
                    rfl
                   refine pu_ HT_ 15 71 impl_ValidRaga.K16 ?_; refine pu_ HT_ 16 72 impl_ValidRaga.K17 ?_; refine pu_ HT_ 17 73 impl_ValidRaga.K18 ?_; refine pu_ HT_ 18 74 impl_ValidRaga.K19 ?_; refine pu_ HT_ 19 75 impl_ValidRaga.K20 ?_; refine pu_ HT_ 21 77 impl_ValidRaga.K21 ?_; refine pu_ HT_ 22 78 impl_ValidRaga.K22 ?_; refine tk_ HT_ HW_ hHeld 20 76 impl_ValidRaga.K23 ?_; refine tk_ HT_ HW_ hHeld 23 79 impl_ValidRaga.K24 ?_; refine pu_ HT_ 24 80 impl_ValidRaga.K25 ?_; refine pu_ HT_ 25 81 impl_ValidRaga.K26 ?_; refine pu_ HT_ 26 82 impl_ValidRaga.K27 ?_; refine pu_ HT_ 27 83 impl_ValidRaga.K28 ?_; refine pu_ HT_ 28 84 impl_ValidRaga.K29 ?_; refine pu_ HT_ 29 85 impl_ValidRaga.K30 ?_; refine pu_ HT_ 30 86 impl_ValidRaga.K31 ?_; refine pu_ HT_ 32 88 impl_ValidRaga.K42 ?_; refine pu_ HT_ 33 89 impl_ValidRaga.K43 ?_; refine pu_ HT_ 36 92 impl_ValidRaga.K44 ?_; refine tk_ HT_ HW_ hHeld 31 87 impl_ValidRaga.K45 ?_; refine pu_ HT_ 34 90 impl_ValidRaga.K46 ?_; refine tk_ HT_ HW_ hHeld 35 91 impl_ValidRaga.K37 ?_
                   refine one_ (i := 37) (N := some 93) impl_ValidRaga.K38 rfl rfl (one_of HT_.out (by kernel_rfl)) (by decide) (fun K hK => ?_)
                   refine goes_ Try.func116 (by kernel_rfl) rfl #[.slice A267_0 (rd_L1 l0_5 (ji45)).length c267_0, .slice (some ad261) (rd_L1 l0_5 x51_2).length c260_0] (by rfl) rfl rfl (by (try simp only [List.map_toArray, List.map_cons, List.map_nil]); first | done | (simp only [hji45]; rfl) | rfl | (simp only [List.length_drop, List.length_take]; rfl)) ?_
                   with_reducible refine (slices_Compare_int64_int64.calls k2 _ _ (rd_L1 l0_5 (ji45)) _ _ (rd_L1 l0_5 x51_2) t268 _ ?side1 ?side2 ?side3 ?side4 A48.out).mono ?_
                   (case side1 => repeat (first | exact (Kd.C_below HR267_0.out (bg_ HB.out GE254.out)) | (with_reducible refine Kd.C_alloc ?_ _) | (with_reducible refine Kd.C_drewN ?_ _) | (with_reducible refine Kd.C_drew ?_)))
                   (case side2 => exact HC267_0.out)
                   (case side3 => repeat (first | exact (Kd.C_below HR260_0.out (bg_ HB.out GE254.out)) | (with_reducible refine Kd.C_alloc ?_ _) | (with_reducible refine Kd.C_drewN ?_ _) | (with_reducible refine Kd.C_drew ?_)))
                   (case side4 => exact HC260_0.out)
                   rintro e w' ⟨rfl, ⟨nd, rfl⟩⟩
                   refine ⟨_, rfl, ?_⟩
                   refine hK.out _ _ ⟨(blk_cell BK254.out 0).trans rfl, (blk_cell BK254.out 1).trans rfl, (blk_cell BK254.out 2).trans rfl, (blk_cell BK254.out 3).trans rfl, (blk_cell BK254.out 4).trans rfl, (blk_cell BK254.out 5).trans rfl, (wc_ HB.out hw261_0 :), (wc_ HB.out hw263_0 :), (wc_ HB.out hw265_0 :), (wc_ HB.out hw266_0 :), (wc_ HB.out hw267_0 :)⟩ (fun hHeld => ?_)
                   clear hK K; refine norm_ (a' := ?_) ?_ ?_; rotate_left
                   ·show Act.put _ (some 93) _ = _
                    go_simp
                    rfl
                   refine pu_ HT_ 38 94 impl_ValidRaga.K39 ?_; refine pu_ HT_ 39 95 impl_ValidRaga.K40 ?_; refine pu_ HT_ 40 96 impl_ValidRaga.K41 ?_
                   refine done_ (done_of HT_.out (by kernel_rfl)) ?_
                   try go_wp2
                   go_ret
                   exact ⟨by first | rfl | (simp [errW_none, errW_some] <;> rfl) | (simp only [← hji45]; first | rfl | (simp [errW_none, errW_some] <;> rfl)) | (simp [*, errW_none, errW_some] <;> rfl), bg_ HB.out GE254.out⟩
                  ·rw [if_neg c49] at H
                   have c49b0 : decide (0 ≤ t268) = false := decide_eq_false c49
                   clear c49
                   have H' := Aside0.mk H
                   clear H
                   have p260 : 0 ≤ (x51_2 : Int) := da_
                   have q260 : x51_2 < (l0_5.length : Int) := da_
                   obtain ⟨ad260, A260_0, c260_0, e260, hx260_0, hl260_0, hi260_0⟩ := at_L1 HR0_5.out x51_2 p260 q260; cases e260
                   replace hx260_0 := (wc_ HB.out hx260_0 :)
                   have HR260_0 := Aside0.mk hi260_0; have HC260_0 := Aside0.mk hl260_0; clear hi260_0 hl260_0; replace p260 := eq_true p260; replace q260 := eq_true q260
                   try go_wp2
                   have n0_ := Aside0.mk (blk_drew BK254.out)
                   have n1_ := Aside0.mk (below_drew1 HB.out)
                   clear BK254; clear HB; have BK254 := n0_; have HB := n1_; clear n0_ n1_
                   have p261 : 0 ≤ (0 : Int) := (by omega)
                   have q261 : 0 < ((rd_L1 l0_5 x51_2).length : Int) := da_
                   obtain ⟨ad261, e261, hx261_0⟩ := Kd.at_int HR260_0.out 0 p261 q261; have hw261_0 := hx261_0; (try rw [show ((0 : Int)).toNat = 0 from rfl] at hw261_0); (try rw [show 0 * 1 = 0 from rfl] at hw261_0); (try rw [Addr.add_zero'] at hw261_0); cases e261
                   have qi261 : (0 < (rd_L1 l0_5 x51_2).length) = True := eq_true (by omega)
                   (try rw [show ((0 : Int)).toNat = 0 from rfl] at hx261_0); (try rw [Addr.add_zero'] at hx261_0)
                   replace hx261_0 := (wc_ HB.out hx261_0 :)
                   replace p261 := eq_true p261; replace q261 := eq_true q261
                   have p263 : 0 ≤ (1 : Int) := (by omega)
                   have q263 : 1 < ((rd_L1 l0_5 x51_2).length : Int) := da_
                   obtain ⟨ad263, e263, hx263_0⟩ := Kd.at_int HR260_0.out 1 p263 q263; have hw263_0 := hx263_0; (try rw [show ((1 : Int)).toNat = 1 from rfl] at hw263_0); (try rw [show 1 * 1 = 1 from rfl] at hw263_0); (try simp only [Nat.reduceMul, Nat.reduceEqDiff, Go.Addr.add, ↓reduceIte] at hw263_0); obtain rfl : ad261 = ad263 := (by injection e263); (try simp only [show (1 : Int).toNat = 1 from rfl, Nat.reduceMul, Nat.reduceEqDiff, Go.Addr.add, ↓reduceIte] at hx263_0)
                   have qi263 : (1 < (rd_L1 l0_5 x51_2).length) = True := eq_true (by omega)
                   (try rw [show ((1 : Int)).toNat = 1 from rfl] at hx263_0)
                   replace hx263_0 := (wc_ HB.out hx263_0 :)
                   replace p263 := eq_true p263; replace q263 := eq_true q263
                   have p265 : 0 ≤ (0 : Int) := (by omega)
                   have q265 : 0 < ((rd_L1 l0_5 x51_2).length : Int) := da_
                   obtain ⟨ad265, e265, hx265_0⟩ := Kd.at_int HR260_0.out 0 p265 q265; have hw265_0 := hx265_0; (try rw [show ((0 : Int)).toNat = 0 from rfl] at hw265_0); (try rw [show 0 * 1 = 0 from rfl] at hw265_0); (try rw [Addr.add_zero'] at hw265_0); obtain rfl : ad261 = ad265 := (by injection e265)
                   have qi265 : (0 < (rd_L1 l0_5 x51_2).length) = True := eq_true (by omega)
                   (try rw [show ((0 : Int)).toNat = 0 from rfl] at hx265_0); (try rw [Addr.add_zero'] at hx265_0)
                   replace hx265_0 := (wc_ HB.out hx265_0 :)
                   replace p265 := eq_true p265; replace q265 := eq_true q265
                   have p266 : 0 ≤ (1 : Int) := (by omega)
                   have q266 : 1 < ((rd_L1 l0_5 x51_2).length : Int) := da_
                   obtain ⟨ad266, e266, hx266_0⟩ := Kd.at_int HR260_0.out 1 p266 q266; have hw266_0 := hx266_0; (try rw [show ((1 : Int)).toNat = 1 from rfl] at hw266_0); (try rw [show 1 * 1 = 1 from rfl] at hw266_0); (try simp only [Nat.reduceMul, Nat.reduceEqDiff, Go.Addr.add, ↓reduceIte] at hw266_0); obtain rfl : ad261 = ad266 := (by injection e266); (try simp only [show (1 : Int).toNat = 1 from rfl, Nat.reduceMul, Nat.reduceEqDiff, Go.Addr.add, ↓reduceIte] at hx266_0)
                   have qi266 : (1 < (rd_L1 l0_5 x51_2).length) = True := eq_true (by omega)
                   (try rw [show ((1 : Int)).toNat = 1 from rfl] at hx266_0)
                   replace hx266_0 := (wc_ HB.out hx266_0 :)
                   replace p266 := eq_true p266; replace q266 := eq_true q266
                   have p267 : 0 ≤ ((ji45) : Int) := da_
                   have q267 : (ji45) < (l0_5.length : Int) := da_
                   obtain ⟨ad267, A267_0, c267_0, e267, hx267_0, hl267_0, hi267_0⟩ := at_L1 HR0_5.out (ji45) p267 q267; have hw267_0 := hx267_0; obtain rfl : ad260 = ad267 := (by injection e267)
                   replace hx267_0 := (wc_ HB.out hx267_0 :)
                   have HR267_0 := Aside0.mk hi267_0; have HC267_0 := Aside0.mk hl267_0; clear hi267_0 hl267_0; replace p267 := eq_true p267; replace q267 := eq_true q267
                   refine start_ (n := 41) (S := fun w' => w'.cell? ⟨gb254, 0, none⟩ = some (.string a0_0) ∧ w'.cell? ⟨gb254, 1, none⟩ = some (.slice A0_1 l0_1.length c0_1) ∧ w'.cell? ⟨gb254, 2, none⟩ = some (.slice A0_2 l0_2.length c0_2) ∧ w'.cell? ⟨gb254, 3, none⟩ = some (.int .i64 a0_3) ∧ w'.cell? ⟨gb254, 4, none⟩ = some (.int .i64 a0_4) ∧ w'.cell? ⟨gb254, 5, none⟩ = some (.slice (some ad260) l0_5.length c0_5) ∧ w'.cell? ad261 = some (.int .i64 (rd (rd_L1 l0_5 x51_2) 0)) ∧ w'.cell? ⟨ad261.block, ad261.off + 1, none⟩ = some (.int .i64 (rd (rd_L1 l0_5 x51_2) 1)) ∧ w'.cell? ad261 = some (.int .i64 (rd (rd_L1 l0_5 x51_2) 0)) ∧ w'.cell? ⟨ad261.block, ad261.off + 1, none⟩ = some (.int .i64 (rd (rd_L1 l0_5 x51_2) 1)) ∧ w'.cell? (ad260.add ((ji45)).toNat) = some (.slice A267_0 (rd_L1 l0_5 (ji45)).length c267_0)) (ds := []) impl_ValidRaga.K0 (by kernel_rfl) rfl rfl ⟨(blk_cell BK254.out 0).trans rfl, (blk_cell BK254.out 1).trans rfl, (blk_cell BK254.out 2).trans rfl, (blk_cell BK254.out 3).trans rfl, (blk_cell BK254.out 4).trans rfl, (blk_cell BK254.out 5).trans rfl, (wc_ HB.out hw261_0 :), (wc_ HB.out hw263_0 :), (wc_ HB.out hw265_0 :), (wc_ HB.out hw266_0 :), (wc_ HB.out hw267_0 :)⟩ (fun hHeld => ?_); refine with_tabW impl_ValidRaga.tab6 impl_ValidRaga.bits6 (fun HT_ HW_ => ?_)
                   generalize wr.drew = w51 at BK254 HB HR267_0 hx261_0 hx263_0 hx265_0 hx266_0 hx267_0 hHeld ⊢
                   refine pu_ HT_ 0 56 impl_ValidRaga.K1 ?_; refine pu_ HT_ 1 57 impl_ValidRaga.K2 ?_; refine pu_ HT_ 2 58 impl_ValidRaga.K3 ?_; refine pu_ HT_ 3 59 impl_ValidRaga.K4 ?_; refine pu_ HT_ 4 60 impl_ValidRaga.K5 ?_; refine pu_ HT_ 5 61 impl_ValidRaga.K6 ?_; refine tk_ HT_ HW_ hHeld 6 62 impl_ValidRaga.K7 ?_
                   refine one_ (i := 7) (N := some 63) impl_ValidRaga.K8 rfl rfl (one_of HT_.out (by kernel_rfl)) (by decide) (fun K hK => ?_)
                   refine goes_ Try.func115 (by kernel_rfl) rfl #[.int .i64 (rd (rd_L1 l0_5 x51_2) 0)] (by rfl) rfl rfl av_ ?_
                   with_reducible refine (impl_toneOk.calls (rd (rd_L1 l0_5 x51_2) 0) true _ A37.out).mono ?_
                   rintro e w' ⟨rfl, ⟨nd, rfl⟩⟩
                   refine ⟨_, rfl, ?_⟩
                   refine hK.out _ _ ⟨(blk_cell BK254.out 0).trans rfl, (blk_cell BK254.out 1).trans rfl, (blk_cell BK254.out 2).trans rfl, (blk_cell BK254.out 3).trans rfl, (blk_cell BK254.out 4).trans rfl, (blk_cell BK254.out 5).trans rfl, (wc_ HB.out hw261_0 :), (wc_ HB.out hw263_0 :), (wc_ HB.out hw265_0 :), (wc_ HB.out hw266_0 :), (wc_ HB.out hw267_0 :)⟩ (fun hHeld => ?_)
                   clear hK K; refine norm_ (a' := ?_) ?_ ?_; rotate_left
                   ·show Act.put _ (some 63) _ = _
                    go_simp
                    rfl
                   refine pu_ HT_ 8 64 impl_ValidRaga.K9 ?_; refine pu_ HT_ 9 65 impl_ValidRaga.K10 ?_; refine pu_ HT_ 10 66 impl_ValidRaga.K11 ?_; refine pu_ HT_ 11 67 impl_ValidRaga.K12 ?_; refine pu_ HT_ 12 68 impl_ValidRaga.K13 ?_; refine tk_ HT_ HW_ hHeld 13 69 impl_ValidRaga.K14 ?_
                   refine one_ (i := 14) (N := some 70) impl_ValidRaga.K15 rfl rfl (one_of HT_.out (by kernel_rfl)) (by decide) (fun K hK => ?_)
                   refine goes_ Try.func115 (by kernel_rfl) rfl #[.int .i64 (rd (rd_L1 l0_5 x51_2) 1)] (by rfl) rfl rfl av_ ?_
                   with_reducible refine (impl_toneOk.calls (rd (rd_L1 l0_5 x51_2) 1) true _ A40.out).mono ?_
                   rintro e w' ⟨rfl, ⟨nd, rfl⟩⟩
                   refine ⟨_, rfl, ?_⟩
                   refine hK.out _ _ ⟨(blk_cell BK254.out 0).trans rfl, (blk_cell BK254.out 1).trans rfl, (blk_cell BK254.out 2).trans rfl, (blk_cell BK254.out 3).trans rfl, (blk_cell BK254.out 4).trans rfl, (blk_cell BK254.out 5).trans rfl, (wc_ HB.out hw261_0 :), (wc_ HB.out hw263_0 :), (wc_ HB.out hw265_0 :), (wc_ HB.out hw266_0 :), (wc_ HB.out hw267_0 :)⟩ (fun hHeld => ?_)
                   clear hK K; refine norm_ (a' := ?_) ?_ ?_; rotate_left
                   ·show Act.put _ (some 70) _ = _
                    go_simp
                    rfl
                   refine pu_ HT_ 15 71 impl_ValidRaga.K16 ?_; refine pu_ HT_ 16 72 impl_ValidRaga.K17 ?_; refine pu_ HT_ 17 73 impl_ValidRaga.K18 ?_; refine pu_ HT_ 18 74 impl_ValidRaga.K19 ?_; refine pu_ HT_ 19 75 impl_ValidRaga.K20 ?_; refine pu_ HT_ 21 77 impl_ValidRaga.K21 ?_; refine pu_ HT_ 22 78 impl_ValidRaga.K22 ?_; refine tk_ HT_ HW_ hHeld 20 76 impl_ValidRaga.K23 ?_; refine tk_ HT_ HW_ hHeld 23 79 impl_ValidRaga.K24 ?_; refine pu_ HT_ 24 80 impl_ValidRaga.K25 ?_; refine pu_ HT_ 25 81 impl_ValidRaga.K26 ?_; refine pu_ HT_ 26 82 impl_ValidRaga.K27 ?_; refine pu_ HT_ 27 83 impl_ValidRaga.K28 ?_; refine pu_ HT_ 28 84 impl_ValidRaga.K29 ?_; refine pu_ HT_ 29 85 impl_ValidRaga.K30 ?_; refine pu_ HT_ 30 86 impl_ValidRaga.K31 ?_; refine pu_ HT_ 32 88 impl_ValidRaga.K42 ?_; refine pu_ HT_ 33 89 impl_ValidRaga.K43 ?_; refine pu_ HT_ 36 92 impl_ValidRaga.K44 ?_; refine tk_ HT_ HW_ hHeld 31 87 impl_ValidRaga.K45 ?_; refine pu_ HT_ 34 90 impl_ValidRaga.K46 ?_; refine tk_ HT_ HW_ hHeld 35 91 impl_ValidRaga.K37 ?_
                   refine one_ (i := 37) (N := some 93) impl_ValidRaga.K38 rfl rfl (one_of HT_.out (by kernel_rfl)) (by decide) (fun K hK => ?_)
                   refine goes_ Try.func116 (by kernel_rfl) rfl #[.slice A267_0 (rd_L1 l0_5 (ji45)).length c267_0, .slice (some ad261) (rd_L1 l0_5 x51_2).length c260_0] (by rfl) rfl rfl (by (try simp only [List.map_toArray, List.map_cons, List.map_nil]); first | done | (simp only [hji45]; rfl) | rfl | (simp only [List.length_drop, List.length_take]; rfl)) ?_
                   with_reducible refine (slices_Compare_int64_int64.calls k2 _ _ (rd_L1 l0_5 (ji45)) _ _ (rd_L1 l0_5 x51_2) t268 _ ?side1 ?side2 ?side3 ?side4 A48.out).mono ?_
                   (case side1 => repeat (first | exact (Kd.C_below HR267_0.out (bg_ HB.out GE254.out)) | (with_reducible refine Kd.C_alloc ?_ _) | (with_reducible refine Kd.C_drewN ?_ _) | (with_reducible refine Kd.C_drew ?_)))
                   (case side2 => exact HC267_0.out)
                   (case side3 => repeat (first | exact (Kd.C_below HR260_0.out (bg_ HB.out GE254.out)) | (with_reducible refine Kd.C_alloc ?_ _) | (with_reducible refine Kd.C_drewN ?_ _) | (with_reducible refine Kd.C_drew ?_)))
                   (case side4 => exact HC260_0.out)
                   rintro e w' ⟨rfl, ⟨nd, rfl⟩⟩
                   refine ⟨_, rfl, ?_⟩
                   refine hK.out _ _ ⟨(blk_cell BK254.out 0).trans rfl, (blk_cell BK254.out 1).trans rfl, (blk_cell BK254.out 2).trans rfl, (blk_cell BK254.out 3).trans rfl, (blk_cell BK254.out 4).trans rfl, (blk_cell BK254.out 5).trans rfl, (wc_ HB.out hw261_0 :), (wc_ HB.out hw263_0 :), (wc_ HB.out hw265_0 :), (wc_ HB.out hw266_0 :), (wc_ HB.out hw267_0 :)⟩ (fun hHeld => ?_)
                   clear hK K; refine norm_ (a' := ?_) ?_ ?_; rotate_left
                   ·show Act.put _ (some 93) _ = _
                    go_simp
                    rfl
                   refine pu_ HT_ 38 94 impl_ValidRaga.K39 ?_; refine pu_ HT_ 39 95 impl_ValidRaga.K40 ?_; refine pu_ HT_ 40 96 impl_ValidRaga.K41 ?_
                   refine done_ (done_of HT_.out (by kernel_rfl)) ?_
                   try go_wp2
                   go_roundg k2
                   case measure => have := HJ1.out; have := HK2.out; omega
                   case rel => exact ⟨(wrap64 (x51_2 + 1)), sv_, H', ⟨by have := HJ1.out; have := HK2.out; omega⟩, ⟨by (with_reducible repeat (first | refine blk_drewN ?_ _ | refine blk_drew ?_ | refine blk_alloc ?_ _)); exact BK254.out⟩, ⟨bg_ HB.out GE254.out⟩⟩
                 ·rw [if_neg c47] at H
                  exact absurd H (by simp)
                ·rw [if_neg c46] at H
                 exact absurd H (by simp)
               ·rw [if_neg c44] at H
                have c44b0 : decide (0 < x51_2) = false := decide_eq_false c44
                clear c44
                have H' := Aside0.mk H
                clear H
                have p260 : 0 ≤ (x51_2 : Int) := da_
                have q260 : x51_2 < (l0_5.length : Int) := da_
                obtain ⟨ad260, A260_0, c260_0, e260, hx260_0, hl260_0, hi260_0⟩ := at_L1 HR0_5.out x51_2 p260 q260; cases e260
                replace hx260_0 := (wc_ HB.out hx260_0 :)
                have HR260_0 := Aside0.mk hi260_0; have HC260_0 := Aside0.mk hl260_0; clear hi260_0 hl260_0; replace p260 := eq_true p260; replace q260 := eq_true q260
                try go_wp2
                have n0_ := Aside0.mk (blk_drew BK254.out)
                have n1_ := Aside0.mk (below_drew1 HB.out)
                clear BK254; clear HB; have BK254 := n0_; have HB := n1_; clear n0_ n1_
                have p261 : 0 ≤ (0 : Int) := (by omega)
                have q261 : 0 < ((rd_L1 l0_5 x51_2).length : Int) := da_
                obtain ⟨ad261, e261, hx261_0⟩ := Kd.at_int HR260_0.out 0 p261 q261; have hw261_0 := hx261_0; (try rw [show ((0 : Int)).toNat = 0 from rfl] at hw261_0); (try rw [show 0 * 1 = 0 from rfl] at hw261_0); (try rw [Addr.add_zero'] at hw261_0); cases e261
                have qi261 : (0 < (rd_L1 l0_5 x51_2).length) = True := eq_true (by omega)
                (try rw [show ((0 : Int)).toNat = 0 from rfl] at hx261_0); (try rw [Addr.add_zero'] at hx261_0)
                replace hx261_0 := (wc_ HB.out hx261_0 :)
                replace p261 := eq_true p261; replace q261 := eq_true q261
                have p263 : 0 ≤ (1 : Int) := (by omega)
                have q263 : 1 < ((rd_L1 l0_5 x51_2).length : Int) := da_
                obtain ⟨ad263, e263, hx263_0⟩ := Kd.at_int HR260_0.out 1 p263 q263; have hw263_0 := hx263_0; (try rw [show ((1 : Int)).toNat = 1 from rfl] at hw263_0); (try rw [show 1 * 1 = 1 from rfl] at hw263_0); (try simp only [Nat.reduceMul, Nat.reduceEqDiff, Go.Addr.add, ↓reduceIte] at hw263_0); obtain rfl : ad261 = ad263 := (by injection e263); (try simp only [show (1 : Int).toNat = 1 from rfl, Nat.reduceMul, Nat.reduceEqDiff, Go.Addr.add, ↓reduceIte] at hx263_0)
                have qi263 : (1 < (rd_L1 l0_5 x51_2).length) = True := eq_true (by omega)
                (try rw [show ((1 : Int)).toNat = 1 from rfl] at hx263_0)
                replace hx263_0 := (wc_ HB.out hx263_0 :)
                replace p263 := eq_true p263; replace q263 := eq_true q263
                have p265 : 0 ≤ (0 : Int) := (by omega)
                have q265 : 0 < ((rd_L1 l0_5 x51_2).length : Int) := da_
                obtain ⟨ad265, e265, hx265_0⟩ := Kd.at_int HR260_0.out 0 p265 q265; have hw265_0 := hx265_0; (try rw [show ((0 : Int)).toNat = 0 from rfl] at hw265_0); (try rw [show 0 * 1 = 0 from rfl] at hw265_0); (try rw [Addr.add_zero'] at hw265_0); obtain rfl : ad261 = ad265 := (by injection e265)
                have qi265 : (0 < (rd_L1 l0_5 x51_2).length) = True := eq_true (by omega)
                (try rw [show ((0 : Int)).toNat = 0 from rfl] at hx265_0); (try rw [Addr.add_zero'] at hx265_0)
                replace hx265_0 := (wc_ HB.out hx265_0 :)
                replace p265 := eq_true p265; replace q265 := eq_true q265
                have p266 : 0 ≤ (1 : Int) := (by omega)
                have q266 : 1 < ((rd_L1 l0_5 x51_2).length : Int) := da_
                obtain ⟨ad266, e266, hx266_0⟩ := Kd.at_int HR260_0.out 1 p266 q266; have hw266_0 := hx266_0; (try rw [show ((1 : Int)).toNat = 1 from rfl] at hw266_0); (try rw [show 1 * 1 = 1 from rfl] at hw266_0); (try simp only [Nat.reduceMul, Nat.reduceEqDiff, Go.Addr.add, ↓reduceIte] at hw266_0); obtain rfl : ad261 = ad266 := (by injection e266); (try simp only [show (1 : Int).toNat = 1 from rfl, Nat.reduceMul, Nat.reduceEqDiff, Go.Addr.add, ↓reduceIte] at hx266_0)
                have qi266 : (1 < (rd_L1 l0_5 x51_2).length) = True := eq_true (by omega)
                (try rw [show ((1 : Int)).toNat = 1 from rfl] at hx266_0)
                replace hx266_0 := (wc_ HB.out hx266_0 :)
                replace p266 := eq_true p266; replace q266 := eq_true q266
                refine start_ (n := 41) (S := fun w' => w'.cell? ad261 = some (.int .i64 (rd (rd_L1 l0_5 x51_2) 0)) ∧ w'.cell? ⟨ad261.block, ad261.off + 1, none⟩ = some (.int .i64 (rd (rd_L1 l0_5 x51_2) 1)) ∧ w'.cell? ad261 = some (.int .i64 (rd (rd_L1 l0_5 x51_2) 0)) ∧ w'.cell? ⟨ad261.block, ad261.off + 1, none⟩ = some (.int .i64 (rd (rd_L1 l0_5 x51_2) 1))) (ds := []) impl_ValidRaga.K0 (by kernel_rfl) rfl rfl ⟨(wc_ HB.out hw261_0 :), (wc_ HB.out hw263_0 :), (wc_ HB.out hw265_0 :), (wc_ HB.out hw266_0 :)⟩ (fun hHeld => ?_); refine with_tabW impl_ValidRaga.tab6 impl_ValidRaga.bits6 (fun HT_ HW_ => ?_)
                generalize wr.drew = w52 at BK254 HB hx261_0 hx263_0 hx265_0 hx266_0 hHeld ⊢
                refine pu_ HT_ 0 56 impl_ValidRaga.K1 ?_; refine pu_ HT_ 1 57 impl_ValidRaga.K2 ?_; refine pu_ HT_ 2 58 impl_ValidRaga.K3 ?_; refine pu_ HT_ 3 59 impl_ValidRaga.K4 ?_; refine pu_ HT_ 4 60 impl_ValidRaga.K5 ?_; refine pu_ HT_ 5 61 impl_ValidRaga.K6 ?_; refine tk_ HT_ HW_ hHeld 6 62 impl_ValidRaga.K7 ?_
                refine one_ (i := 7) (N := some 63) impl_ValidRaga.K8 rfl rfl (one_of HT_.out (by kernel_rfl)) (by decide) (fun K hK => ?_)
                refine goes_ Try.func115 (by kernel_rfl) rfl #[.int .i64 (rd (rd_L1 l0_5 x51_2) 0)] (by rfl) rfl rfl av_ ?_
                with_reducible refine (impl_toneOk.calls (rd (rd_L1 l0_5 x51_2) 0) true _ A37.out).mono ?_
                rintro e w' ⟨rfl, ⟨nd, rfl⟩⟩
                refine ⟨_, rfl, ?_⟩
                refine hK.out _ _ ⟨(wc_ HB.out hw261_0 :), (wc_ HB.out hw263_0 :), (wc_ HB.out hw265_0 :), (wc_ HB.out hw266_0 :)⟩ (fun hHeld => ?_)
                clear hK K; refine norm_ (a' := ?_) ?_ ?_; rotate_left
                ·show Act.put _ (some 63) _ = _
                 go_simp
                 rfl
                refine pu_ HT_ 8 64 impl_ValidRaga.K9 ?_; refine pu_ HT_ 9 65 impl_ValidRaga.K10 ?_; refine pu_ HT_ 10 66 impl_ValidRaga.K11 ?_; refine pu_ HT_ 11 67 impl_ValidRaga.K12 ?_; refine pu_ HT_ 12 68 impl_ValidRaga.K13 ?_; refine tk_ HT_ HW_ hHeld 13 69 impl_ValidRaga.K14 ?_
                refine one_ (i := 14) (N := some 70) impl_ValidRaga.K15 rfl rfl (one_of HT_.out (by kernel_rfl)) (by decide) (fun K hK => ?_)
                refine goes_ Try.func115 (by kernel_rfl) rfl #[.int .i64 (rd (rd_L1 l0_5 x51_2) 1)] (by rfl) rfl rfl av_ ?_
                with_reducible refine (impl_toneOk.calls (rd (rd_L1 l0_5 x51_2) 1) true _ A40.out).mono ?_
                rintro e w' ⟨rfl, ⟨nd, rfl⟩⟩
                refine ⟨_, rfl, ?_⟩
                refine hK.out _ _ ⟨(wc_ HB.out hw261_0 :), (wc_ HB.out hw263_0 :), (wc_ HB.out hw265_0 :), (wc_ HB.out hw266_0 :)⟩ (fun hHeld => ?_)
                clear hK K; refine norm_ (a' := ?_) ?_ ?_; rotate_left
                ·show Act.put _ (some 70) _ = _
                 go_simp
                 rfl
                refine pu_ HT_ 15 71 impl_ValidRaga.K16 ?_; refine pu_ HT_ 16 72 impl_ValidRaga.K17 ?_; refine pu_ HT_ 17 73 impl_ValidRaga.K18 ?_; refine pu_ HT_ 18 74 impl_ValidRaga.K19 ?_; refine pu_ HT_ 19 75 impl_ValidRaga.K20 ?_; refine pu_ HT_ 21 77 impl_ValidRaga.K21 ?_; refine pu_ HT_ 22 78 impl_ValidRaga.K22 ?_; refine tk_ HT_ HW_ hHeld 20 76 impl_ValidRaga.K23 ?_; refine tk_ HT_ HW_ hHeld 23 79 impl_ValidRaga.K24 ?_; refine pu_ HT_ 24 80 impl_ValidRaga.K25 ?_; refine pu_ HT_ 25 81 impl_ValidRaga.K26 ?_; refine pu_ HT_ 26 82 impl_ValidRaga.K27 ?_; refine pu_ HT_ 27 83 impl_ValidRaga.K28 ?_; refine pu_ HT_ 28 84 impl_ValidRaga.K29 ?_; refine pu_ HT_ 29 85 impl_ValidRaga.K30 ?_; refine un_ HT_ 30 86 impl_ValidRaga.K31 ?_; refine un_ HT_ 31 87 impl_ValidRaga.K32 ?_; refine un_ HT_ 32 88 impl_ValidRaga.K33 ?_; refine un_ HT_ 33 89 impl_ValidRaga.K34 ?_; refine un_ HT_ 34 90 impl_ValidRaga.K35 ?_; refine un_ HT_ 35 91 impl_ValidRaga.K36 ?_; refine un_ HT_ 36 92 impl_ValidRaga.K37 ?_; refine un_ HT_ 37 93 impl_ValidRaga.K38 ?_; refine un_ HT_ 38 94 impl_ValidRaga.K39 ?_; refine pu_ HT_ 39 95 impl_ValidRaga.K40 ?_; refine pu_ HT_ 40 96 impl_ValidRaga.K41 ?_
                refine done_ (done_of HT_.out (by kernel_rfl)) ?_
                try go_wp2
                go_roundg k2
                case measure => have := HJ1.out; have := HK2.out; omega
                case rel => exact ⟨(wrap64 (x51_2 + 1)), sv_, H', ⟨by have := HJ1.out; have := HK2.out; omega⟩, ⟨by (with_reducible repeat (first | refine blk_drewN ?_ _ | refine blk_drew ?_ | refine blk_alloc ?_ _)); exact BK254.out⟩, ⟨bg_ HB.out GE254.out⟩⟩
             ·replace c41 := Bool.eq_false_iff.mpr c41
              subst c41
              have H1 : (some false) = some r := by rw [if_neg (show ¬ (false = true) by decide)] at H; exact H
              clear H; have H := H1; clear H1
              obtain rfl := Option.some.inj H
              have p260 : 0 ≤ (x51_2 : Int) := da_
              have q260 : x51_2 < (l0_5.length : Int) := da_
              obtain ⟨ad260, A260_0, c260_0, e260, hx260_0, hl260_0, hi260_0⟩ := at_L1 HR0_5.out x51_2 p260 q260; cases e260
              replace hx260_0 := (wc_ HB.out hx260_0 :)
              have HR260_0 := Aside0.mk hi260_0; have HC260_0 := Aside0.mk hl260_0; clear hi260_0 hl260_0; replace p260 := eq_true p260; replace q260 := eq_true q260
              try go_wp2
              have n0_ := Aside0.mk (blk_drew BK254.out)
              have n1_ := Aside0.mk (below_drew1 HB.out)
              clear BK254; clear HB; have BK254 := n0_; have HB := n1_; clear n0_ n1_
              have p261 : 0 ≤ (0 : Int) := (by omega)
              have q261 : 0 < ((rd_L1 l0_5 x51_2).length : Int) := da_
              obtain ⟨ad261, e261, hx261_0⟩ := Kd.at_int HR260_0.out 0 p261 q261; have hw261_0 := hx261_0; (try rw [show ((0 : Int)).toNat = 0 from rfl] at hw261_0); (try rw [show 0 * 1 = 0 from rfl] at hw261_0); (try rw [Addr.add_zero'] at hw261_0); cases e261
              have qi261 : (0 < (rd_L1 l0_5 x51_2).length) = True := eq_true (by omega)
              (try rw [show ((0 : Int)).toNat = 0 from rfl] at hx261_0); (try rw [Addr.add_zero'] at hx261_0)
              replace hx261_0 := (wc_ HB.out hx261_0 :)
              replace p261 := eq_true p261; replace q261 := eq_true q261
              have p263 : 0 ≤ (1 : Int) := (by omega)
              have q263 : 1 < ((rd_L1 l0_5 x51_2).length : Int) := da_
              obtain ⟨ad263, e263, hx263_0⟩ := Kd.at_int HR260_0.out 1 p263 q263; have hw263_0 := hx263_0; (try rw [show ((1 : Int)).toNat = 1 from rfl] at hw263_0); (try rw [show 1 * 1 = 1 from rfl] at hw263_0); (try simp only [Nat.reduceMul, Nat.reduceEqDiff, Go.Addr.add, ↓reduceIte] at hw263_0); obtain rfl : ad261 = ad263 := (by injection e263); (try simp only [show (1 : Int).toNat = 1 from rfl, Nat.reduceMul, Nat.reduceEqDiff, Go.Addr.add, ↓reduceIte] at hx263_0)
              have qi263 : (1 < (rd_L1 l0_5 x51_2).length) = True := eq_true (by omega)
              (try rw [show ((1 : Int)).toNat = 1 from rfl] at hx263_0)
              replace hx263_0 := (wc_ HB.out hx263_0 :)
              replace p263 := eq_true p263; replace q263 := eq_true q263
              refine start_ (n := 41) (S := fun w' => w'.cell? ad261 = some (.int .i64 (rd (rd_L1 l0_5 x51_2) 0)) ∧ w'.cell? ⟨ad261.block, ad261.off + 1, none⟩ = some (.int .i64 (rd (rd_L1 l0_5 x51_2) 1))) (ds := []) impl_ValidRaga.K0 (by kernel_rfl) rfl rfl ⟨(wc_ HB.out hw261_0 :), (wc_ HB.out hw263_0 :)⟩ (fun hHeld => ?_); refine with_tabW impl_ValidRaga.tab6 impl_ValidRaga.bits6 (fun HT_ HW_ => ?_)
              generalize wr.drew = w53 at BK254 HB hx261_0 hx263_0 hHeld ⊢
              refine pu_ HT_ 0 56 impl_ValidRaga.K1 ?_; refine pu_ HT_ 1 57 impl_ValidRaga.K2 ?_; refine pu_ HT_ 2 58 impl_ValidRaga.K3 ?_; refine pu_ HT_ 3 59 impl_ValidRaga.K4 ?_; refine pu_ HT_ 4 60 impl_ValidRaga.K5 ?_; refine pu_ HT_ 5 61 impl_ValidRaga.K6 ?_; refine tk_ HT_ HW_ hHeld 6 62 impl_ValidRaga.K7 ?_
              refine one_ (i := 7) (N := some 63) impl_ValidRaga.K8 rfl rfl (one_of HT_.out (by kernel_rfl)) (by decide) (fun K hK => ?_)
              refine goes_ Try.func115 (by kernel_rfl) rfl #[.int .i64 (rd (rd_L1 l0_5 x51_2) 0)] (by rfl) rfl rfl av_ ?_
              with_reducible refine (impl_toneOk.calls (rd (rd_L1 l0_5 x51_2) 0) true _ A37.out).mono ?_
              rintro e w' ⟨rfl, ⟨nd, rfl⟩⟩
              refine ⟨_, rfl, ?_⟩
              refine hK.out _ _ ⟨(wc_ HB.out hw261_0 :), (wc_ HB.out hw263_0 :)⟩ (fun hHeld => ?_)
              clear hK K; refine norm_ (a' := ?_) ?_ ?_; rotate_left
              ·show Act.put _ (some 63) _ = _
               go_simp
               rfl
              refine pu_ HT_ 8 64 impl_ValidRaga.K9 ?_; refine pu_ HT_ 9 65 impl_ValidRaga.K10 ?_; refine pu_ HT_ 10 66 impl_ValidRaga.K11 ?_; refine pu_ HT_ 11 67 impl_ValidRaga.K12 ?_; refine pu_ HT_ 12 68 impl_ValidRaga.K13 ?_; refine tk_ HT_ HW_ hHeld 13 69 impl_ValidRaga.K14 ?_
              refine one_ (i := 14) (N := some 70) impl_ValidRaga.K15 rfl rfl (one_of HT_.out (by kernel_rfl)) (by decide) (fun K hK => ?_)
              refine goes_ Try.func115 (by kernel_rfl) rfl #[.int .i64 (rd (rd_L1 l0_5 x51_2) 1)] (by rfl) rfl rfl av_ ?_
              with_reducible refine (impl_toneOk.calls (rd (rd_L1 l0_5 x51_2) 1) false _ A40.out).mono ?_
              rintro e w' ⟨rfl, ⟨nd, rfl⟩⟩
              refine ⟨_, rfl, ?_⟩
              refine hK.out _ _ ⟨(wc_ HB.out hw261_0 :), (wc_ HB.out hw263_0 :)⟩ (fun hHeld => ?_)
              clear hK K; refine norm_ (a' := ?_) ?_ ?_; rotate_left
              ·show Act.put _ (some 70) _ = _
               go_simp
               rfl
              refine pu_ HT_ 15 71 impl_ValidRaga.K16 ?_; refine pu_ HT_ 16 72 impl_ValidRaga.K17 ?_; refine pu_ HT_ 17 73 impl_ValidRaga.K18 ?_; refine un_ HT_ 18 74 impl_ValidRaga.K19 ?_; refine un_ HT_ 19 75 impl_ValidRaga.K20 ?_; refine un_ HT_ 20 76 impl_ValidRaga.K47 ?_; refine un_ HT_ 21 77 impl_ValidRaga.K48 ?_; refine un_ HT_ 22 78 impl_ValidRaga.K23 ?_; refine un_ HT_ 23 79 impl_ValidRaga.K24 ?_; refine un_ HT_ 24 80 impl_ValidRaga.K25 ?_; refine pu_ HT_ 25 81 impl_ValidRaga.K26 ?_; refine pu_ HT_ 26 82 impl_ValidRaga.K27 ?_; refine un_ HT_ 27 83 impl_ValidRaga.K28 ?_; refine un_ HT_ 28 84 impl_ValidRaga.K29 ?_; refine un_ HT_ 29 85 impl_ValidRaga.K30 ?_; refine un_ HT_ 30 86 impl_ValidRaga.K31 ?_; refine un_ HT_ 31 87 impl_ValidRaga.K32 ?_; refine un_ HT_ 32 88 impl_ValidRaga.K33 ?_; refine un_ HT_ 33 89 impl_ValidRaga.K34 ?_; refine un_ HT_ 34 90 impl_ValidRaga.K35 ?_; refine un_ HT_ 35 91 impl_ValidRaga.K36 ?_; refine un_ HT_ 36 92 impl_ValidRaga.K37 ?_; refine un_ HT_ 37 93 impl_ValidRaga.K38 ?_; refine un_ HT_ 38 94 impl_ValidRaga.K39 ?_; refine un_ HT_ 39 95 impl_ValidRaga.K40 ?_; refine pu_ HT_ 40 96 impl_ValidRaga.K41 ?_
              refine done_ (done_of HT_.out (by kernel_rfl)) ?_
              try go_wp2
              go_ret
              exact ⟨by first | rfl | (simp [errW_none, errW_some] <;> rfl) | (simp [*, errW_none, errW_some] <;> rfl), bg_ HB.out GE254.out⟩
            ·rw [if_neg c39] at H
             exact absurd H (by simp)
           ·replace c38 := Bool.eq_false_iff.mpr c38
            subst c38
            have H1 : (some false) = some r := by rw [if_neg (show ¬ (false = true) by decide)] at H; exact H
            clear H; have H := H1; clear H1
            obtain rfl := Option.some.inj H
            have p260 : 0 ≤ (x51_2 : Int) := da_
            have q260 : x51_2 < (l0_5.length : Int) := da_
            obtain ⟨ad260, A260_0, c260_0, e260, hx260_0, hl260_0, hi260_0⟩ := at_L1 HR0_5.out x51_2 p260 q260; cases e260
            replace hx260_0 := (wc_ HB.out hx260_0 :)
            have HR260_0 := Aside0.mk hi260_0; have HC260_0 := Aside0.mk hl260_0; clear hi260_0 hl260_0; replace p260 := eq_true p260; replace q260 := eq_true q260
            try go_wp2
            have n0_ := Aside0.mk (blk_drew BK254.out)
            have n1_ := Aside0.mk (below_drew1 HB.out)
            clear BK254; clear HB; have BK254 := n0_; have HB := n1_; clear n0_ n1_
            have p261 : 0 ≤ (0 : Int) := (by omega)
            have q261 : 0 < ((rd_L1 l0_5 x51_2).length : Int) := da_
            obtain ⟨ad261, e261, hx261_0⟩ := Kd.at_int HR260_0.out 0 p261 q261; have hw261_0 := hx261_0; (try rw [show ((0 : Int)).toNat = 0 from rfl] at hw261_0); (try rw [show 0 * 1 = 0 from rfl] at hw261_0); (try rw [Addr.add_zero'] at hw261_0); cases e261
            have qi261 : (0 < (rd_L1 l0_5 x51_2).length) = True := eq_true (by omega)
            (try rw [show ((0 : Int)).toNat = 0 from rfl] at hx261_0); (try rw [Addr.add_zero'] at hx261_0)
            replace hx261_0 := (wc_ HB.out hx261_0 :)
            replace p261 := eq_true p261; replace q261 := eq_true q261
            refine start_ (n := 41) (S := fun w' => w'.cell? ad261 = some (.int .i64 (rd (rd_L1 l0_5 x51_2) 0))) (ds := []) impl_ValidRaga.K0 (by kernel_rfl) rfl rfl ((wc_ HB.out hw261_0 :)) (fun hHeld => ?_); refine with_tabW impl_ValidRaga.tab6 impl_ValidRaga.bits6 (fun HT_ HW_ => ?_)
            generalize wr.drew = w54 at BK254 HB hx261_0 hHeld ⊢
            refine pu_ HT_ 0 56 impl_ValidRaga.K1 ?_; refine pu_ HT_ 1 57 impl_ValidRaga.K2 ?_; refine pu_ HT_ 2 58 impl_ValidRaga.K3 ?_; refine pu_ HT_ 3 59 impl_ValidRaga.K4 ?_; refine pu_ HT_ 4 60 impl_ValidRaga.K5 ?_; refine pu_ HT_ 5 61 impl_ValidRaga.K6 ?_
            refine take_ (i := 6) (N := some 62) (v := ?_) (a' := ?_) impl_ValidRaga.K7 rfl rfl (take_ofW HT_.out HW_.out (by kernel_rfl)) (fun _ _ _ h => h) (Or.inl ⟨by rfl, ?_⟩) hHeld ?_ ?_
            rotate_left
            ·intro w' s0
             go_simp
             with_reducible rfl
            rotate_left
            ·go_simp
             rfl
            refine one_ (i := 7) (N := some 63) impl_ValidRaga.K8 rfl rfl (one_of HT_.out (by kernel_rfl)) (by decide) (fun K hK => ?_)
            refine goes_ Try.func115 (by kernel_rfl) rfl #[.int .i64 (rd (rd_L1 l0_5 x51_2) 0)] (by rfl) rfl rfl av_ ?_
            with_reducible refine (impl_toneOk.calls (rd (rd_L1 l0_5 x51_2) 0) false _ A37.out).mono ?_
            rintro e w' ⟨rfl, ⟨nd, rfl⟩⟩
            refine ⟨_, rfl, ?_⟩
            refine hK.out _ _ ((wc_ HB.out hw261_0 :)) (fun hHeld => ?_)
            clear hK K; refine norm_ (a' := ?_) ?_ ?_; rotate_left
            ·show Act.put _ (some 63) _ = _
             go_simp
             rfl
            refine pu_ HT_ 8 64 impl_ValidRaga.K9 ?_; refine pu_ HT_ 9 65 impl_ValidRaga.K10 ?_; refine pu_ HT_ 10 66 impl_ValidRaga.K11 ?_; refine un_ HT_ 11 67 impl_ValidRaga.K12 ?_; refine un_ HT_ 12 68 impl_ValidRaga.K13 ?_; refine un_ HT_ 13 69 impl_ValidRaga.K14 ?_; refine un_ HT_ 14 70 impl_ValidRaga.K15 ?_; refine un_ HT_ 15 71 impl_ValidRaga.K16 ?_; refine pu_ HT_ 16 72 impl_ValidRaga.K17 ?_; refine pu_ HT_ 17 73 impl_ValidRaga.K18 ?_; refine un_ HT_ 18 74 impl_ValidRaga.K19 ?_; refine un_ HT_ 19 75 impl_ValidRaga.K20 ?_; refine un_ HT_ 20 76 impl_ValidRaga.K47 ?_; refine un_ HT_ 21 77 impl_ValidRaga.K48 ?_; refine un_ HT_ 22 78 impl_ValidRaga.K23 ?_; refine un_ HT_ 23 79 impl_ValidRaga.K24 ?_; refine un_ HT_ 24 80 impl_ValidRaga.K25 ?_; refine pu_ HT_ 25 81 impl_ValidRaga.K26 ?_; refine pu_ HT_ 26 82 impl_ValidRaga.K27 ?_; refine un_ HT_ 27 83 impl_ValidRaga.K28 ?_; refine un_ HT_ 28 84 impl_ValidRaga.K29 ?_; refine un_ HT_ 29 85 impl_ValidRaga.K30 ?_; refine un_ HT_ 30 86 impl_ValidRaga.K31 ?_; refine un_ HT_ 31 87 impl_ValidRaga.K32 ?_; refine un_ HT_ 32 88 impl_ValidRaga.K33 ?_; refine un_ HT_ 33 89 impl_ValidRaga.K34 ?_; refine un_ HT_ 34 90 impl_ValidRaga.K35 ?_; refine un_ HT_ 35 91 impl_ValidRaga.K36 ?_; refine un_ HT_ 36 92 impl_ValidRaga.K37 ?_; refine un_ HT_ 37 93 impl_ValidRaga.K38 ?_; refine un_ HT_ 38 94 impl_ValidRaga.K39 ?_; refine un_ HT_ 39 95 impl_ValidRaga.K40 ?_; refine pu_ HT_ 40 96 impl_ValidRaga.K41 ?_
            refine done_ (done_of HT_.out (by kernel_rfl)) ?_
            try go_wp2
            go_ret
            exact ⟨by first | rfl | (simp [errW_none, errW_some] <;> rfl) | (simp [*, errW_none, errW_some] <;> rfl), bg_ HB.out GE254.out⟩
          ·rw [if_neg c36] at H
           exact absurd H (by simp)
         ·rw [if_neg c35] at H
          have c35b0 : (((rd_L1 l0_5 x51_2).length : Int) == 2) = false := beq_eq_false_iff_ne.mpr c35
          have c35b1 : (((rd_L1 l0_5 x51_2).length : Int) != 2) = true := bne_iff_ne.mpr c35
          obtain rfl := Option.some.inj H
          have p260 : 0 ≤ (x51_2 : Int) := da_
          have q260 : x51_2 < (l0_5.length : Int) := da_
          obtain ⟨ad260, A260_0, c260_0, e260, hx260_0, hl260_0, hi260_0⟩ := at_L1 HR0_5.out x51_2 p260 q260; cases e260
          replace hx260_0 := (wc_ HB.out hx260_0 :)
          have HR260_0 := Aside0.mk hi260_0; have HC260_0 := Aside0.mk hl260_0; clear hi260_0 hl260_0; replace p260 := eq_true p260; replace q260 := eq_true q260
          try go_wp2
          have n0_ := Aside0.mk (blk_drew BK254.out)
          have n1_ := Aside0.mk (below_drew1 HB.out)
          clear BK254; clear HB; have BK254 := n0_; have HB := n1_; clear n0_ n1_
          refine start_ (n := 41) (S := fun w' => True) (ds := []) impl_ValidRaga.K0 (by kernel_rfl) rfl rfl trivial (fun hHeld => ?_); refine with_tabW impl_ValidRaga.tab6 impl_ValidRaga.bits6 (fun HT_ HW_ => ?_)
          generalize wr.drew = w55 at BK254 HB hHeld ⊢
          refine pu_ HT_ 0 56 impl_ValidRaga.K1 ?_; refine pu_ HT_ 1 57 impl_ValidRaga.K2 ?_; refine pu_ HT_ 2 58 impl_ValidRaga.K3 ?_; refine pu_ HT_ 3 59 impl_ValidRaga.K4 ?_; refine un_ HT_ 4 60 impl_ValidRaga.K5 ?_; refine un_ HT_ 5 61 impl_ValidRaga.K6 ?_; refine un_ HT_ 6 62 impl_ValidRaga.K7 ?_; refine un_ HT_ 7 63 impl_ValidRaga.K8 ?_; refine un_ HT_ 8 64 impl_ValidRaga.K9 ?_; refine pu_ HT_ 9 65 impl_ValidRaga.K10 ?_; refine pu_ HT_ 10 66 impl_ValidRaga.K11 ?_; refine un_ HT_ 11 67 impl_ValidRaga.K12 ?_; refine un_ HT_ 12 68 impl_ValidRaga.K13 ?_; refine un_ HT_ 13 69 impl_ValidRaga.K14 ?_; refine un_ HT_ 14 70 impl_ValidRaga.K15 ?_; refine un_ HT_ 15 71 impl_ValidRaga.K16 ?_; refine pu_ HT_ 16 72 impl_ValidRaga.K17 ?_; refine pu_ HT_ 17 73 impl_ValidRaga.K18 ?_; refine un_ HT_ 18 74 impl_ValidRaga.K19 ?_; refine un_ HT_ 19 75 impl_ValidRaga.K20 ?_; refine un_ HT_ 20 76 impl_ValidRaga.K47 ?_; refine un_ HT_ 21 77 impl_ValidRaga.K48 ?_; refine un_ HT_ 22 78 impl_ValidRaga.K23 ?_; refine un_ HT_ 23 79 impl_ValidRaga.K24 ?_; refine un_ HT_ 24 80 impl_ValidRaga.K25 ?_; refine pu_ HT_ 25 81 impl_ValidRaga.K26 ?_; refine pu_ HT_ 26 82 impl_ValidRaga.K27 ?_; refine un_ HT_ 27 83 impl_ValidRaga.K28 ?_; refine un_ HT_ 28 84 impl_ValidRaga.K29 ?_; refine un_ HT_ 29 85 impl_ValidRaga.K30 ?_; refine un_ HT_ 30 86 impl_ValidRaga.K31 ?_; refine un_ HT_ 31 87 impl_ValidRaga.K32 ?_; refine un_ HT_ 32 88 impl_ValidRaga.K33 ?_; refine un_ HT_ 33 89 impl_ValidRaga.K34 ?_; refine un_ HT_ 34 90 impl_ValidRaga.K35 ?_; refine un_ HT_ 35 91 impl_ValidRaga.K36 ?_; refine un_ HT_ 36 92 impl_ValidRaga.K37 ?_; refine un_ HT_ 37 93 impl_ValidRaga.K38 ?_; refine un_ HT_ 38 94 impl_ValidRaga.K39 ?_; refine un_ HT_ 39 95 impl_ValidRaga.K40 ?_; refine pu_ HT_ 40 96 impl_ValidRaga.K41 ?_
          refine done_ (done_of HT_.out (by kernel_rfl)) ?_
          try go_wp2
          go_ret
          exact ⟨by first | rfl | (simp [errW_none, errW_some] <;> rfl) | (simp [*, errW_none, errW_some] <;> rfl), bg_ HB.out GE254.out⟩
        ·rw [if_neg c34] at H
         exact absurd H (by simp)
       ·rw [if_neg c33] at H
        exact absurd H (by simp)
      ·rw [if_neg c32] at H
       have c32b0 : decide (x51_2 < (l0_5.length : Int)) = false := decide_eq_false c32
       clear c32
       obtain rfl := Option.some.inj H
       go_wp2
       go_ret
       exact ⟨by first | rfl | (simp [errW_none, errW_some] <;> rfl) | (simp [*, errW_none, errW_some] <;> rfl), bg_ HB.out GE254.out⟩
end Go.Proofs.Ytinlejhffokbaaa.P
end
