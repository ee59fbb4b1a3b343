/- Texts of this seat, merged: QSpecL00Same, QSpecL15Has, QSpecL15Parts, QSpecL15Repeats, QSpecL15Is, QSpecL15Leaps. -/
import Derived.Test.YtinlejhffokbaaaGSM1
import Derived.Test.YtinlejhffokbaaaGSM2
import Derived.Test.YtinlejhffokbaaaGSM10
import Derived.Test.YtinlejhffokbaaaGSM14
import Derived.Test.YtinlejhffokbaaaGSM15
section
namespace Go.Proofs.Ytinlejhffokbaaa.P
open Go.RowKit Go.Proofs.YtinlejhffokbaaaW.PrintWords Go.Proofs.YtinlejhffokbaaaW.PrintLast Go.Proofs.YtinlejhffokbaaaW.PrintMore
attribute [local go_sem] max2_int min2_int max_two min_two max_three min_three max_four min_four
set_option linter.unusedVariables false
set_option linter.unusedSimpArgs false
set_option maxHeartbeats 16000000
set_option maxRecDepth 100000
def spec_l00Same.l0 : Nat → List Int → List Int → Int → Option (Bool)
 | 0, _, _, _ => none
 | k + 1, x0, x1, x5 => if x5 < (x0.length : Int) then (if 0 ≤ x5 then (if x5 < (x1.length : Int) then (if (rd x0 x5) = (rd x1 x5) then (spec_l00Same.l0 k x0 x1 (wrap64 (x5 + 1))) else (some false)) else (none)) else (none)) else (some true)
def spec_l00Same.f (k : Nat) (l0 : List Int) (l1 : List Int) : Option (Bool) := if (l0.length : Int) = (l1.length : Int) then (spec_l00Same.l0 k l0 l1 0) else (some false)
theorem spec_l00Same.calls (k : Nat) (A0 : Option Addr) (c0 : Nat) (l0 : List Int) (A1 : Option Addr) (c1 : Nat) (l1 : List Int) (r : Bool) (w : World) (hr0 : Kd.C (Kd.int .i64) w A0 l0.length l0) (hc0 : l0.length ≤ c0) (hr1 : Kd.C (Kd.int .i64) w A1 l1.length l1) (hc1 : l1.length ≤ c1) (h : spec_l00Same.f k l0 l1 = some r) :
  Calls Try.prog 89 #[.slice A0 l0.length c0, .slice A1 l1.length c1] w fun e w' => e = .returned (.bool r) ∧ Drawn0 w w' := by
 have HR0 := Aside0.mk hr0; have HC0 := Aside0.mk hc0; clear hr0 hc0; have HR1 := Aside0.mk hr1; have HC1 := Aside0.mk hc1; clear hr1 hc1; have H : (if (l0.length : Int) = (l1.length : Int) then (spec_l00Same.l0 k l0 l1 0) else (some false)) = some r := h; clear h
 by_cases c3 : (l0.length : Int) = (l1.length : Int)
 ·rw [if_pos c3] at H; have c3b0 : ((l0.length : Int) == (l1.length : Int)) = true := beq_iff_eq.mpr c3; have c3b1 : ((l0.length : Int) != (l1.length : Int)) = false := bne_eq_false_iff_eq.mpr c3
  have c3b2 : (l0.length == l1.length) = true := by first | simpa using c3 | (simp at c3 ⊢; omega)
  clear c3; have H' := Aside0.mk H; clear H; go_enter Try.func89, Try.ntmps89; go_wp2
  repeat (go_quiet (fail); try go_wp2)
  go_loopg [5] k (fun kq v5 w' => ∃ (x5_1 : Int), v5 = .int .i64 x5_1 ∧ Aside0 (spec_l00Same.l0 kq l0 l1 x5_1 = some r) ∧ Aside0 (kq ≤ k) ∧ Drawn0 w w')
  case atStart => exact ⟨(0), sv_, H', ⟨Nat.le_refl _⟩, dr_⟩
  case round =>
   clear H'; (try clear c1); (try clear p2); (try clear c3); (try clear c3b0); (try clear c3b1); (try clear c3b2); obtain ⟨x5_1, rfl, HA, HK1, ⟨m1, rfl⟩⟩ := hrel
   cases gk with
   | zero => exact absurd HA.out (by simp [spec_l00Same.l0])
   | succ k1 =>
    have H := HA.out; clear HA; simp only [spec_l00Same.l0] at H
    by_cases c4 : x5_1 < (l0.length : Int)
    ·rw [if_pos c4] at H; have c4b0 : decide (x5_1 < (l0.length : Int)) = true := decide_eq_true c4; clear c4
     by_cases c5 : 0 ≤ x5_1
     ·rw [if_pos c5] at H; have c5b0 : decide (0 ≤ x5_1) = true := decide_eq_true c5; clear c5
      by_cases c6 : x5_1 < (l1.length : Int)
      ·rw [if_pos c6] at H; have c6b0 : decide (x5_1 < (l1.length : Int)) = true := decide_eq_true c6; clear c6
       by_cases c7 : (rd l0 x5_1) = (rd l1 x5_1)
       ·rw [if_pos c7] at H; have c7b0 : ((rd l0 x5_1) == (rd l1 x5_1)) = true := beq_iff_eq.mpr c7; have c7b1 : ((rd l0 x5_1) != (rd l1 x5_1)) = false := bne_eq_false_iff_eq.mpr c7; clear c7; have H' := Aside0.mk H; clear H; have p492 : 0 ≤ (x5_1 : Int) := da_; have q492 : x5_1 < (l0.length : Int) := da_; obtain ⟨ad492, e492, hx492_0⟩ := Kd.at_int HR0.out x5_1 p492 q492; cases e492; replace p492 := eq_true p492; replace q492 := eq_true q492; have p493 : 0 ≤ (x5_1 : Int) := da_; have q493 : x5_1 < (l1.length : Int) := da_; obtain ⟨ad493, e493, hx493_0⟩ := Kd.at_int HR1.out x5_1 p493 q493; cases e493; replace p493 := eq_true p493; replace q493 := eq_true q493; go_wp2
        repeat (go_quiet (fail); try go_wp2)
        go_roundg k1
        case measure => have := HK1.out; omega
        case rel => exact ⟨(wrap64 (x5_1 + 1)), sv_, H', ⟨by have := HK1.out; omega⟩, dr_⟩
       ·rw [if_neg c7] at H; have c7b0 : ((rd l0 x5_1) == (rd l1 x5_1)) = false := beq_eq_false_iff_ne.mpr c7; have c7b1 : ((rd l0 x5_1) != (rd l1 x5_1)) = true := bne_iff_ne.mpr c7; obtain rfl := Option.some.inj H; have p492 : 0 ≤ (x5_1 : Int) := da_; have q492 : x5_1 < (l0.length : Int) := da_; obtain ⟨ad492, e492, hx492_0⟩ := Kd.at_int HR0.out x5_1 p492 q492; cases e492; replace p492 := eq_true p492; replace q492 := eq_true q492; have p493 : 0 ≤ (x5_1 : Int) := da_; have q493 : x5_1 < (l1.length : Int) := da_; obtain ⟨ad493, e493, hx493_0⟩ := Kd.at_int HR1.out x5_1 p493 q493; cases e493; replace p493 := eq_true p493; replace q493 := eq_true q493; go_wp2
        repeat (go_quiet (fail); try go_wp2)
        go_ret
        exact ⟨sv_, dr_⟩
      ·rw [if_neg c6] at H; exact absurd H (by simp)
     ·rw [if_neg c5] at H; exact absurd H (by simp)
    ·rw [if_neg c4] at H; have c4b0 : decide (x5_1 < (l0.length : Int)) = false := decide_eq_false c4; clear c4; obtain rfl := Option.some.inj H; go_wp2
     repeat (go_quiet (fail); try go_wp2)
     go_ret
     exact ⟨sv_, dr_⟩
 ·rw [if_neg c3] at H; have c3b0 : ((l0.length : Int) == (l1.length : Int)) = false := beq_eq_false_iff_ne.mpr c3; have c3b1 : ((l0.length : Int) != (l1.length : Int)) = true := bne_iff_ne.mpr c3
  have c3b2 : (l0.length == l1.length) = false := by first | simpa using c3 | (simp at c3 ⊢; omega)
  obtain rfl := Option.some.inj H; go_enter Try.func89, Try.ntmps89; go_wp2
  repeat (go_quiet (fail); try go_wp2)
  go_ret
  exact ⟨sv_, dr_⟩
def spec_l15Has.l0 : Nat → List Int → List Int → Int → Option (Bool)
 | 0, _, _, _ => none
 | k + 1, x0, x1, x5 => if (wrap64 (x5 + (x1.length : Int))) ≤ (x0.length : Int) then (if 0 ≤ x5 then (if x5 ≤ (wrap64 (x5 + (x1.length : Int))) then ((spec_l00Same.f k ((x0.take ((wrap64 (x5 + (x1.length : Int))) : Int).toNat).drop (x5 : Int).toNat) x1).bind fun t543 => (if t543 = true then (some true) else (spec_l15Has.l0 k x0 x1 (wrap64 (x5 + 1))))) else (none)) else (none)) else (some false)
def spec_l15Has.f (k : Nat) (l0 : List Int) (l1 : List Int) : Option (Bool) := spec_l15Has.l0 k l0 l1 0
theorem spec_l15Has.calls (k : Nat) (A0 : Option Addr) (c0 : Nat) (l0 : List Int) (A1 : Option Addr) (c1 : Nat) (l1 : List Int) (r : Bool) (w : World) (hr0 : Kd.C (Kd.int .i64) w A0 l0.length l0) (hc0 : l0.length ≤ c0) (hr1 : Kd.C (Kd.int .i64) w A1 l1.length l1) (hc1 : l1.length ≤ c1) (h : spec_l15Has.f k l0 l1 = some r) :
  Calls Try.prog 155 #[.slice A0 l0.length c0, .slice A1 l1.length c1] w fun e w' => e = .returned (.bool r) ∧ Drawn0 w w' := by
 have HR0 := Aside0.mk hr0; have HC0 := Aside0.mk hc0; clear hr0 hc0; have HR1 := Aside0.mk hr1; have HC1 := Aside0.mk hc1; clear hr1 hc1; have H : (spec_l15Has.l0 k l0 l1 0) = some r := h; clear h; have H' := Aside0.mk H; clear H; go_enter Try.func155, Try.ntmps155; go_wp2
 go_loopg [5] k (fun kq v5 w' => ∃ (x5_1 : Int), v5 = .int .i64 x5_1 ∧ Aside0 (spec_l15Has.l0 kq l0 l1 x5_1 = some r) ∧ Aside0 (kq ≤ k) ∧ Drawn0 w w')
 case atStart => exact ⟨(0), sv_, H', ⟨Nat.le_refl _⟩, dr_⟩
 case round =>
  clear H'; (try clear c1); (try clear p2); obtain ⟨x5_1, rfl, HA, HK1, ⟨m1, rfl⟩⟩ := hrel
  cases gk with
  | zero => exact absurd HA.out (by simp [spec_l15Has.l0])
  | succ k1 =>
   have H := HA.out; clear HA; simp only [spec_l15Has.l0] at H
   by_cases c3 : (wrap64 (x5_1 + (l1.length : Int))) ≤ (l0.length : Int)
   ·rw [if_pos c3] at H; have c3b0 : decide ((wrap64 (x5_1 + (l1.length : Int))) ≤ (l0.length : Int)) = true := decide_eq_true c3; clear c3
    by_cases c4 : 0 ≤ x5_1
    ·rw [if_pos c4] at H; have c4b0 := eq_true c4; have c4b1 : decide (0 ≤ x5_1) = true := decide_eq_true c4; clear c4
     by_cases c5 : x5_1 ≤ (wrap64 (x5_1 + (l1.length : Int)))
     ·rw [if_pos c5] at H; have c5b0 := eq_true c5; have c5b1 : decide (x5_1 ≤ (wrap64 (x5_1 + (l1.length : Int)))) = true := decide_eq_true c5; have c6b0 := eq_true (da_ : (wrap64 (x5_1 + (l1.length : Int))) ≤ (l0.length : Int)); replace H := Option.bind_eq_some_iff.mp H; obtain ⟨t543, A70, H⟩ := H; (try dsimp only at H); have A7 := Aside0.mk A70; clear A70
      by_cases c8 : t543 = true
      ·subst c8; rw [if_pos rfl] at H; obtain rfl := Option.some.inj H; obtain ⟨i09, hi09, _, hsz9, _⟩ := info_parts info2; obtain ⟨A9, hcut9, hA9, hC9⟩ := print_mid_of (P := Try.prog) (Value.int .i64) 0 22 2 .i64 .i64 Try.underlying22 hi09 hsz9 A0 c0 l0 x5_1 (wrap64 (x5_1 + (l1.length : Int))) (da_) (by first | omega | exact da_) (da_) HC0.out; have HR542 := Aside0.mk (Kd.C_of_reads (h1 := fun _ => rfl) (hA9 _ (Kd.reads_of_C HR0.out))); have HC542 := Aside0.mk hC9; clear hA9 hC9 hi09 hsz9; go_wp2_with (first | ((with_reducible refine gate_callee (f := 89) rfl ?_); refine goesL_ (some 23) rfl rfl Try.func89 (by kernel_rfl) rfl #[.slice A9 ((l0.take ((wrap64 (x5_1 + (l1.length : Int))) : Int).toNat).drop (x5_1 : Int).toNat).length (c0 - x5_1.toNat), .slice A1 l1.length c1] rfl (by (try simp only [List.map_toArray, List.map_cons, List.map_nil]); first | done | (rw [show ((l0.take ((wrap64 (x5_1 + (l1.length : Int))) : Int).toNat).drop (x5_1 : Int).toNat).length = ((wrap64 (x5_1 + (l1.length : Int))).toNat - x5_1.toNat) from (by rw [List.length_drop, List.length_take]; have h_ : ((wrap64 (x5_1 + (l1.length : Int))) : Int) ≤ (l0.length : Int) := da_; omega)] <;> rfl) | rfl | (simp only [List.length_drop, List.length_take]; rfl)) ?_; (with_reducible refine (spec_l00Same.calls k1 _ _ ((l0.take ((wrap64 (x5_1 + (l1.length : Int))) : Int).toNat).drop (x5_1 : Int).toNat) _ _ l1 true _ ?side1 HC542.out ?side3 HC1.out A7.out).mono ?_); (case side1 => exact cr_ HR542.out); (case side3 => exact cr_ HR1.out); rintro e w' ⟨rfl, ⟨nd, rfl⟩⟩; refine ⟨_, rfl, ?_⟩))
       go_ret
       exact ⟨sv_, dr_⟩
      ·replace c8 := Bool.eq_false_iff.mpr c8; subst c8; rw [if_neg (show ¬ (false = true) by decide)] at H; have H' := Aside0.mk H; clear H; obtain ⟨i010, hi010, _, hsz10, _⟩ := info_parts info2; obtain ⟨A10, hcut10, hA10, hC10⟩ := print_mid_of (P := Try.prog) (Value.int .i64) 0 22 2 .i64 .i64 Try.underlying22 hi010 hsz10 A0 c0 l0 x5_1 (wrap64 (x5_1 + (l1.length : Int))) (da_) (by first | omega | exact da_) (da_) HC0.out; have HR542 := Aside0.mk (Kd.C_of_reads (h1 := fun _ => rfl) (hA10 _ (Kd.reads_of_C HR0.out))); have HC542 := Aside0.mk hC10; clear hA10 hC10 hi010 hsz10; go_wp2_with (first | ((with_reducible refine gate_callee (f := 89) rfl ?_); refine goesL_ (some 23) rfl rfl Try.func89 (by kernel_rfl) rfl #[.slice A10 ((l0.take ((wrap64 (x5_1 + (l1.length : Int))) : Int).toNat).drop (x5_1 : Int).toNat).length (c0 - x5_1.toNat), .slice A1 l1.length c1] rfl (by (try simp only [List.map_toArray, List.map_cons, List.map_nil]); first | done | (rw [show ((l0.take ((wrap64 (x5_1 + (l1.length : Int))) : Int).toNat).drop (x5_1 : Int).toNat).length = ((wrap64 (x5_1 + (l1.length : Int))).toNat - x5_1.toNat) from (by rw [List.length_drop, List.length_take]; have h_ : ((wrap64 (x5_1 + (l1.length : Int))) : Int) ≤ (l0.length : Int) := da_; omega)] <;> rfl) | rfl | (simp only [List.length_drop, List.length_take]; rfl)) ?_; (with_reducible refine (spec_l00Same.calls k1 _ _ ((l0.take ((wrap64 (x5_1 + (l1.length : Int))) : Int).toNat).drop (x5_1 : Int).toNat) _ _ l1 false _ ?side1 HC542.out ?side3 HC1.out A7.out).mono ?_); (case side1 => exact cr_ HR542.out); (case side3 => exact cr_ HR1.out); rintro e w' ⟨rfl, ⟨nd, rfl⟩⟩; refine ⟨_, rfl, ?_⟩))
       go_roundg k1
       case measure => have := HK1.out; omega
       case rel => exact ⟨(wrap64 (x5_1 + 1)), sv_, H', ⟨by have := HK1.out; omega⟩, dr_⟩
     ·rw [if_neg c5] at H; exact absurd H (by simp)
    ·rw [if_neg c4] at H; exact absurd H (by simp)
   ·rw [if_neg c3] at H; have c3b0 : decide ((wrap64 (x5_1 + (l1.length : Int))) ≤ (l0.length : Int)) = false := decide_eq_false c3; clear c3; obtain rfl := Option.some.inj H; go_wp2
    go_ret
    exact ⟨sv_, dr_⟩
def spec_l15Parts.l0 : Nat → List Int → Int → Int → Int → Int → Int → Int → List (List Int) → Int → Option (Bool)
 | 0, _, _, _, _, _, _, _, _, _ => none
 | k + 1, x1, x5, x545000, x545001, x545002, x545003, x545004, x545005, x545006 => if x5 < (x545005.length : Int) then (if 0 ≤ x5 then ((spec_l15Has.f k x1 (rd_L1 x545005 x5)).bind fun t546 => (if t546 = true then (spec_l15Parts.l0 k x1 (wrap64 (x5 + 1)) x545000 x545001 x545002 x545003 x545004 x545005 x545006) else (some false))) else (none)) else (some true)
def spec_l15Parts.f (k : Nat) (a0_0 : Int) (a0_1 : Int) (a0_2 : Int) (a0_3 : Int) (a0_4 : Int) (l0_5 : List (List Int)) (a0_6 : Int) (l1 : List Int) : Option (Bool) := spec_l15Parts.l0 k l1 0 a0_0 a0_1 a0_2 a0_3 a0_4 l0_5 a0_6
theorem spec_l15Parts.calls (k : Nat) (g0 : Nat) (a0_0 : Int) (a0_1 : Int) (a0_2 : Int) (a0_3 : Int) (a0_4 : Int) (A0_5 : Option Addr) (c0_5 : Nat) (l0_5 : List (List Int)) (a0_6 : Int) (A1 : Option Addr) (c1 : Nat) (l1 : List Int) (r : Bool) (w : World) (hp0 : w.heap[g0]? = some (.cells #[.int .i64 a0_0, .int .i64 a0_1, .int .i64 a0_2, .int .i64 a0_3, .int .i64 a0_4, .slice A0_5 l0_5.length c0_5, .int .i64 a0_6] 62 (0, 0))) (hr0_5 : Kd.C (Kd.slice 2 (Kd.int .i64)) w A0_5 l0_5.length l0_5) (hc0_5 : l0_5.length ≤ c0_5) (hr1 : Kd.C (Kd.int .i64) w A1 l1.length l1) (hc1 : l1.length ≤ c1) (h : spec_l15Parts.f k a0_0 a0_1 a0_2 a0_3 a0_4 l0_5 a0_6 l1 = some r) :
  Calls Try.prog 130 #[.pointer (some ⟨g0, 0, none⟩), .slice A1 l1.length c1] w fun e w' => e = .returned (.bool r) ∧ Drawn0 w w' := by
 have HR0_5 := Aside0.mk hr0_5; have HC0_5 := Aside0.mk hc0_5; clear hr0_5 hc0_5; have HR1 := Aside0.mk hr1; have HC1 := Aside0.mk hc1; clear hr1 hc1; have HBX0 := Aside0.mk hp0; have HBP0 := Aside0.mk hp0; clear hp0; have H : (spec_l15Parts.l0 k l1 0 a0_0 a0_1 a0_2 a0_3 a0_4 l0_5 a0_6) = some r := h; clear h; have H' := Aside0.mk H; clear H; go_enter Try.func130, Try.ntmps130; go_wp2
 go_loopg [5] k (fun kq v5 w' => ∃ (x5_1 : Int), v5 = .int .i64 x5_1 ∧ Aside0 (spec_l15Parts.l0 kq l1 x5_1 a0_0 a0_1 a0_2 a0_3 a0_4 l0_5 a0_6 = some r) ∧ Aside0 (kq ≤ k) ∧ Aside0 (w'.heap[g0]? = some (.cells #[.int .i64 a0_0, .int .i64 a0_1, .int .i64 a0_2, .int .i64 a0_3, .int .i64 a0_4, (.slice A0_5 l0_5.length c0_5), .int .i64 a0_6] 62 (0, 0))) ∧ Drawn0 w w')
 case atStart => exact ⟨(0), sv_, H', ⟨Nat.le_refl _⟩, ⟨by (with_reducible repeat (first | refine blk_drewN ?_ _ | refine blk_drew ?_ | refine blk_alloc ?_ _)); exact HBP0.out⟩, dr_⟩
 case round =>
  clear H'; (try clear c1); (try clear p2); obtain ⟨x5_1, rfl, HA, HK1, HBX0, ⟨m1, rfl⟩⟩ := hrel
  cases gk with
  | zero => exact absurd HA.out (by simp [spec_l15Parts.l0])
  | succ k1 =>
   have H := HA.out; clear HA; simp only [spec_l15Parts.l0] at H
   by_cases c3 : x5_1 < (l0_5.length : Int)
   ·rw [if_pos c3] at H; have c3b0 : decide (x5_1 < (l0_5.length : Int)) = true := decide_eq_true c3; clear c3
    by_cases c4 : 0 ≤ x5_1
    ·rw [if_pos c4] at H; have c4b0 : decide (0 ≤ x5_1) = true := decide_eq_true c4; clear c4; replace H := Option.bind_eq_some_iff.mp H; obtain ⟨t546, A50, H⟩ := H; (try dsimp only at H); have A5 := Aside0.mk A50; clear A50
     by_cases c6 : t546 = true
     ·subst c6; rw [if_pos rfl] at H; have H' := Aside0.mk H; clear H; obtain ⟨hcz7_0, hcz7_1, hcz7_2, hcz7_3, hcz7_4, hcz7_5, hcz7_6, -⟩ := bx7_ (w := w) HBP0.out; have p545 : 0 ≤ (x5_1 : Int) := da_; have q545 : x5_1 < (l0_5.length : Int) := da_; obtain ⟨ad545, A545_0, c545_0, e545, hx545_0, hl545_0, hi545_0⟩ := at_L1 HR0_5.out x5_1 p545 q545; cases e545; have HR545_0 := Aside0.mk hi545_0; have HC545_0 := Aside0.mk hl545_0; clear hi545_0 hl545_0; replace p545 := eq_true p545; replace q545 := eq_true q545; go_wp2_with (first | ((with_reducible refine gate_callee (f := 155) rfl ?_); refine goesL_ (some 23) rfl rfl Try.func155 (by kernel_rfl) rfl #[.slice A1 l1.length c1, .slice A545_0 (rd_L1 l0_5 x5_1).length c545_0] rfl av_ ?_; (with_reducible refine (spec_l15Has.calls k1 _ _ l1 _ _ (rd_L1 l0_5 x5_1) true _ ?side1 HC1.out ?side3 HC545_0.out A5.out).mono ?_); (case side1 => exact cr_ HR1.out); (case side3 => exact cr_ HR545_0.out); rintro e w' ⟨rfl, ⟨nd, rfl⟩⟩; refine ⟨_, rfl, ?_⟩))
      go_roundg k1
      case measure => have := HK1.out; omega
      case rel => exact ⟨(wrap64 (x5_1 + 1)), sv_, H', ⟨by have := HK1.out; omega⟩, ⟨by (with_reducible repeat (first | refine blk_drewN ?_ _ | refine blk_drew ?_ | refine blk_alloc ?_ _)); exact HBP0.out⟩, dr_⟩
     ·replace c6 := Bool.eq_false_iff.mpr c6; subst c6; rw [if_neg (show ¬ (false = true) by decide)] at H; obtain rfl := Option.some.inj H; obtain ⟨hcz8_0, hcz8_1, hcz8_2, hcz8_3, hcz8_4, hcz8_5, hcz8_6, -⟩ := bx7_ (w := w) HBP0.out; have p545 : 0 ≤ (x5_1 : Int) := da_; have q545 : x5_1 < (l0_5.length : Int) := da_; obtain ⟨ad545, A545_0, c545_0, e545, hx545_0, hl545_0, hi545_0⟩ := at_L1 HR0_5.out x5_1 p545 q545; cases e545; have HR545_0 := Aside0.mk hi545_0; have HC545_0 := Aside0.mk hl545_0; clear hi545_0 hl545_0; replace p545 := eq_true p545; replace q545 := eq_true q545; go_wp2_with (first | ((with_reducible refine gate_callee (f := 155) rfl ?_); refine goesL_ (some 23) rfl rfl Try.func155 (by kernel_rfl) rfl #[.slice A1 l1.length c1, .slice A545_0 (rd_L1 l0_5 x5_1).length c545_0] rfl av_ ?_; (with_reducible refine (spec_l15Has.calls k1 _ _ l1 _ _ (rd_L1 l0_5 x5_1) false _ ?side1 HC1.out ?side3 HC545_0.out A5.out).mono ?_); (case side1 => exact cr_ HR1.out); (case side3 => exact cr_ HR545_0.out); rintro e w' ⟨rfl, ⟨nd, rfl⟩⟩; refine ⟨_, rfl, ?_⟩))
      go_ret
      exact ⟨sv_, dr_⟩
    ·rw [if_neg c4] at H; exact absurd H (by simp)
   ·rw [if_neg c3] at H; have c3b0 : decide (x5_1 < (l0_5.length : Int)) = false := decide_eq_false c3; clear c3; obtain rfl := Option.some.inj H; obtain ⟨hcz9_0, hcz9_1, hcz9_2, hcz9_3, hcz9_4, hcz9_5, hcz9_6, -⟩ := bx7_ (w := w) HBP0.out; go_wp2
    go_ret
    exact ⟨sv_, dr_⟩
def spec_l15Repeats.l0 : Nat → List Int → Int → Int → Int → Option (Int)
 | 0, _, _, _, _ => none
 | k + 1, x0, x3, x4, x5 => if x5 < (x0.length : Int) then (if 0 ≤ x5 then (if 0 ≤ (wrap64 (x5 - 1)) then (if (wrap64 (x5 - 1)) < (x0.length : Int) then (if (rd x0 x5) = (rd x0 (wrap64 (x5 - 1))) then ((spec_l00Max.f x3 (wrap64 (x4 + 1))).bind fun t540 => (spec_l15Repeats.l0 k x0 t540 (wrap64 (x4 + 1)) (wrap64 (x5 + 1)))) else ((spec_l00Max.f x3 0).bind fun t541 => (spec_l15Repeats.l0 k x0 t541 0 (wrap64 (x5 + 1))))) else (none)) else (none)) else (none)) else (some x3)
def spec_l15Repeats.f (k : Nat) (l0 : List Int) : Option (Int) := spec_l15Repeats.l0 k l0 0 0 1
theorem spec_l15Repeats.calls (k : Nat) (A0 : Option Addr) (c0 : Nat) (l0 : List Int) (r : Int) (w : World) (hr0 : Kd.C (Kd.int .i64) w A0 l0.length l0) (hc0 : l0.length ≤ c0) (h : spec_l15Repeats.f k l0 = some r) :
  Calls Try.prog 129 #[.slice A0 l0.length c0] w fun e w' => e = .returned (.int .i64 r) ∧ Drawn0 w w' := by
 have HR0 := Aside0.mk hr0; have HC0 := Aside0.mk hc0; clear hr0 hc0; have H : (spec_l15Repeats.l0 k l0 0 0 1) = some r := h; clear h; have H' := Aside0.mk H; clear H; go_enter Try.func129, Try.ntmps129; go_wp2
 repeat (go_quiet (fail); try go_wp2)
 go_loopg [3, 4, 5] k (fun kq v3 v4 v5 w' => ∃ (x3_1 : Int) (x4_1 : Int) (x5_1 : Int), v3 = .int .i64 x3_1 ∧ v4 = .int .i64 x4_1 ∧ v5 = .int .i64 x5_1 ∧ Aside0 (spec_l15Repeats.l0 kq l0 x3_1 x4_1 x5_1 = some r) ∧ Aside0 (kq ≤ k) ∧ Drawn0 w w')
 case atStart => exact ⟨(0), (0), (1), sv_, sv_, sv_, H', ⟨Nat.le_refl _⟩, dr_⟩
 case round =>
  clear H'
  try clear c1
  obtain ⟨x3_1, x4_1, x5_1, rfl, rfl, rfl, HA, HK1, ⟨m1, rfl⟩⟩ := hrel
  cases gk with
  | zero => exact absurd HA.out (by simp [spec_l15Repeats.l0])
  | succ k1 =>
   have H := HA.out; clear HA; simp only [spec_l15Repeats.l0] at H
   by_cases c2 : x5_1 < (l0.length : Int)
   ·rw [if_pos c2] at H; have c2b0 : decide (x5_1 < (l0.length : Int)) = true := decide_eq_true c2; clear c2
    by_cases c3 : 0 ≤ x5_1
    ·rw [if_pos c3] at H; have c3b0 : decide (0 ≤ x5_1) = true := decide_eq_true c3; clear c3; obtain ⟨ji4, hji4⟩ : ∃ j_ : Int, (wrap64 (x5_1 - 1)) = j_ := ⟨_, rfl⟩
     replace H : (if 0 ≤ (ji4) then (if (ji4) < (l0.length : Int) then (if (rd l0 x5_1) = (rd l0 (ji4)) then ((spec_l00Max.f x3_1 (wrap64 (x4_1 + 1))).bind fun t540 => (spec_l15Repeats.l0 k1 l0 t540 (wrap64 (x4_1 + 1)) (wrap64 (x5_1 + 1)))) else ((spec_l00Max.f x3_1 0).bind fun t541 => (spec_l15Repeats.l0 k1 l0 t541 0 (wrap64 (x5_1 + 1))))) else (none)) else (none)) = some r := by first | (rw [hji4] at H; exact H) | (simp only [hji4] at H ⊢; exact H)
     have hji4w : (IntKind.i64.wrap (x5_1 - 1)) = ji4 := (i64_w _).trans hji4
     by_cases c5 : 0 ≤ (ji4)
     ·rw [if_pos c5] at H; have c5b0 : decide (0 ≤ (ji4)) = true := decide_eq_true c5; clear c5
      by_cases c6 : (ji4) < (l0.length : Int)
      ·rw [if_pos c6] at H; have c6b0 : decide ((ji4) < (l0.length : Int)) = true := decide_eq_true c6; clear c6
       by_cases c7 : (rd l0 x5_1) = (rd l0 (ji4))
       ·rw [if_pos c7] at H; have c7b0 : ((rd l0 x5_1) == (rd l0 (ji4))) = true := beq_iff_eq.mpr c7; have c7b1 : ((rd l0 x5_1) != (rd l0 (ji4))) = false := bne_eq_false_iff_eq.mpr c7; clear c7; replace H := Option.bind_eq_some_iff.mp H; obtain ⟨t540, A80, H⟩ := H; (try dsimp only at H); have A8 := Aside0.mk A80; clear A80; have H' := Aside0.mk H; clear H; have p538 : 0 ≤ (x5_1 : Int) := da_; have q538 : x5_1 < (l0.length : Int) := da_; obtain ⟨ad538, e538, hx538_0⟩ := Kd.at_int HR0.out x5_1 p538 q538; cases e538; replace p538 := eq_true p538; replace q538 := eq_true q538; have p539 : 0 ≤ ((ji4) : Int) := da_; have q539 : (ji4) < (l0.length : Int) := da_; obtain ⟨ad539, e539, hx539_0⟩ := Kd.at_int HR0.out (ji4) p539 q539; obtain rfl : ad538 = ad539 := (by injection e539); replace p539 := eq_true p539; replace q539 := eq_true q539; go_wp2_with (first | (go_at_call 140; (with_reducible refine (spec_l00Max.calls x3_1 (wrap64 (x4_1 + 1)) t540 _ A8.out).mono ?_); rintro e w' ⟨rfl, ⟨nd, rfl⟩⟩; (try first | exact ⟨rfl, _, dN1⟩ | exact ⟨rfl, _, dN2⟩)))
        repeat (go_quiet (first | (go_at_call 140; (with_reducible refine (spec_l00Max.calls x3_1 (wrap64 (x4_1 + 1)) t540 _ A8.out).mono ?_); rintro e w' ⟨rfl, ⟨nd, rfl⟩⟩; (try first | exact ⟨rfl, _, dN1⟩ | exact ⟨rfl, _, dN2⟩))); try go_wp2_with (first | (go_at_call 140; (with_reducible refine (spec_l00Max.calls x3_1 (wrap64 (x4_1 + 1)) t540 _ A8.out).mono ?_); rintro e w' ⟨rfl, ⟨nd, rfl⟩⟩; (try first | exact ⟨rfl, _, dN1⟩ | exact ⟨rfl, _, dN2⟩))))
        go_roundg k1
        case measure => have := HK1.out; omega
        case rel => exact ⟨(t540), (wrap64 (x4_1 + 1)), (wrap64 (x5_1 + 1)), sv_, sv_, sv_, H', ⟨by have := HK1.out; omega⟩, dr_⟩
       ·rw [if_neg c7] at H; have c7b0 : ((rd l0 x5_1) == (rd l0 (ji4))) = false := beq_eq_false_iff_ne.mpr c7; have c7b1 : ((rd l0 x5_1) != (rd l0 (ji4))) = true := bne_iff_ne.mpr c7; replace H := Option.bind_eq_some_iff.mp H; obtain ⟨t541, A90, H⟩ := H; (try dsimp only at H); have A9 := Aside0.mk A90; clear A90; have H' := Aside0.mk H; clear H; have p538 : 0 ≤ (x5_1 : Int) := da_; have q538 : x5_1 < (l0.length : Int) := da_; obtain ⟨ad538, e538, hx538_0⟩ := Kd.at_int HR0.out x5_1 p538 q538; cases e538; replace p538 := eq_true p538; replace q538 := eq_true q538; have p539 : 0 ≤ ((ji4) : Int) := da_; have q539 : (ji4) < (l0.length : Int) := da_; obtain ⟨ad539, e539, hx539_0⟩ := Kd.at_int HR0.out (ji4) p539 q539; obtain rfl : ad538 = ad539 := (by injection e539); replace p539 := eq_true p539; replace q539 := eq_true q539; go_wp2_with (first | (go_at_call 140; (with_reducible refine (spec_l00Max.calls x3_1 0 t541 _ A9.out).mono ?_); rintro e w' ⟨rfl, ⟨nd, rfl⟩⟩; (try first | exact ⟨rfl, _, dN1⟩ | exact ⟨rfl, _, dN2⟩)))
        repeat (go_quiet (first | (go_at_call 140; (with_reducible refine (spec_l00Max.calls x3_1 0 t541 _ A9.out).mono ?_); rintro e w' ⟨rfl, ⟨nd, rfl⟩⟩; (try first | exact ⟨rfl, _, dN1⟩ | exact ⟨rfl, _, dN2⟩))); try go_wp2_with (first | (go_at_call 140; (with_reducible refine (spec_l00Max.calls x3_1 0 t541 _ A9.out).mono ?_); rintro e w' ⟨rfl, ⟨nd, rfl⟩⟩; (try first | exact ⟨rfl, _, dN1⟩ | exact ⟨rfl, _, dN2⟩))))
        go_roundg k1
        case measure => have := HK1.out; omega
        case rel => exact ⟨(t541), (0), (wrap64 (x5_1 + 1)), sv_, sv_, sv_, H', ⟨by have := HK1.out; omega⟩, dr_⟩
      ·rw [if_neg c6] at H; exact absurd H (by simp)
     ·rw [if_neg c5] at H; exact absurd H (by simp)
    ·rw [if_neg c3] at H; exact absurd H (by simp)
   ·rw [if_neg c2] at H; have c2b0 : decide (x5_1 < (l0.length : Int)) = false := decide_eq_false c2; clear c2; obtain rfl := Option.some.inj H; go_wp2
    repeat (go_quiet (fail); try go_wp2)
    go_ret
    exact ⟨sv_, dr_⟩
mutual
def spec_l15Is.j0 : Nat → List Int → Bool → ByteArray → List Int → List Int → Int → Int → List (List Int) → Int → Int → Int → Int → Int → List (List Int) → Int → Option (Bool)
 | 0, _, _, _, _, _, _, _, _, _, _, _, _, _, _, _ => none
 | k + 1, x2, x41, x548000, x548001, x548002, x548003, x548004, x548005, x549000, x549001, x549002, x549003, x549004, x549005, x549006 => if x41 = true then (some false) else (spec_l15Is.l0 k x2 0 x548000 x548001 x548002 x548003 x548004 x548005 x549000 x549001 x549002 x549003 x549004 x549005 x549006)
def spec_l15Is.l0 : Nat → List Int → Int → ByteArray → List Int → List Int → Int → Int → List (List Int) → Int → Int → Int → Int → Int → List (List Int) → Int → Option (Bool)
 | 0, _, _, _, _, _, _, _, _, _, _, _, _, _, _, _ => none
 | k + 1, x2, x7, x548000, x548001, x548002, x548003, x548004, x548005, x549000, x549001, x549002, x549003, x549004, x549005, x549006 => if x7 < (x2.length : Int) then (if 0 ≤ x7 then ((spec_l00In.f (rd x2 x7) x549003 x549004).bind fun t552 => (if t552 = true then (spec_l15Is.l0 k x2 (wrap64 (x7 + 1)) x548000 x548001 x548002 x548003 x548004 x548005 x549000 x549001 x549002 x549003 x549004 x549005 x549006) else (some false))) else (none)) else ((spec_l05Wrong.f k x548000 x548001 x548002 x548003 x548004 x548005 x2).bind fun bt553 => (if bt553.1 < 0 then ((spec_l15Repeats.f k x2).bind fun t555 => (if t555 ≤ x549006 then ((spec_l15Parts.f k x549000 x549001 x549002 x549003 x549004 x549005 x549006 x2).bind fun t556 => (some t556)) else (some false))) else (some false)))
end
def spec_l15Is.f (k : Nat) (a0_0 : ByteArray) (l0_1 : List Int) (l0_2 : List Int) (a0_3 : Int) (a0_4 : Int) (l0_5 : List (List Int)) (a1_0 : Int) (a1_1 : Int) (a1_2 : Int) (a1_3 : Int) (a1_4 : Int) (l1_5 : List (List Int)) (a1_6 : Int) (l2 : List Int) : Option (Bool) := if (l2.length : Int) = a1_0 then (if 0 < (l2.length : Int) then (if (rd l2 0) = a1_1 then (if 0 ≤ (wrap64 (a1_0 - 1)) then (if (wrap64 (a1_0 - 1)) < (l2.length : Int) then (spec_l15Is.j0 k l2 ((rd l2 (wrap64 (a1_0 - 1))) != a1_2) a0_0 l0_1 l0_2 a0_3 a0_4 l0_5 a1_0 a1_1 a1_2 a1_3 a1_4 l1_5 a1_6) else (none)) else (none)) else (spec_l15Is.j0 k l2 true a0_0 l0_1 l0_2 a0_3 a0_4 l0_5 a1_0 a1_1 a1_2 a1_3 a1_4 l1_5 a1_6)) else (none)) else (spec_l15Is.j0 k l2 true a0_0 l0_1 l0_2 a0_3 a0_4 l0_5 a1_0 a1_1 a1_2 a1_3 a1_4 l1_5 a1_6)
theorem spec_l15Is.calls (k : Nat) (g0 : Nat) (a0_0 : ByteArray) (A0_1 : Option Addr) (c0_1 : Nat) (l0_1 : List Int) (A0_2 : Option Addr) (c0_2 : Nat) (l0_2 : List Int) (a0_3 : Int) (a0_4 : Int) (A0_5 : Option Addr) (c0_5 : Nat) (l0_5 : List (List Int)) (g1 : Nat) (a1_0 : Int) (a1_1 : Int) (a1_2 : Int) (a1_3 : Int) (a1_4 : Int) (A1_5 : Option Addr) (c1_5 : Nat) (l1_5 : List (List Int)) (a1_6 : Int) (A2 : Option Addr) (c2 : Nat) (l2 : List Int) (r : Bool) (w : World) (hp0 : w.heap[g0]? = some (.cells #[.string a0_0, .slice A0_1 l0_1.length c0_1, .slice A0_2 l0_2.length c0_2, .int .i64 a0_3, .int .i64 a0_4, .slice A0_5 l0_5.length c0_5] 29 (0, 0))) (hr0_1 : Kd.C (Kd.int .i64) w A0_1 l0_1.length l0_1) (hc0_1 : l0_1.length ≤ c0_1) (hr0_2 : Kd.C (Kd.int .i64) w A0_2 l0_2.length l0_2) (hc0_2 : l0_2.length ≤ c0_2) (hr0_5 : Kd.C (Kd.slice 2 (Kd.int .i64)) w A0_5 l0_5.length l0_5) (hc0_5 : l0_5.length ≤ c0_5) (hp1 : w.heap[g1]? = some (.cells #[.int .i64 a1_0, .int .i64 a1_1, .int .i64 a1_2, .int .i64 a1_3, .int .i64 a1_4, .slice A1_5 l1_5.length c1_5, .int .i64 a1_6] 62 (0, 0))) (hr1_5 : Kd.C (Kd.slice 2 (Kd.int .i64)) w A1_5 l1_5.length l1_5) (hc1_5 : l1_5.length ≤ c1_5) (hr2 : Kd.C (Kd.int .i64) w A2 l2.length l2) (hc2 : l2.length ≤ c2) (h : spec_l15Is.f k a0_0 l0_1 l0_2 a0_3 a0_4 l0_5 a1_0 a1_1 a1_2 a1_3 a1_4 l1_5 a1_6 l2 = some r) :
  Calls Try.prog 95 #[.pointer (some ⟨g0, 0, none⟩), .pointer (some ⟨g1, 0, none⟩), .slice A2 l2.length c2] w fun e w' => e = .returned (.bool r) ∧ Drawn0 w w' := by
 have HR0_1 := Aside0.mk hr0_1; have HC0_1 := Aside0.mk hc0_1; clear hr0_1 hc0_1; have HR0_2 := Aside0.mk hr0_2; have HC0_2 := Aside0.mk hc0_2; clear hr0_2 hc0_2; have HR0_5 := Aside0.mk hr0_5; have HC0_5 := Aside0.mk hc0_5; clear hr0_5 hc0_5; have HR1_5 := Aside0.mk hr1_5; have HC1_5 := Aside0.mk hc1_5; clear hr1_5 hc1_5; have HR2 := Aside0.mk hr2; have HC2 := Aside0.mk hc2; clear hr2 hc2; have HBX0 := Aside0.mk hp0; have HBP0 := Aside0.mk hp0; clear hp0; have HBX1 := Aside0.mk hp1; have HBP1 := Aside0.mk hp1; clear hp1; have H : (if (l2.length : Int) = a1_0 then (if 0 < (l2.length : Int) then (if (rd l2 0) = a1_1 then (if 0 ≤ (wrap64 (a1_0 - 1)) then (if (wrap64 (a1_0 - 1)) < (l2.length : Int) then (spec_l15Is.j0 k l2 ((rd l2 (wrap64 (a1_0 - 1))) != a1_2) a0_0 l0_1 l0_2 a0_3 a0_4 l0_5 a1_0 a1_1 a1_2 a1_3 a1_4 l1_5 a1_6) else (none)) else (none)) else (spec_l15Is.j0 k l2 true a0_0 l0_1 l0_2 a0_3 a0_4 l0_5 a1_0 a1_1 a1_2 a1_3 a1_4 l1_5 a1_6)) else (none)) else (spec_l15Is.j0 k l2 true a0_0 l0_1 l0_2 a0_3 a0_4 l0_5 a1_0 a1_1 a1_2 a1_3 a1_4 l1_5 a1_6)) = some r := h; clear h; have HC4 := Aside0.mk H; clear H; go_enter Try.func95, Try.ntmps95
 go_upto_region 1 with (fail)
 repeat (go_quiet (fail); go_upto_region 1 with (fail))
 go_cut [41] (fun v41 wc => ∃ (kq : Nat) (x41_3 : Bool), v41 = .bool x41_3 ∧ Aside0 (spec_l15Is.j0 kq l2 x41_3 a0_0 l0_1 l0_2 a0_3 a0_4 l0_5 a1_0 a1_1 a1_2 a1_3 a1_4 l1_5 a1_6 = some r) ∧ Aside0 (kq ≤ k) ∧ Aside0 (wc.heap[g0]? = some (.cells #[.string a0_0, (.slice A0_1 l0_1.length c0_1), (.slice A0_2 l0_2.length c0_2), .int .i64 a0_3, .int .i64 a0_4, (.slice A0_5 l0_5.length c0_5)] 29 (0, 0))) ∧ Aside0 (wc.heap[g1]? = some (.cells #[.int .i64 a1_0, .int .i64 a1_1, .int .i64 a1_2, .int .i64 a1_3, .int .i64 a1_4, (.slice A1_5 l1_5.length c1_5), .int .i64 a1_6] 62 (0, 0))) ∧ Drawn0 w wc)
 case first =>
  have H := HC4.out; clear HC4
  by_cases c5 : (l2.length : Int) = a1_0
  ·rw [if_pos c5] at H; have c5b0 : ((l2.length : Int) == a1_0) = true := beq_iff_eq.mpr c5; have c5b1 : ((l2.length : Int) != a1_0) = false := bne_eq_false_iff_eq.mpr c5; clear c5; (first | rw [c5b0] | (simp only [i64_w, i32_w]; rw [c5b0]) | skip)
   by_cases c6 : 0 < (l2.length : Int)
   ·rw [if_pos c6] at H; have c6b0 : decide (0 < (l2.length : Int)) = true := decide_eq_true c6; have c6b1 : decide (0 < l2.length) = true := decide_eq_true (by omega); clear c6
    by_cases c7 : (rd l2 0) = a1_1
    ·rw [if_pos c7] at H; have c7b0 : ((rd l2 0) == a1_1) = true := beq_iff_eq.mpr c7; have c7b1 : ((rd l2 0) != a1_1) = false := bne_eq_false_iff_eq.mpr c7; clear c7; obtain ⟨ji8, hji8⟩ : ∃ j_ : Int, (wrap64 (a1_0 - 1)) = j_ := ⟨_, rfl⟩
     replace H : (if 0 ≤ (ji8) then (if (ji8) < (l2.length : Int) then (spec_l15Is.j0 k l2 ((rd l2 (ji8)) != a1_2) a0_0 l0_1 l0_2 a0_3 a0_4 l0_5 a1_0 a1_1 a1_2 a1_3 a1_4 l1_5 a1_6) else (none)) else (none)) = some r := by first | (rw [hji8] at H; exact H) | (simp only [hji8] at H ⊢; exact H)
     have hji8w : (IntKind.i64.wrap (a1_0 - 1)) = ji8 := (i64_w _).trans hji8
     by_cases c9 : 0 ≤ (ji8)
     ·rw [if_pos c9] at H; have c9b0 : decide (0 ≤ (ji8)) = true := decide_eq_true c9; clear c9
      by_cases c10 : (ji8) < (l2.length : Int)
      ·rw [if_pos c10] at H; have c10b0 : decide ((ji8) < (l2.length : Int)) = true := decide_eq_true c10; clear c10; have H' := Aside0.mk H; clear H; obtain ⟨hcz11_0, hcz11_1, hcz11_2, hcz11_3, hcz11_4, hcz11_5, hcz11_6, -⟩ := bx7_ (w := w) HBP1.out; have p549 : 0 ≤ (0 : Int) := (by omega); have q549 : 0 < (l2.length : Int) := da_; obtain ⟨ad549, e549, hx549_0⟩ := Kd.at_int HR2.out 0 p549 q549; cases e549; have qi549 : (0 < l2.length) = True := eq_true (by omega); (try rw [ti0_] at hx549_0); (try rw [Addr.add_zero'] at hx549_0); replace p549 := eq_true p549; replace q549 := eq_true q549; have p550 : 0 ≤ ((ji8) : Int) := da_; have q550 : (ji8) < (l2.length : Int) := da_; obtain ⟨ad550, e550, hx550_0⟩ := Kd.at_int HR2.out (ji8) p550 q550; obtain rfl : ad549 = ad550 := (by injection e550); replace p550 := eq_true p550; replace q550 := eq_true q550; go_wp2
       repeat (go_quiet (fail); try go_wp2)
       go_meet
       case rel => exact ⟨_, (((rd l2 (ji8)) != a1_2)), (by first | rfl | (simp; done) | (simp only [← hji8] <;> (first | rfl | simp)) | (simp [*]; done)), H', ⟨by first | omega | exact Nat.le_refl _⟩, ⟨by (with_reducible repeat (first | refine blk_drewN ?_ _ | refine blk_drew ?_ | refine blk_alloc ?_ _)); exact HBP0.out⟩, ⟨by (with_reducible repeat (first | refine blk_drewN ?_ _ | refine blk_drew ?_ | refine blk_alloc ?_ _)); exact HBP1.out⟩, dr_⟩
      ·rw [if_neg c10] at H; exact absurd H (by simp)
     ·rw [if_neg c9] at H; exact absurd H (by simp)
    ·rw [if_neg c7] at H; have c7b0 : ((rd l2 0) == a1_1) = false := beq_eq_false_iff_ne.mpr c7; have c7b1 : ((rd l2 0) != a1_1) = true := bne_iff_ne.mpr c7; have H' := Aside0.mk H; clear H; obtain ⟨hcz12_0, hcz12_1, hcz12_2, hcz12_3, hcz12_4, hcz12_5, hcz12_6, -⟩ := bx7_ (w := w) HBP1.out; have p549 : 0 ≤ (0 : Int) := (by omega); have q549 : 0 < (l2.length : Int) := da_; obtain ⟨ad549, e549, hx549_0⟩ := Kd.at_int HR2.out 0 p549 q549; cases e549; have qi549 : (0 < l2.length) = True := eq_true (by omega); (try rw [ti0_] at hx549_0); (try rw [Addr.add_zero'] at hx549_0); replace p549 := eq_true p549; replace q549 := eq_true q549; go_wp2
     repeat (go_quiet (fail); try go_wp2)
     go_meet
     case rel => exact ⟨_, (true), sv_, H', ⟨by first | omega | exact Nat.le_refl _⟩, ⟨by (with_reducible repeat (first | refine blk_drewN ?_ _ | refine blk_drew ?_ | refine blk_alloc ?_ _)); exact HBP0.out⟩, ⟨by (with_reducible repeat (first | refine blk_drewN ?_ _ | refine blk_drew ?_ | refine blk_alloc ?_ _)); exact HBP1.out⟩, dr_⟩
   ·rw [if_neg c6] at H; exact absurd H (by simp)
  ·rw [if_neg c5] at H; have c5b0 : ((l2.length : Int) == a1_0) = false := beq_eq_false_iff_ne.mpr c5; have c5b1 : ((l2.length : Int) != a1_0) = true := bne_iff_ne.mpr c5; (first | rw [c5b0] | (simp only [i64_w, i32_w]; rw [c5b0]) | skip); have H' := Aside0.mk H; clear H; obtain ⟨hcz13_0, hcz13_1, hcz13_2, hcz13_3, hcz13_4, hcz13_5, hcz13_6, -⟩ := bx7_ (w := w) HBP1.out; go_wp2
   repeat (go_quiet (fail); try go_wp2)
   go_meet
   case rel => exact ⟨_, (true), sv_, H', ⟨by first | omega | exact Nat.le_refl _⟩, ⟨by (with_reducible repeat (first | refine blk_drewN ?_ _ | refine blk_drew ?_ | refine blk_alloc ?_ _)); exact HBP0.out⟩, ⟨by (with_reducible repeat (first | refine blk_drewN ?_ _ | refine blk_drew ?_ | refine blk_alloc ?_ _)); exact HBP1.out⟩, dr_⟩
 case rest =>
  clear HC4; (try clear c1); (try clear p1); (try clear c2); (try clear p2); (try clear c5); (try clear c5b0); (try clear c5b1); (try clear p5); (try clear q5); (try clear hx5); (try clear qi5); (try clear c6); (try clear c6b0); (try clear c6b1); (try clear p6); (try clear c7); (try clear c7b0); (try clear c7b1); (try clear c9); (try clear c9b0); (try clear c10); (try clear c10b0); (try clear hcz11_0 hcz11_1 hcz11_2 hcz11_3 hcz11_4 hcz11_5 hcz11_6 hcz12_0 hcz12_1 hcz12_2 hcz12_3 hcz12_4 hcz12_5 hcz12_6 hcz13_0 hcz13_1 hcz13_2 hcz13_3 hcz13_4 hcz13_5 hcz13_6); (try clear hx549_0); (try clear hx550_0); (try clear p549); (try clear p550); (try clear q549); (try clear q550); obtain ⟨kq, x41_3, rfl, HA, HJ3, HBX0, HBX1, ⟨mc3, rfl⟩⟩ := hcut
  cases kq with
  | zero => exact absurd HA.out (by simp [spec_l15Is.j0])
  | succ kj3 =>
   have H := HA.out; clear HA; simp only [spec_l15Is.j0] at H
   by_cases c14 : x41_3 = true
   ·subst c14; rw [if_pos rfl] at H; obtain rfl := Option.some.inj H; go_wp2
    repeat (go_quiet (fail); try go_wp2)
    go_ret
    exact ⟨sv_, dr_⟩
   ·replace c14 := Bool.eq_false_iff.mpr c14; subst c14; rw [if_neg (show ¬ (false = true) by decide)] at H; have H' := Aside0.mk H; clear H; go_wp2
    repeat (go_quiet (fail); try go_wp2)
    go_loopg [7] kj3 (fun kq v7 w' => ∃ (x7_2 : Int), v7 = .int .i64 x7_2 ∧ Aside0 (spec_l15Is.l0 kq l2 x7_2 a0_0 l0_1 l0_2 a0_3 a0_4 l0_5 a1_0 a1_1 a1_2 a1_3 a1_4 l1_5 a1_6 = some r) ∧ Aside0 (kq ≤ kj3) ∧ Aside0 (w'.heap[g0]? = some (.cells #[.string a0_0, (.slice A0_1 l0_1.length c0_1), (.slice A0_2 l0_2.length c0_2), .int .i64 a0_3, .int .i64 a0_4, (.slice A0_5 l0_5.length c0_5)] 29 (0, 0))) ∧ Aside0 (w'.heap[g1]? = some (.cells #[.int .i64 a1_0, .int .i64 a1_1, .int .i64 a1_2, .int .i64 a1_3, .int .i64 a1_4, (.slice A1_5 l1_5.length c1_5), .int .i64 a1_6] 62 (0, 0))) ∧ Drawn0 w w')
    case atStart => exact ⟨(0), sv_, H', ⟨Nat.le_refl _⟩, ⟨by (with_reducible repeat (first | refine blk_drewN ?_ _ | refine blk_drew ?_ | refine blk_alloc ?_ _)); exact HBP0.out⟩, ⟨by (with_reducible repeat (first | refine blk_drewN ?_ _ | refine blk_drew ?_ | refine blk_alloc ?_ _)); exact HBP1.out⟩, dr_⟩
    case round =>
     clear H'; (try clear c1); (try clear p1); (try clear c2); (try clear p2); (try clear c3); (try clear c5); (try clear c5b0); (try clear c5b1); (try clear p5); (try clear q5); (try clear hx5); (try clear qi5); (try clear c6); (try clear c6b0); (try clear c6b1); (try clear p6); (try clear c7); (try clear c7b0); (try clear c7b1); (try clear c9); (try clear c9b0); (try clear c10); (try clear c10b0); (try clear c14); (try clear hcz11_0 hcz11_1 hcz11_2 hcz11_3 hcz11_4 hcz11_5 hcz11_6 hcz12_0 hcz12_1 hcz12_2 hcz12_3 hcz12_4 hcz12_5 hcz12_6 hcz13_0 hcz13_1 hcz13_2 hcz13_3 hcz13_4 hcz13_5 hcz13_6); (try clear hx549_0); (try clear hx550_0); (try clear p1); (try clear p2); (try clear p5); (try clear p549); (try clear p550); (try clear p6); (try clear q5); (try clear q549); (try clear q550); obtain ⟨x7_2, rfl, HA, HK2, HBX0, HBX1, ⟨m2, rfl⟩⟩ := hrel
     cases gk with
     | zero => exact absurd HA.out (by simp [spec_l15Is.l0])
     | succ k2 =>
      have H := HA.out; clear HA; simp only [spec_l15Is.l0] at H
      by_cases c15 : x7_2 < (l2.length : Int)
      ·rw [if_pos c15] at H; have c15b0 : decide (x7_2 < (l2.length : Int)) = true := decide_eq_true c15; clear c15
       by_cases c16 : 0 ≤ x7_2
       ·rw [if_pos c16] at H; have c16b0 : decide (0 ≤ x7_2) = true := decide_eq_true c16; clear c16; replace H := Option.bind_eq_some_iff.mp H; obtain ⟨t552, A170, H⟩ := H; (try dsimp only at H); have A17 := Aside0.mk A170; clear A170
        by_cases c18 : t552 = true
        ·subst c18; rw [if_pos rfl] at H; have H' := Aside0.mk H; clear H; have p551 : 0 ≤ (x7_2 : Int) := da_; have q551 : x7_2 < (l2.length : Int) := da_; obtain ⟨ad551, e551, hx551_0⟩ := Kd.at_int HR2.out x7_2 p551 q551; cases e551; replace p551 := eq_true p551; replace q551 := eq_true q551; obtain ⟨hcz19_0, hcz19_1, hcz19_2, hcz19_3, hcz19_4, hcz19_5, hcz19_6, -⟩ := bx7_ (w := w) HBP1.out; go_wp2_with (first | (go_at_call 58; (with_reducible refine (spec_l00In.calls (rd l2 x7_2) a1_3 a1_4 true _ A17.out).mono ?_); rintro e w' ⟨rfl, ⟨nd, rfl⟩⟩; (try first | exact ⟨rfl, _, dN1⟩ | exact ⟨rfl, _, dN2⟩)))
         repeat (go_quiet (first | (go_at_call 58; (with_reducible refine (spec_l00In.calls (rd l2 x7_2) a1_3 a1_4 true _ A17.out).mono ?_); rintro e w' ⟨rfl, ⟨nd, rfl⟩⟩; (try first | exact ⟨rfl, _, dN1⟩ | exact ⟨rfl, _, dN2⟩))); try go_wp2_with (first | (go_at_call 58; (with_reducible refine (spec_l00In.calls (rd l2 x7_2) a1_3 a1_4 true _ A17.out).mono ?_); rintro e w' ⟨rfl, ⟨nd, rfl⟩⟩; (try first | exact ⟨rfl, _, dN1⟩ | exact ⟨rfl, _, dN2⟩))))
         go_roundg k2
         case measure => have := HJ3.out; have := HK2.out; omega
         case rel => exact ⟨(wrap64 (x7_2 + 1)), sv_, H', ⟨by have := HJ3.out; have := HK2.out; omega⟩, ⟨by (with_reducible repeat (first | refine blk_drewN ?_ _ | refine blk_drew ?_ | refine blk_alloc ?_ _)); exact HBP0.out⟩, ⟨by (with_reducible repeat (first | refine blk_drewN ?_ _ | refine blk_drew ?_ | refine blk_alloc ?_ _)); exact HBP1.out⟩, dr_⟩
        ·replace c18 := Bool.eq_false_iff.mpr c18; subst c18; rw [if_neg (show ¬ (false = true) by decide)] at H; obtain rfl := Option.some.inj H; have p551 : 0 ≤ (x7_2 : Int) := da_; have q551 : x7_2 < (l2.length : Int) := da_; obtain ⟨ad551, e551, hx551_0⟩ := Kd.at_int HR2.out x7_2 p551 q551; cases e551; replace p551 := eq_true p551; replace q551 := eq_true q551; obtain ⟨hcz20_0, hcz20_1, hcz20_2, hcz20_3, hcz20_4, hcz20_5, hcz20_6, -⟩ := bx7_ (w := w) HBP1.out; go_wp2_with (first | (go_at_call 58; (with_reducible refine (spec_l00In.calls (rd l2 x7_2) a1_3 a1_4 false _ A17.out).mono ?_); rintro e w' ⟨rfl, ⟨nd, rfl⟩⟩; (try first | exact ⟨rfl, _, dN1⟩ | exact ⟨rfl, _, dN2⟩)))
         repeat (go_quiet (first | (go_at_call 58; (with_reducible refine (spec_l00In.calls (rd l2 x7_2) a1_3 a1_4 false _ A17.out).mono ?_); rintro e w' ⟨rfl, ⟨nd, rfl⟩⟩; (try first | exact ⟨rfl, _, dN1⟩ | exact ⟨rfl, _, dN2⟩))); try go_wp2_with (first | (go_at_call 58; (with_reducible refine (spec_l00In.calls (rd l2 x7_2) a1_3 a1_4 false _ A17.out).mono ?_); rintro e w' ⟨rfl, ⟨nd, rfl⟩⟩; (try first | exact ⟨rfl, _, dN1⟩ | exact ⟨rfl, _, dN2⟩))))
         go_ret
         exact ⟨sv_, dr_⟩
       ·rw [if_neg c16] at H; exact absurd H (by simp)
      ·rw [if_neg c15] at H; have c15b0 : decide (x7_2 < (l2.length : Int)) = false := decide_eq_false c15; clear c15; replace H := Option.bind_eq_some_iff.mp H; obtain ⟨⟨t553, t554⟩, A210, H⟩ := H; (try dsimp only at H); have A21 := Aside0.mk A210; clear A210
       by_cases c22 : t553 < 0
       ·rw [if_pos c22] at H; have c22b0 : decide (t553 < 0) = true := decide_eq_true c22; clear c22; replace H := Option.bind_eq_some_iff.mp H; obtain ⟨t555, A230, H⟩ := H; (try dsimp only at H); have A23 := Aside0.mk A230; clear A230
        by_cases c24 : t555 ≤ a1_6
        ·rw [if_pos c24] at H; have c24b0 : decide (t555 ≤ a1_6) = true := decide_eq_true c24; clear c24; replace H := Option.bind_eq_some_iff.mp H; obtain ⟨t556, A250, H⟩ := H; (try dsimp only at H); have A25 := Aside0.mk A250; clear A250; obtain rfl := Option.some.inj H; go_wp2_with (first | (go_at_call 128; (with_reducible refine (spec_l05Wrong.calls k2 g0 a0_0 A0_1 c0_1 l0_1 A0_2 c0_2 l0_2 a0_3 a0_4 A0_5 c0_5 l0_5 _ _ l2 t553 t554 _ ?side1 ?side2 HC0_1.out ?side4 HC0_2.out ?side6 HC0_5.out ?side8 HC2.out A21.out).mono ?_); (case side1 => exact bk_ HBP0.out); (case side2 => exact cr_ HR0_1.out); (case side4 => exact cr_ HR0_2.out); (case side6 => exact cr_ HR0_5.out); (case side8 => exact cr_ HR2.out); rintro e w' ⟨rfl, ⟨nd, rfl⟩⟩; (try first | exact ⟨rfl, _, dN1⟩ | exact ⟨rfl, _, dN2⟩)) | (go_at_call 129; (with_reducible refine (spec_l15Repeats.calls k2 _ _ l2 t555 _ ?side1 HC2.out A23.out).mono ?_); (case side1 => exact cr_ HR2.out); rintro e w' ⟨rfl, ⟨nd, rfl⟩⟩; (try first | exact ⟨rfl, _, dN1⟩ | exact ⟨rfl, _, dN2⟩); obtain ⟨hcz26_0, hcz26_1, hcz26_2, hcz26_3, hcz26_4, hcz26_5, hcz26_6, -⟩ := bx7_ (w := w) HBP1.out) | (go_at_call 130; (with_reducible refine (spec_l15Parts.calls k2 g1 a1_0 a1_1 a1_2 a1_3 a1_4 A1_5 c1_5 l1_5 a1_6 _ _ l2 t556 _ ?side1 ?side2 HC1_5.out ?side4 HC2.out A25.out).mono ?_); (case side1 => exact bk_ HBP1.out); (case side2 => exact cr_ HR1_5.out); (case side4 => exact cr_ HR2.out); rintro e w' ⟨rfl, ⟨nd, rfl⟩⟩; (try first | exact ⟨rfl, _, dN1⟩ | exact ⟨rfl, _, dN2⟩)))
         repeat (go_quiet (first | (go_at_call 128; (with_reducible refine (spec_l05Wrong.calls k2 g0 a0_0 A0_1 c0_1 l0_1 A0_2 c0_2 l0_2 a0_3 a0_4 A0_5 c0_5 l0_5 _ _ l2 t553 t554 _ ?side1 ?side2 HC0_1.out ?side4 HC0_2.out ?side6 HC0_5.out ?side8 HC2.out A21.out).mono ?_); (case side1 => exact bk_ HBP0.out); (case side2 => exact cr_ HR0_1.out); (case side4 => exact cr_ HR0_2.out); (case side6 => exact cr_ HR0_5.out); (case side8 => exact cr_ HR2.out); rintro e w' ⟨rfl, ⟨nd, rfl⟩⟩; (try first | exact ⟨rfl, _, dN1⟩ | exact ⟨rfl, _, dN2⟩)) | (go_at_call 129; (with_reducible refine (spec_l15Repeats.calls k2 _ _ l2 t555 _ ?side1 HC2.out A23.out).mono ?_); (case side1 => exact cr_ HR2.out); rintro e w' ⟨rfl, ⟨nd, rfl⟩⟩; (try first | exact ⟨rfl, _, dN1⟩ | exact ⟨rfl, _, dN2⟩); obtain ⟨hcz26_0, hcz26_1, hcz26_2, hcz26_3, hcz26_4, hcz26_5, hcz26_6, -⟩ := bx7_ (w := w) HBP1.out) | (go_at_call 130; (with_reducible refine (spec_l15Parts.calls k2 g1 a1_0 a1_1 a1_2 a1_3 a1_4 A1_5 c1_5 l1_5 a1_6 _ _ l2 t556 _ ?side1 ?side2 HC1_5.out ?side4 HC2.out A25.out).mono ?_); (case side1 => exact bk_ HBP1.out); (case side2 => exact cr_ HR1_5.out); (case side4 => exact cr_ HR2.out); rintro e w' ⟨rfl, ⟨nd, rfl⟩⟩; (try first | exact ⟨rfl, _, dN1⟩ | exact ⟨rfl, _, dN2⟩))); try go_wp2_with (first | (go_at_call 128; (with_reducible refine (spec_l05Wrong.calls k2 g0 a0_0 A0_1 c0_1 l0_1 A0_2 c0_2 l0_2 a0_3 a0_4 A0_5 c0_5 l0_5 _ _ l2 t553 t554 _ ?side1 ?side2 HC0_1.out ?side4 HC0_2.out ?side6 HC0_5.out ?side8 HC2.out A21.out).mono ?_); (case side1 => exact bk_ HBP0.out); (case side2 => exact cr_ HR0_1.out); (case side4 => exact cr_ HR0_2.out); (case side6 => exact cr_ HR0_5.out); (case side8 => exact cr_ HR2.out); rintro e w' ⟨rfl, ⟨nd, rfl⟩⟩; (try first | exact ⟨rfl, _, dN1⟩ | exact ⟨rfl, _, dN2⟩)) | (go_at_call 129; (with_reducible refine (spec_l15Repeats.calls k2 _ _ l2 t555 _ ?side1 HC2.out A23.out).mono ?_); (case side1 => exact cr_ HR2.out); rintro e w' ⟨rfl, ⟨nd, rfl⟩⟩; (try first | exact ⟨rfl, _, dN1⟩ | exact ⟨rfl, _, dN2⟩); obtain ⟨hcz26_0, hcz26_1, hcz26_2, hcz26_3, hcz26_4, hcz26_5, hcz26_6, -⟩ := bx7_ (w := w) HBP1.out) | (go_at_call 130; (with_reducible refine (spec_l15Parts.calls k2 g1 a1_0 a1_1 a1_2 a1_3 a1_4 A1_5 c1_5 l1_5 a1_6 _ _ l2 t556 _ ?side1 ?side2 HC1_5.out ?side4 HC2.out A25.out).mono ?_); (case side1 => exact bk_ HBP1.out); (case side2 => exact cr_ HR1_5.out); (case side4 => exact cr_ HR2.out); rintro e w' ⟨rfl, ⟨nd, rfl⟩⟩; (try first | exact ⟨rfl, _, dN1⟩ | exact ⟨rfl, _, dN2⟩))))
         go_ret
         exact ⟨sv_, dr_⟩
        ·rw [if_neg c24] at H; have c24b0 : decide (t555 ≤ a1_6) = false := decide_eq_false c24; clear c24; obtain rfl := Option.some.inj H; go_wp2_with (first | (go_at_call 128; (with_reducible refine (spec_l05Wrong.calls k2 g0 a0_0 A0_1 c0_1 l0_1 A0_2 c0_2 l0_2 a0_3 a0_4 A0_5 c0_5 l0_5 _ _ l2 t553 t554 _ ?side1 ?side2 HC0_1.out ?side4 HC0_2.out ?side6 HC0_5.out ?side8 HC2.out A21.out).mono ?_); (case side1 => exact bk_ HBP0.out); (case side2 => exact cr_ HR0_1.out); (case side4 => exact cr_ HR0_2.out); (case side6 => exact cr_ HR0_5.out); (case side8 => exact cr_ HR2.out); rintro e w' ⟨rfl, ⟨nd, rfl⟩⟩; (try first | exact ⟨rfl, _, dN1⟩ | exact ⟨rfl, _, dN2⟩)) | (go_at_call 129; (with_reducible refine (spec_l15Repeats.calls k2 _ _ l2 t555 _ ?side1 HC2.out A23.out).mono ?_); (case side1 => exact cr_ HR2.out); rintro e w' ⟨rfl, ⟨nd, rfl⟩⟩; (try first | exact ⟨rfl, _, dN1⟩ | exact ⟨rfl, _, dN2⟩); obtain ⟨hcz27_0, hcz27_1, hcz27_2, hcz27_3, hcz27_4, hcz27_5, hcz27_6, -⟩ := bx7_ (w := w) HBP1.out))
         repeat (go_quiet (first | (go_at_call 128; (with_reducible refine (spec_l05Wrong.calls k2 g0 a0_0 A0_1 c0_1 l0_1 A0_2 c0_2 l0_2 a0_3 a0_4 A0_5 c0_5 l0_5 _ _ l2 t553 t554 _ ?side1 ?side2 HC0_1.out ?side4 HC0_2.out ?side6 HC0_5.out ?side8 HC2.out A21.out).mono ?_); (case side1 => exact bk_ HBP0.out); (case side2 => exact cr_ HR0_1.out); (case side4 => exact cr_ HR0_2.out); (case side6 => exact cr_ HR0_5.out); (case side8 => exact cr_ HR2.out); rintro e w' ⟨rfl, ⟨nd, rfl⟩⟩; (try first | exact ⟨rfl, _, dN1⟩ | exact ⟨rfl, _, dN2⟩)) | (go_at_call 129; (with_reducible refine (spec_l15Repeats.calls k2 _ _ l2 t555 _ ?side1 HC2.out A23.out).mono ?_); (case side1 => exact cr_ HR2.out); rintro e w' ⟨rfl, ⟨nd, rfl⟩⟩; (try first | exact ⟨rfl, _, dN1⟩ | exact ⟨rfl, _, dN2⟩); obtain ⟨hcz27_0, hcz27_1, hcz27_2, hcz27_3, hcz27_4, hcz27_5, hcz27_6, -⟩ := bx7_ (w := w) HBP1.out)); try go_wp2_with (first | (go_at_call 128; (with_reducible refine (spec_l05Wrong.calls k2 g0 a0_0 A0_1 c0_1 l0_1 A0_2 c0_2 l0_2 a0_3 a0_4 A0_5 c0_5 l0_5 _ _ l2 t553 t554 _ ?side1 ?side2 HC0_1.out ?side4 HC0_2.out ?side6 HC0_5.out ?side8 HC2.out A21.out).mono ?_); (case side1 => exact bk_ HBP0.out); (case side2 => exact cr_ HR0_1.out); (case side4 => exact cr_ HR0_2.out); (case side6 => exact cr_ HR0_5.out); (case side8 => exact cr_ HR2.out); rintro e w' ⟨rfl, ⟨nd, rfl⟩⟩; (try first | exact ⟨rfl, _, dN1⟩ | exact ⟨rfl, _, dN2⟩)) | (go_at_call 129; (with_reducible refine (spec_l15Repeats.calls k2 _ _ l2 t555 _ ?side1 HC2.out A23.out).mono ?_); (case side1 => exact cr_ HR2.out); rintro e w' ⟨rfl, ⟨nd, rfl⟩⟩; (try first | exact ⟨rfl, _, dN1⟩ | exact ⟨rfl, _, dN2⟩); obtain ⟨hcz27_0, hcz27_1, hcz27_2, hcz27_3, hcz27_4, hcz27_5, hcz27_6, -⟩ := bx7_ (w := w) HBP1.out)))
         go_ret
         exact ⟨sv_, dr_⟩
       ·rw [if_neg c22] at H; have c22b0 : decide (t553 < 0) = false := decide_eq_false c22; clear c22; obtain rfl := Option.some.inj H; go_wp2_with (first | (go_at_call 128; (with_reducible refine (spec_l05Wrong.calls k2 g0 a0_0 A0_1 c0_1 l0_1 A0_2 c0_2 l0_2 a0_3 a0_4 A0_5 c0_5 l0_5 _ _ l2 t553 t554 _ ?side1 ?side2 HC0_1.out ?side4 HC0_2.out ?side6 HC0_5.out ?side8 HC2.out A21.out).mono ?_); (case side1 => exact bk_ HBP0.out); (case side2 => exact cr_ HR0_1.out); (case side4 => exact cr_ HR0_2.out); (case side6 => exact cr_ HR0_5.out); (case side8 => exact cr_ HR2.out); rintro e w' ⟨rfl, ⟨nd, rfl⟩⟩; (try first | exact ⟨rfl, _, dN1⟩ | exact ⟨rfl, _, dN2⟩)))
        repeat (go_quiet (first | (go_at_call 128; (with_reducible refine (spec_l05Wrong.calls k2 g0 a0_0 A0_1 c0_1 l0_1 A0_2 c0_2 l0_2 a0_3 a0_4 A0_5 c0_5 l0_5 _ _ l2 t553 t554 _ ?side1 ?side2 HC0_1.out ?side4 HC0_2.out ?side6 HC0_5.out ?side8 HC2.out A21.out).mono ?_); (case side1 => exact bk_ HBP0.out); (case side2 => exact cr_ HR0_1.out); (case side4 => exact cr_ HR0_2.out); (case side6 => exact cr_ HR0_5.out); (case side8 => exact cr_ HR2.out); rintro e w' ⟨rfl, ⟨nd, rfl⟩⟩; (try first | exact ⟨rfl, _, dN1⟩ | exact ⟨rfl, _, dN2⟩))); try go_wp2_with (first | (go_at_call 128; (with_reducible refine (spec_l05Wrong.calls k2 g0 a0_0 A0_1 c0_1 l0_1 A0_2 c0_2 l0_2 a0_3 a0_4 A0_5 c0_5 l0_5 _ _ l2 t553 t554 _ ?side1 ?side2 HC0_1.out ?side4 HC0_2.out ?side6 HC0_5.out ?side8 HC2.out A21.out).mono ?_); (case side1 => exact bk_ HBP0.out); (case side2 => exact cr_ HR0_1.out); (case side4 => exact cr_ HR0_2.out); (case side6 => exact cr_ HR0_5.out); (case side8 => exact cr_ HR2.out); rintro e w' ⟨rfl, ⟨nd, rfl⟩⟩; (try first | exact ⟨rfl, _, dN1⟩ | exact ⟨rfl, _, dN2⟩))))
        go_ret
        exact ⟨sv_, dr_⟩
def spec_l15Leaps.l0 : Nat → List Int → Int → Int → Option (Int)
 | 0, _, _, _ => none
 | k + 1, x0, x3, x4 => if x4 < (x0.length : Int) then (if 0 ≤ x4 then (if 0 ≤ (wrap64 (x4 - 1)) then (if (wrap64 (x4 - 1)) < (x0.length : Int) then ((spec_l00Max.f (wrap64 ((rd x0 x4) - (rd x0 (wrap64 (x4 - 1))))) (wrap64 ((rd x0 (wrap64 (x4 - 1))) - (rd x0 x4)))).bind fun t622 => (spec_l15Leaps.l0 k x0 (wrap64 (x3 + t622)) (wrap64 (x4 + 1)))) else (none)) else (none)) else (none)) else (some x3)
def spec_l15Leaps.f (k : Nat) (l0 : List Int) : Option (Int) := spec_l15Leaps.l0 k l0 0 1
theorem spec_l15Leaps.calls (k : Nat) (A0 : Option Addr) (c0 : Nat) (l0 : List Int) (r : Int) (w : World) (hr0 : Kd.C (Kd.int .i64) w A0 l0.length l0) (hc0 : l0.length ≤ c0) (h : spec_l15Leaps.f k l0 = some r) :
  Calls Try.prog 157 #[.slice A0 l0.length c0] w fun e w' => e = .returned (.int .i64 r) ∧ Drawn0 w w' := by
 have HR0 := Aside0.mk hr0; have HC0 := Aside0.mk hc0; clear hr0 hc0; have H : (spec_l15Leaps.l0 k l0 0 1) = some r := h; clear h; have H' := Aside0.mk H; clear H; go_enter Try.func157, Try.ntmps157; go_wp2
 repeat (go_quiet (fail); try go_wp2)
 go_loopg [3, 4] k (fun kq v3 v4 w' => ∃ (x3_1 : Int) (x4_1 : Int), v3 = .int .i64 x3_1 ∧ v4 = .int .i64 x4_1 ∧ Aside0 (spec_l15Leaps.l0 kq l0 x3_1 x4_1 = some r) ∧ Aside0 (kq ≤ k) ∧ Drawn0 w w')
 case atStart => exact ⟨(0), (1), sv_, sv_, H', ⟨Nat.le_refl _⟩, dr_⟩
 case round =>
  clear H'
  try clear c1
  obtain ⟨x3_1, x4_1, rfl, rfl, HA, HK1, ⟨m1, rfl⟩⟩ := hrel
  cases gk with
  | zero => exact absurd HA.out (by simp [spec_l15Leaps.l0])
  | succ k1 =>
   have H := HA.out; clear HA; simp only [spec_l15Leaps.l0] at H
   by_cases c2 : x4_1 < (l0.length : Int)
   ·rw [if_pos c2] at H; have c2b0 : decide (x4_1 < (l0.length : Int)) = true := decide_eq_true c2; clear c2
    by_cases c3 : 0 ≤ x4_1
    ·rw [if_pos c3] at H; have c3b0 : decide (0 ≤ x4_1) = true := decide_eq_true c3; clear c3; obtain ⟨ji4, hji4⟩ : ∃ j_ : Int, (wrap64 (x4_1 - 1)) = j_ := ⟨_, rfl⟩
     replace H : (if 0 ≤ (ji4) then (if (ji4) < (l0.length : Int) then ((spec_l00Max.f (wrap64 ((rd l0 x4_1) - (rd l0 (ji4)))) (wrap64 ((rd l0 (ji4)) - (rd l0 x4_1)))).bind fun t622 => (spec_l15Leaps.l0 k1 l0 (wrap64 (x3_1 + t622)) (wrap64 (x4_1 + 1)))) else (none)) else (none)) = some r := by first | (rw [hji4] at H; exact H) | (simp only [hji4] at H ⊢; exact H)
     have hji4w : (IntKind.i64.wrap (x4_1 - 1)) = ji4 := (i64_w _).trans hji4
     by_cases c5 : 0 ≤ (ji4)
     ·rw [if_pos c5] at H; have c5b0 : decide (0 ≤ (ji4)) = true := decide_eq_true c5; clear c5
      by_cases c6 : (ji4) < (l0.length : Int)
      ·rw [if_pos c6] at H; have c6b0 : decide ((ji4) < (l0.length : Int)) = true := decide_eq_true c6; clear c6; replace H := Option.bind_eq_some_iff.mp H; obtain ⟨t622, A70, H⟩ := H; (try dsimp only at H); have A7 := Aside0.mk A70; clear A70; have H' := Aside0.mk H; clear H; have p618 : 0 ≤ (x4_1 : Int) := da_; have q618 : x4_1 < (l0.length : Int) := da_; obtain ⟨ad618, e618, hx618_0⟩ := Kd.at_int HR0.out x4_1 p618 q618; cases e618; replace p618 := eq_true p618; replace q618 := eq_true q618; have p619 : 0 ≤ ((ji4) : Int) := da_; have q619 : (ji4) < (l0.length : Int) := da_; obtain ⟨ad619, e619, hx619_0⟩ := Kd.at_int HR0.out (ji4) p619 q619; obtain rfl : ad618 = ad619 := (by injection e619); replace p619 := eq_true p619; replace q619 := eq_true q619; have p620 : 0 ≤ ((ji4) : Int) := da_; have q620 : (ji4) < (l0.length : Int) := da_; obtain ⟨ad620, e620, hx620_0⟩ := Kd.at_int HR0.out (ji4) p620 q620; obtain rfl : ad618 = ad620 := (by injection e620); replace p620 := eq_true p620; replace q620 := eq_true q620; have p621 : 0 ≤ (x4_1 : Int) := da_; have q621 : x4_1 < (l0.length : Int) := da_; obtain ⟨ad621, e621, hx621_0⟩ := Kd.at_int HR0.out x4_1 p621 q621; obtain rfl : ad618 = ad621 := (by injection e621); replace p621 := eq_true p621; replace q621 := eq_true q621; go_wp2_with (first | (go_at_call 140; (with_reducible refine (spec_l00Max.calls (wrap64 ((rd l0 x4_1) - (rd l0 (ji4)))) (wrap64 ((rd l0 (ji4)) - (rd l0 x4_1))) t622 _ A7.out).mono ?_); rintro e w' ⟨rfl, ⟨nd, rfl⟩⟩; (try first | exact ⟨rfl, _, dN1⟩ | exact ⟨rfl, _, dN2⟩)))
       repeat (go_quiet (first | (go_at_call 140; (with_reducible refine (spec_l00Max.calls (wrap64 ((rd l0 x4_1) - (rd l0 (ji4)))) (wrap64 ((rd l0 (ji4)) - (rd l0 x4_1))) t622 _ A7.out).mono ?_); rintro e w' ⟨rfl, ⟨nd, rfl⟩⟩; (try first | exact ⟨rfl, _, dN1⟩ | exact ⟨rfl, _, dN2⟩))); try go_wp2_with (first | (go_at_call 140; (with_reducible refine (spec_l00Max.calls (wrap64 ((rd l0 x4_1) - (rd l0 (ji4)))) (wrap64 ((rd l0 (ji4)) - (rd l0 x4_1))) t622 _ A7.out).mono ?_); rintro e w' ⟨rfl, ⟨nd, rfl⟩⟩; (try first | exact ⟨rfl, _, dN1⟩ | exact ⟨rfl, _, dN2⟩))))
       go_roundg k1
       case measure => have := HK1.out; omega
       case rel => exact ⟨(wrap64 (x3_1 + t622)), (wrap64 (x4_1 + 1)), sv_, sv_, H', ⟨by have := HK1.out; omega⟩, dr_⟩
      ·rw [if_neg c6] at H; exact absurd H (by simp)
     ·rw [if_neg c5] at H; exact absurd H (by simp)
    ·rw [if_neg c3] at H; exact absurd H (by simp)
   ·rw [if_neg c2] at H; have c2b0 : decide (x4_1 < (l0.length : Int)) = false := decide_eq_false c2; clear c2; obtain rfl := Option.some.inj H; go_wp2
    repeat (go_quiet (fail); try go_wp2)
    go_ret
    exact ⟨sv_, dr_⟩
end Go.Proofs.Ytinlejhffokbaaa.P
end
