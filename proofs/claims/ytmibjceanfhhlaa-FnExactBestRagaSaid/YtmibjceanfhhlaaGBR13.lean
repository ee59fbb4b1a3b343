/- Texts of this seat, merged: QSpecBestraga, Open, LEv, LCopy, LAbs, LIdx, LHasOne, LName, LIName, LInc, LIn, LRises, LScale. -/
import Derived.Deep.Slices
import Derived.WideShapes
import Derived.ChangeShapes
import Derived.ChangeMaps5
import Derived.ChangeSame
import Derived.Test.YtmibjceanfhhlaaGBR1
import Derived.Test.YtmibjceanfhhlaaGBR2
import Derived.Test.YtmibjceanfhhlaaGBR3
import Derived.Test.YtmibjceanfhhlaaGBR7
import Derived.Test.YtmibjceanfhhlaaGBR8
import Derived.Test.YtmibjceanfhhlaaGBR9
import Derived.Test.YtmibjceanfhhlaaGBR10
import Derived.Test.YtmibjceanfhhlaaGBR12
section
namespace Go.Proofs.Ytmibjceanfhhlaa.P
open Go.RowKit Go.Proofs.YtmibjceanfhhlaaW.PrintWords Go.Proofs.YtmibjceanfhhlaaW.PrintLast Go.Proofs.YtmibjceanfhhlaaW.PrintMore
attribute [local go_sem] max2_int min2_int max_two min_two max_three min_three max_four min_four   -- for this text's walks alone
set_option linter.unusedVariables false
set_option linter.unusedSimpArgs false
/-! ### spec_BestRaga: function 5 -/
def spec_BestRaga.l0 : Nat → List (S42) → List Int → Int → Int → Int → Option (Int × Int × Int)
 | 0, _, _, _, _, _ => none
 | k + 1, x0, x1, x7, x9, x10 => if x10 < (x0.length : Int) then (if 0 ≤ x10 then ((spec_l12Evidence.f k ((rd_T42 x0 x10).f0) ((rd_T42 x0 x10).f1) ((rd_T42 x0 x10).f2) ((rd_T42 x0 x10).f3) ((rd_T42 x0 x10).f4) ((rd_T42 x0 x10).f5) x1).bind fun bt178 => (if bt178.2 < x9 then (spec_BestRaga.l0 k x0 x1 x10 bt178.2 (wrap64 (x10 + 1))) else (if bt178.2 = x9 then ((spec_l12Size.f k ((rd_T42 x0 x10).f0) ((rd_T42 x0 x10).f1) ((rd_T42 x0 x10).f2) ((rd_T42 x0 x10).f3) ((rd_T42 x0 x10).f4) ((rd_T42 x0 x10).f5)).bind fun t181 => (if 0 ≤ x7 then (if x7 < (x0.length : Int) then ((spec_l12Size.f k ((rd_T42 x0 x7).f0) ((rd_T42 x0 x7).f1) ((rd_T42 x0 x7).f2) ((rd_T42 x0 x7).f3) ((rd_T42 x0 x7).f4) ((rd_T42 x0 x7).f5)).bind fun t183 => (if t181 < t183 then (spec_BestRaga.l0 k x0 x1 x10 bt178.2 (wrap64 (x10 + 1))) else (spec_BestRaga.l0 k x0 x1 x7 x9 (wrap64 (x10 + 1))))) else (none)) else (none))) else (spec_BestRaga.l0 k x0 x1 x7 x9 (wrap64 (x10 + 1)))))) else (none)) else (some (x7, x9, 0))
def spec_BestRaga.f (k : Nat) (l0 : List (S42)) (l1 : List Int) : Option (Int × Int × Int) := (spec_l12List.f k l0).bind fun t172 => (if t172 = true then ((spec_l05Pitches.f k l1).bind fun t173 => (if t173 = true then (if (l0.length : Int) = 0 then (some (0, 0, 3)) else (if 0 < (l0.length : Int) then ((spec_l12Evidence.f k ((rd_T42 l0 0).f0) ((rd_T42 l0 0).f1) ((rd_T42 l0 0).f2) ((rd_T42 l0 0).f3) ((rd_T42 l0 0).f4) ((rd_T42 l0 0).f5) l1).bind fun bt175 => (spec_BestRaga.l0 k l0 l1 0 bt175.2 1)) else (none))) else (some (0, 0, 7)))) else (some (0, 0, 1)))
set_option maxHeartbeats 8000000 in
set_option maxRecDepth 100000 in
theorem spec_BestRaga.calls (k : Nat) (A0 : Option Addr) (c0 : Nat) (l0 : List (S42)) (A1 : Option Addr) (c1 : Nat) (l1 : List Int) (r1 : Int) (r2 : Int) (r3 : Int) (w : World) (hr0 : Kd.C k42 w A0 l0.length l0) (hc0 : l0.length ≤ c0) (hr1 : Kd.C (Kd.int .i64) w A1 l1.length l1) (hc1 : l1.length ≤ c1) (h : spec_BestRaga.f k l0 l1 = some (r1, r2, r3)) :
  Calls Try.prog 5 #[.slice A0 l0.length c0, .slice A1 l1.length c1] w fun e w' => e = .returned (.tuple #[.int .i64 r1, .int .i64 r2, .int .i64 r3]) ∧ Drawn0 w w' := by
 have HR0 := Aside0.mk hr0
 have HC0 := Aside0.mk hc0
 clear hr0 hc0
 have HR1 := Aside0.mk hr1
 have HC1 := Aside0.mk hc1
 clear hr1 hc1
 have H : ((spec_l12List.f k l0).bind fun t172 => (if t172 = true then ((spec_l05Pitches.f k l1).bind fun t173 => (if t173 = true then (if (l0.length : Int) = 0 then (some (0, 0, 3)) else (if 0 < (l0.length : Int) then ((spec_l12Evidence.f k ((rd_T42 l0 0).f0) ((rd_T42 l0 0).f1) ((rd_T42 l0 0).f2) ((rd_T42 l0 0).f3) ((rd_T42 l0 0).f4) ((rd_T42 l0 0).f5) l1).bind fun bt175 => (spec_BestRaga.l0 k l0 l1 0 bt175.2 1)) else (none))) else (some (0, 0, 7)))) else (some (0, 0, 1)))) = some (r1, r2, r3) := h
 clear h
 replace H := Option.bind_eq_some_iff.mp H
 obtain ⟨t172, A30, H⟩ := H
 replace H : (if t172 = true then ((spec_l05Pitches.f k l1).bind fun t173 => (if t173 = true then (if (l0.length : Int) = 0 then (some (0, 0, 3)) else (if 0 < (l0.length : Int) then ((spec_l12Evidence.f k ((rd_T42 l0 0).f0) ((rd_T42 l0 0).f1) ((rd_T42 l0 0).f2) ((rd_T42 l0 0).f3) ((rd_T42 l0 0).f4) ((rd_T42 l0 0).f5) l1).bind fun bt175 => (spec_BestRaga.l0 k l0 l1 0 bt175.2 1)) else (none))) else (some (0, 0, 7)))) else (some (0, 0, 1))) = some (r1, r2, r3) := H
 have A3 := Aside0.mk A30
 clear A30
 by_cases c4 : t172 = true
 ·subst c4
  have H1 : ((spec_l05Pitches.f k l1).bind fun t173 => (if t173 = true then (if (l0.length : Int) = 0 then (some (0, 0, 3)) else (if 0 < (l0.length : Int) then ((spec_l12Evidence.f k ((rd_T42 l0 0).f0) ((rd_T42 l0 0).f1) ((rd_T42 l0 0).f2) ((rd_T42 l0 0).f3) ((rd_T42 l0 0).f4) ((rd_T42 l0 0).f5) l1).bind fun bt175 => (spec_BestRaga.l0 k l0 l1 0 bt175.2 1)) else (none))) else (some (0, 0, 7)))) = some (r1, r2, r3) := by rw [if_pos rfl] at H; exact H
  clear H
  have H := H1
  clear H1
  replace H := Option.bind_eq_some_iff.mp H
  obtain ⟨t173, A50, H⟩ := H
  replace H : (if t173 = true then (if (l0.length : Int) = 0 then (some (0, 0, 3)) else (if 0 < (l0.length : Int) then ((spec_l12Evidence.f k ((rd_T42 l0 0).f0) ((rd_T42 l0 0).f1) ((rd_T42 l0 0).f2) ((rd_T42 l0 0).f3) ((rd_T42 l0 0).f4) ((rd_T42 l0 0).f5) l1).bind fun bt175 => (spec_BestRaga.l0 k l0 l1 0 bt175.2 1)) else (none))) else (some (0, 0, 7))) = some (r1, r2, r3) := H
  have A5 := Aside0.mk A50
  clear A50
  by_cases c6 : t173 = true
  ·subst c6
   have H1 : (if (l0.length : Int) = 0 then (some (0, 0, 3)) else (if 0 < (l0.length : Int) then ((spec_l12Evidence.f k ((rd_T42 l0 0).f0) ((rd_T42 l0 0).f1) ((rd_T42 l0 0).f2) ((rd_T42 l0 0).f3) ((rd_T42 l0 0).f4) ((rd_T42 l0 0).f5) l1).bind fun bt175 => (spec_BestRaga.l0 k l0 l1 0 bt175.2 1)) else (none))) = some (r1, r2, r3) := by rw [if_pos rfl] at H; exact H
   clear H
   have H := H1
   clear H1
   by_cases c7 : (l0.length : Int) = 0
   ·rw [if_pos c7] at H
    have c7b0 : ((l0.length : Int) == 0) = true := beq_iff_eq.mpr c7
    have c7b1 : ((l0.length : Int) != 0) = false := bne_eq_false_iff_eq.mpr c7
    clear c7
    simp only [Option.some.injEq, Prod.mk.injEq] at H
    obtain ⟨rfl, rfl, rfl⟩ := H
    go_enter Try.func5, Try.ntmps5
    go_wp2_with (first | (go_at_call 12; (with_reducible refine (spec_l12List.calls k _ _ l0 true _ ?side1 ?side2 A3.out).mono ?_); (case side1 => exact cr_ HR0.out); (case side2 => exact HC0.out); rintro e w' ⟨rfl, ⟨nd, rfl⟩⟩; (try first | exact ⟨rfl, _, dN1⟩ | exact ⟨rfl, _, dN2⟩)) | (go_at_call 13; (with_reducible refine (spec_l05Pitches.calls k _ _ l1 true _ ?side1 ?side2 A5.out).mono ?_); (case side1 => exact cr_ HR1.out); (case side2 => exact HC1.out); rintro e w' ⟨rfl, ⟨nd, rfl⟩⟩; (try first | exact ⟨rfl, _, dN1⟩ | exact ⟨rfl, _, dN2⟩)))
    repeat (go_quiet (first | (go_at_call 12; (with_reducible refine (spec_l12List.calls k _ _ l0 true _ ?side1 ?side2 A3.out).mono ?_); (case side1 => exact cr_ HR0.out); (case side2 => exact HC0.out); rintro e w' ⟨rfl, ⟨nd, rfl⟩⟩; (try first | exact ⟨rfl, _, dN1⟩ | exact ⟨rfl, _, dN2⟩)) | (go_at_call 13; (with_reducible refine (spec_l05Pitches.calls k _ _ l1 true _ ?side1 ?side2 A5.out).mono ?_); (case side1 => exact cr_ HR1.out); (case side2 => exact HC1.out); rintro e w' ⟨rfl, ⟨nd, rfl⟩⟩; (try first | exact ⟨rfl, _, dN1⟩ | exact ⟨rfl, _, dN2⟩))); try go_wp2_with (first | (go_at_call 12; (with_reducible refine (spec_l12List.calls k _ _ l0 true _ ?side1 ?side2 A3.out).mono ?_); (case side1 => exact cr_ HR0.out); (case side2 => exact HC0.out); rintro e w' ⟨rfl, ⟨nd, rfl⟩⟩; (try first | exact ⟨rfl, _, dN1⟩ | exact ⟨rfl, _, dN2⟩)) | (go_at_call 13; (with_reducible refine (spec_l05Pitches.calls k _ _ l1 true _ ?side1 ?side2 A5.out).mono ?_); (case side1 => exact cr_ HR1.out); (case side2 => exact HC1.out); rintro e w' ⟨rfl, ⟨nd, rfl⟩⟩; (try first | exact ⟨rfl, _, dN1⟩ | exact ⟨rfl, _, dN2⟩))))
    go_ret3
    exact ⟨sv_, dr_⟩
   ·rw [if_neg c7] at H
    have c7b0 : ((l0.length : Int) == 0) = false := beq_eq_false_iff_ne.mpr c7
    have c7b1 : ((l0.length : Int) != 0) = true := bne_iff_ne.mpr c7
    have c7b2 : ¬ (l0 = []) := fun h_ => c7 (by rw [h_]; rfl)
    by_cases c8 : 0 < (l0.length : Int)
    ·rw [if_pos c8] at H
     have c8b0 : decide (0 < (l0.length : Int)) = true := decide_eq_true c8
     have c8b1 : decide (0 < l0.length) = true := decide_eq_true (by omega)
     clear c8
     replace H := Option.bind_eq_some_iff.mp H
     obtain ⟨⟨t175, t176⟩, A90, H⟩ := H
     replace H : (spec_BestRaga.l0 k l0 l1 0 t176 1) = some (r1, r2, r3) := H
     have A9 := Aside0.mk A90
     clear A90
     have H' := Aside0.mk H
     clear H
     go_enter Try.func5, Try.ntmps5
     go_wp2_with (first | (go_at_call 12; (with_reducible refine (spec_l12List.calls k _ _ l0 true _ ?side1 ?side2 A3.out).mono ?_); (case side1 => exact cr_ HR0.out); (case side2 => exact HC0.out); rintro e w' ⟨rfl, ⟨nd, rfl⟩⟩; (try first | exact ⟨rfl, _, dN1⟩ | exact ⟨rfl, _, dN2⟩)) | (go_at_call 13; (with_reducible refine (spec_l05Pitches.calls k _ _ l1 true _ ?side1 ?side2 A5.out).mono ?_); (case side1 => exact cr_ HR1.out); (case side2 => exact HC1.out); rintro e w' ⟨rfl, ⟨nd, rfl⟩⟩; (try first | exact ⟨rfl, _, dN1⟩ | exact ⟨rfl, _, dN2⟩); have p174 : 0 ≤ (0 : Int) := (by omega); have q174 : 0 < (l0.length : Int) := da_; obtain ⟨ad174, A174_1, c174_1, A174_2, c174_2, A174_5, c174_5, e174, hx174_0, hx174_1, hx174_2, hx174_3, hx174_4, hx174_5, hl174_1, hi174_1, hl174_2, hi174_2, hl174_5, hi174_5⟩ := at_T42 HR0.out 0 p174 q174; cases e174; have qi174 : (0 < l0.length) = True := eq_true (by omega); (try rw [show ((0 : Int)).toNat = 0 from rfl] at hx174_0); (try rw [show 0 * 6 = 0 from rfl] at hx174_0); (try rw [Addr.add_zero'] at hx174_0); (try rw [show ((0 : Int)).toNat = 0 from rfl] at hx174_1); (try rw [show 0 * 6 = 0 from rfl] at hx174_1); (try rw [Addr.add_zero'] at hx174_1); (try rw [show ((0 : Int)).toNat = 0 from rfl] at hx174_2); (try rw [show 0 * 6 = 0 from rfl] at hx174_2); (try rw [Addr.add_zero'] at hx174_2); (try rw [show ((0 : Int)).toNat = 0 from rfl] at hx174_3); (try rw [show 0 * 6 = 0 from rfl] at hx174_3); (try rw [Addr.add_zero'] at hx174_3); (try rw [show ((0 : Int)).toNat = 0 from rfl] at hx174_4); (try rw [show 0 * 6 = 0 from rfl] at hx174_4); (try rw [Addr.add_zero'] at hx174_4); (try rw [show ((0 : Int)).toNat = 0 from rfl] at hx174_5); (try rw [show 0 * 6 = 0 from rfl] at hx174_5); (try rw [Addr.add_zero'] at hx174_5); have HR174_1 := Aside0.mk hi174_1; have HC174_1 := Aside0.mk hl174_1; clear hi174_1 hl174_1; have HR174_2 := Aside0.mk hi174_2; have HC174_2 := Aside0.mk hl174_2; clear hi174_2 hl174_2; have HR174_5 := Aside0.mk hi174_5; have HC174_5 := Aside0.mk hl174_5; clear hi174_5 hl174_5; replace p174 := eq_true p174; replace q174 := eq_true q174) | (go_at_call 14; (with_reducible refine (spec_l12Evidence.calls k ad174 ((rd_T42 l0 0).f0) A174_1 c174_1 ((rd_T42 l0 0).f1) A174_2 c174_2 ((rd_T42 l0 0).f2) ((rd_T42 l0 0).f3) ((rd_T42 l0 0).f4) A174_5 c174_5 ((rd_T42 l0 0).f5) _ _ l1 t175 t176 _ ?side1 ?side2 ?side3 ?side4 ?side5 ?side6 ?side7 ?side8 ?side9 A9.out).mono ?_); (case side1 => exact ⟨hx174_0, hx174_1, hx174_2, hx174_3, hx174_4, hx174_5⟩); (case side2 => exact cr_ HR174_1.out); (case side3 => exact HC174_1.out); (case side4 => exact cr_ HR174_2.out); (case side5 => exact HC174_2.out); (case side6 => exact cr_ HR174_5.out); (case side7 => exact HC174_5.out); (case side8 => exact cr_ HR1.out); (case side9 => exact HC1.out); rintro e w' ⟨rfl, ⟨nd, rfl⟩⟩; (try first | exact ⟨rfl, _, dN1⟩ | exact ⟨rfl, _, dN2⟩)))
     repeat (go_quiet (first | (go_at_call 12; (with_reducible refine (spec_l12List.calls k _ _ l0 true _ ?side1 ?side2 A3.out).mono ?_); (case side1 => exact cr_ HR0.out); (case side2 => exact HC0.out); rintro e w' ⟨rfl, ⟨nd, rfl⟩⟩; (try first | exact ⟨rfl, _, dN1⟩ | exact ⟨rfl, _, dN2⟩)) | (go_at_call 13; (with_reducible refine (spec_l05Pitches.calls k _ _ l1 true _ ?side1 ?side2 A5.out).mono ?_); (case side1 => exact cr_ HR1.out); (case side2 => exact HC1.out); rintro e w' ⟨rfl, ⟨nd, rfl⟩⟩; (try first | exact ⟨rfl, _, dN1⟩ | exact ⟨rfl, _, dN2⟩); have p174 : 0 ≤ (0 : Int) := (by omega); have q174 : 0 < (l0.length : Int) := da_; obtain ⟨ad174, A174_1, c174_1, A174_2, c174_2, A174_5, c174_5, e174, hx174_0, hx174_1, hx174_2, hx174_3, hx174_4, hx174_5, hl174_1, hi174_1, hl174_2, hi174_2, hl174_5, hi174_5⟩ := at_T42 HR0.out 0 p174 q174; cases e174; have qi174 : (0 < l0.length) = True := eq_true (by omega); (try rw [show ((0 : Int)).toNat = 0 from rfl] at hx174_0); (try rw [show 0 * 6 = 0 from rfl] at hx174_0); (try rw [Addr.add_zero'] at hx174_0); (try rw [show ((0 : Int)).toNat = 0 from rfl] at hx174_1); (try rw [show 0 * 6 = 0 from rfl] at hx174_1); (try rw [Addr.add_zero'] at hx174_1); (try rw [show ((0 : Int)).toNat = 0 from rfl] at hx174_2); (try rw [show 0 * 6 = 0 from rfl] at hx174_2); (try rw [Addr.add_zero'] at hx174_2); (try rw [show ((0 : Int)).toNat = 0 from rfl] at hx174_3); (try rw [show 0 * 6 = 0 from rfl] at hx174_3); (try rw [Addr.add_zero'] at hx174_3); (try rw [show ((0 : Int)).toNat = 0 from rfl] at hx174_4); (try rw [show 0 * 6 = 0 from rfl] at hx174_4); (try rw [Addr.add_zero'] at hx174_4); (try rw [show ((0 : Int)).toNat = 0 from rfl] at hx174_5); (try rw [show 0 * 6 = 0 from rfl] at hx174_5); (try rw [Addr.add_zero'] at hx174_5); have HR174_1 := Aside0.mk hi174_1; have HC174_1 := Aside0.mk hl174_1; clear hi174_1 hl174_1; have HR174_2 := Aside0.mk hi174_2; have HC174_2 := Aside0.mk hl174_2; clear hi174_2 hl174_2; have HR174_5 := Aside0.mk hi174_5; have HC174_5 := Aside0.mk hl174_5; clear hi174_5 hl174_5; replace p174 := eq_true p174; replace q174 := eq_true q174) | (go_at_call 14; (with_reducible refine (spec_l12Evidence.calls k ad174 ((rd_T42 l0 0).f0) A174_1 c174_1 ((rd_T42 l0 0).f1) A174_2 c174_2 ((rd_T42 l0 0).f2) ((rd_T42 l0 0).f3) ((rd_T42 l0 0).f4) A174_5 c174_5 ((rd_T42 l0 0).f5) _ _ l1 t175 t176 _ ?side1 ?side2 ?side3 ?side4 ?side5 ?side6 ?side7 ?side8 ?side9 A9.out).mono ?_); (case side1 => exact ⟨hx174_0, hx174_1, hx174_2, hx174_3, hx174_4, hx174_5⟩); (case side2 => exact cr_ HR174_1.out); (case side3 => exact HC174_1.out); (case side4 => exact cr_ HR174_2.out); (case side5 => exact HC174_2.out); (case side6 => exact cr_ HR174_5.out); (case side7 => exact HC174_5.out); (case side8 => exact cr_ HR1.out); (case side9 => exact HC1.out); rintro e w' ⟨rfl, ⟨nd, rfl⟩⟩; (try first | exact ⟨rfl, _, dN1⟩ | exact ⟨rfl, _, dN2⟩))); try go_wp2_with (first | (go_at_call 12; (with_reducible refine (spec_l12List.calls k _ _ l0 true _ ?side1 ?side2 A3.out).mono ?_); (case side1 => exact cr_ HR0.out); (case side2 => exact HC0.out); rintro e w' ⟨rfl, ⟨nd, rfl⟩⟩; (try first | exact ⟨rfl, _, dN1⟩ | exact ⟨rfl, _, dN2⟩)) | (go_at_call 13; (with_reducible refine (spec_l05Pitches.calls k _ _ l1 true _ ?side1 ?side2 A5.out).mono ?_); (case side1 => exact cr_ HR1.out); (case side2 => exact HC1.out); rintro e w' ⟨rfl, ⟨nd, rfl⟩⟩; (try first | exact ⟨rfl, _, dN1⟩ | exact ⟨rfl, _, dN2⟩); have p174 : 0 ≤ (0 : Int) := (by omega); have q174 : 0 < (l0.length : Int) := da_; obtain ⟨ad174, A174_1, c174_1, A174_2, c174_2, A174_5, c174_5, e174, hx174_0, hx174_1, hx174_2, hx174_3, hx174_4, hx174_5, hl174_1, hi174_1, hl174_2, hi174_2, hl174_5, hi174_5⟩ := at_T42 HR0.out 0 p174 q174; cases e174; have qi174 : (0 < l0.length) = True := eq_true (by omega); (try rw [show ((0 : Int)).toNat = 0 from rfl] at hx174_0); (try rw [show 0 * 6 = 0 from rfl] at hx174_0); (try rw [Addr.add_zero'] at hx174_0); (try rw [show ((0 : Int)).toNat = 0 from rfl] at hx174_1); (try rw [show 0 * 6 = 0 from rfl] at hx174_1); (try rw [Addr.add_zero'] at hx174_1); (try rw [show ((0 : Int)).toNat = 0 from rfl] at hx174_2); (try rw [show 0 * 6 = 0 from rfl] at hx174_2); (try rw [Addr.add_zero'] at hx174_2); (try rw [show ((0 : Int)).toNat = 0 from rfl] at hx174_3); (try rw [show 0 * 6 = 0 from rfl] at hx174_3); (try rw [Addr.add_zero'] at hx174_3); (try rw [show ((0 : Int)).toNat = 0 from rfl] at hx174_4); (try rw [show 0 * 6 = 0 from rfl] at hx174_4); (try rw [Addr.add_zero'] at hx174_4); (try rw [show ((0 : Int)).toNat = 0 from rfl] at hx174_5); (try rw [show 0 * 6 = 0 from rfl] at hx174_5); (try rw [Addr.add_zero'] at hx174_5); have HR174_1 := Aside0.mk hi174_1; have HC174_1 := Aside0.mk hl174_1; clear hi174_1 hl174_1; have HR174_2 := Aside0.mk hi174_2; have HC174_2 := Aside0.mk hl174_2; clear hi174_2 hl174_2; have HR174_5 := Aside0.mk hi174_5; have HC174_5 := Aside0.mk hl174_5; clear hi174_5 hl174_5; replace p174 := eq_true p174; replace q174 := eq_true q174) | (go_at_call 14; (with_reducible refine (spec_l12Evidence.calls k ad174 ((rd_T42 l0 0).f0) A174_1 c174_1 ((rd_T42 l0 0).f1) A174_2 c174_2 ((rd_T42 l0 0).f2) ((rd_T42 l0 0).f3) ((rd_T42 l0 0).f4) A174_5 c174_5 ((rd_T42 l0 0).f5) _ _ l1 t175 t176 _ ?side1 ?side2 ?side3 ?side4 ?side5 ?side6 ?side7 ?side8 ?side9 A9.out).mono ?_); (case side1 => exact ⟨hx174_0, hx174_1, hx174_2, hx174_3, hx174_4, hx174_5⟩); (case side2 => exact cr_ HR174_1.out); (case side3 => exact HC174_1.out); (case side4 => exact cr_ HR174_2.out); (case side5 => exact HC174_2.out); (case side6 => exact cr_ HR174_5.out); (case side7 => exact HC174_5.out); (case side8 => exact cr_ HR1.out); (case side9 => exact HC1.out); rintro e w' ⟨rfl, ⟨nd, rfl⟩⟩; (try first | exact ⟨rfl, _, dN1⟩ | exact ⟨rfl, _, dN2⟩))))
     go_loopg [7, 9, 10] k (fun kq v7 v9 v10 w' => ∃ (x7_1 : Int) (x9_1 : Int) (x10_1 : Int), v7 = .int .i64 x7_1 ∧ v9 = .int .i64 x9_1 ∧ v10 = .int .i64 x10_1 ∧ Aside0 (spec_BestRaga.l0 kq l0 l1 x7_1 x9_1 x10_1 = some (r1, r2, r3)) ∧ Aside0 (kq ≤ k) ∧ Drawn0 w w')
     case atStart => exact ⟨(0), (t176), (1), sv_, sv_, sv_, H', ⟨Nat.le_refl _⟩, dr_⟩
     case round =>
      clear H'
      (try clear c1); (try clear p1); (try clear q1); (try clear hx1); (try clear qi1); (try clear p2); (try clear c4); (try clear c5); (try clear c6); (try clear c7); (try clear c7b0); (try clear c7b1); (try clear c7b2); (try clear c8); (try clear c8b0); (try clear c8b1); (try clear hx174_0); (try clear hx174_1); (try clear hx174_2); (try clear hx174_3); (try clear hx174_4); (try clear hx174_5); (try clear p174); (try clear q174)
      obtain ⟨x7_1, x9_1, x10_1, rfl, rfl, rfl, HA, HK1, ⟨m1, rfl⟩⟩ := hrel
      cases gk with
      | zero => exact absurd HA.out (by simp [spec_BestRaga.l0])
      | succ k1 =>
       have H := HA.out
       clear HA
       simp only [spec_BestRaga.l0] at H
       by_cases c10 : x10_1 < (l0.length : Int)
       ·rw [if_pos c10] at H
        have c10b0 : decide (x10_1 < (l0.length : Int)) = true := decide_eq_true c10
        clear c10
        by_cases c11 : 0 ≤ x10_1
        ·rw [if_pos c11] at H
         have c11b0 : decide (0 ≤ x10_1) = true := decide_eq_true c11
         clear c11
         replace H := Option.bind_eq_some_iff.mp H
         obtain ⟨⟨t178, t179⟩, A120, H⟩ := H
         replace H : (if t179 < x9_1 then (spec_BestRaga.l0 k1 l0 l1 x10_1 t179 (wrap64 (x10_1 + 1))) else (if t179 = x9_1 then ((spec_l12Size.f k1 ((rd_T42 l0 x10_1).f0) ((rd_T42 l0 x10_1).f1) ((rd_T42 l0 x10_1).f2) ((rd_T42 l0 x10_1).f3) ((rd_T42 l0 x10_1).f4) ((rd_T42 l0 x10_1).f5)).bind fun t181 => (if 0 ≤ x7_1 then (if x7_1 < (l0.length : Int) then ((spec_l12Size.f k1 ((rd_T42 l0 x7_1).f0) ((rd_T42 l0 x7_1).f1) ((rd_T42 l0 x7_1).f2) ((rd_T42 l0 x7_1).f3) ((rd_T42 l0 x7_1).f4) ((rd_T42 l0 x7_1).f5)).bind fun t183 => (if t181 < t183 then (spec_BestRaga.l0 k1 l0 l1 x10_1 t179 (wrap64 (x10_1 + 1))) else (spec_BestRaga.l0 k1 l0 l1 x7_1 x9_1 (wrap64 (x10_1 + 1))))) else (none)) else (none))) else (spec_BestRaga.l0 k1 l0 l1 x7_1 x9_1 (wrap64 (x10_1 + 1))))) = some (r1, r2, r3) := H
         have A12 := Aside0.mk A120
         clear A120
         by_cases c13 : t179 < x9_1
         ·rw [if_pos c13] at H
          have c13b0 : decide (t179 < x9_1) = true := decide_eq_true c13
          clear c13
          have H' := Aside0.mk H
          clear H
          have p177 : 0 ≤ (x10_1 : Int) := da_
          have q177 : x10_1 < (l0.length : Int) := da_
          obtain ⟨ad177, A177_1, c177_1, A177_2, c177_2, A177_5, c177_5, e177, hx177_0, hx177_1, hx177_2, hx177_3, hx177_4, hx177_5, hl177_1, hi177_1, hl177_2, hi177_2, hl177_5, hi177_5⟩ := at_T42 HR0.out x10_1 p177 q177
          obtain rfl : ad174 = ad177 := (by injection e177)
          have HR177_1 := Aside0.mk hi177_1
          have HC177_1 := Aside0.mk hl177_1
          clear hi177_1 hl177_1
          have HR177_2 := Aside0.mk hi177_2
          have HC177_2 := Aside0.mk hl177_2
          clear hi177_2 hl177_2
          have HR177_5 := Aside0.mk hi177_5
          have HC177_5 := Aside0.mk hl177_5
          clear hi177_5 hl177_5
          replace p177 := eq_true p177
          replace q177 := eq_true q177
          go_wp2_with (first | (go_at_call 14; (with_reducible refine (spec_l12Evidence.calls k1 (ad174.add ((x10_1 : Int).toNat * 6)) ((rd_T42 l0 x10_1).f0) A177_1 c177_1 ((rd_T42 l0 x10_1).f1) A177_2 c177_2 ((rd_T42 l0 x10_1).f2) ((rd_T42 l0 x10_1).f3) ((rd_T42 l0 x10_1).f4) A177_5 c177_5 ((rd_T42 l0 x10_1).f5) _ _ l1 t178 t179 _ ?side1 ?side2 ?side3 ?side4 ?side5 ?side6 ?side7 ?side8 ?side9 A12.out).mono ?_); (case side1 => exact ⟨hx177_0, hx177_1, hx177_2, hx177_3, hx177_4, hx177_5⟩); (case side2 => exact cr_ HR177_1.out); (case side3 => exact HC177_1.out); (case side4 => exact cr_ HR177_2.out); (case side5 => exact HC177_2.out); (case side6 => exact cr_ HR177_5.out); (case side7 => exact HC177_5.out); (case side8 => exact cr_ HR1.out); (case side9 => exact HC1.out); rintro e w' ⟨rfl, ⟨nd, rfl⟩⟩; (try first | exact ⟨rfl, _, dN1⟩ | exact ⟨rfl, _, dN2⟩)))
          repeat (go_quiet (first | (go_at_call 14; (with_reducible refine (spec_l12Evidence.calls k1 (ad174.add ((x10_1 : Int).toNat * 6)) ((rd_T42 l0 x10_1).f0) A177_1 c177_1 ((rd_T42 l0 x10_1).f1) A177_2 c177_2 ((rd_T42 l0 x10_1).f2) ((rd_T42 l0 x10_1).f3) ((rd_T42 l0 x10_1).f4) A177_5 c177_5 ((rd_T42 l0 x10_1).f5) _ _ l1 t178 t179 _ ?side1 ?side2 ?side3 ?side4 ?side5 ?side6 ?side7 ?side8 ?side9 A12.out).mono ?_); (case side1 => exact ⟨hx177_0, hx177_1, hx177_2, hx177_3, hx177_4, hx177_5⟩); (case side2 => exact cr_ HR177_1.out); (case side3 => exact HC177_1.out); (case side4 => exact cr_ HR177_2.out); (case side5 => exact HC177_2.out); (case side6 => exact cr_ HR177_5.out); (case side7 => exact HC177_5.out); (case side8 => exact cr_ HR1.out); (case side9 => exact HC1.out); rintro e w' ⟨rfl, ⟨nd, rfl⟩⟩; (try first | exact ⟨rfl, _, dN1⟩ | exact ⟨rfl, _, dN2⟩))); try go_wp2_with (first | (go_at_call 14; (with_reducible refine (spec_l12Evidence.calls k1 (ad174.add ((x10_1 : Int).toNat * 6)) ((rd_T42 l0 x10_1).f0) A177_1 c177_1 ((rd_T42 l0 x10_1).f1) A177_2 c177_2 ((rd_T42 l0 x10_1).f2) ((rd_T42 l0 x10_1).f3) ((rd_T42 l0 x10_1).f4) A177_5 c177_5 ((rd_T42 l0 x10_1).f5) _ _ l1 t178 t179 _ ?side1 ?side2 ?side3 ?side4 ?side5 ?side6 ?side7 ?side8 ?side9 A12.out).mono ?_); (case side1 => exact ⟨hx177_0, hx177_1, hx177_2, hx177_3, hx177_4, hx177_5⟩); (case side2 => exact cr_ HR177_1.out); (case side3 => exact HC177_1.out); (case side4 => exact cr_ HR177_2.out); (case side5 => exact HC177_2.out); (case side6 => exact cr_ HR177_5.out); (case side7 => exact HC177_5.out); (case side8 => exact cr_ HR1.out); (case side9 => exact HC1.out); rintro e w' ⟨rfl, ⟨nd, rfl⟩⟩; (try first | exact ⟨rfl, _, dN1⟩ | exact ⟨rfl, _, dN2⟩))))
          go_roundg k1
          case measure => have := HK1.out; omega
          case rel => exact ⟨(x10_1), (t179), (wrap64 (x10_1 + 1)), sv_, sv_, sv_, H', ⟨by have := HK1.out; omega⟩, dr_⟩
         ·rw [if_neg c13] at H
          have c13b0 : decide (t179 < x9_1) = false := decide_eq_false c13
          clear c13
          by_cases c14 : t179 = x9_1
          ·rw [if_pos c14] at H
           have c14b0 : (t179 == x9_1) = true := beq_iff_eq.mpr c14
           have c14b1 : (t179 != x9_1) = false := bne_eq_false_iff_eq.mpr c14
           clear c14
           replace H := Option.bind_eq_some_iff.mp H
           obtain ⟨t181, A150, H⟩ := H
           replace H : (if 0 ≤ x7_1 then (if x7_1 < (l0.length : Int) then ((spec_l12Size.f k1 ((rd_T42 l0 x7_1).f0) ((rd_T42 l0 x7_1).f1) ((rd_T42 l0 x7_1).f2) ((rd_T42 l0 x7_1).f3) ((rd_T42 l0 x7_1).f4) ((rd_T42 l0 x7_1).f5)).bind fun t183 => (if t181 < t183 then (spec_BestRaga.l0 k1 l0 l1 x10_1 t179 (wrap64 (x10_1 + 1))) else (spec_BestRaga.l0 k1 l0 l1 x7_1 x9_1 (wrap64 (x10_1 + 1))))) else (none)) else (none)) = some (r1, r2, r3) := H
           have A15 := Aside0.mk A150
           clear A150
           by_cases c16 : 0 ≤ x7_1
           ·rw [if_pos c16] at H
            have c16b0 : decide (0 ≤ x7_1) = true := decide_eq_true c16
            clear c16
            by_cases c17 : x7_1 < (l0.length : Int)
            ·rw [if_pos c17] at H
             have c17b0 : decide (x7_1 < (l0.length : Int)) = true := decide_eq_true c17
             clear c17
             replace H := Option.bind_eq_some_iff.mp H
             obtain ⟨t183, A180, H⟩ := H
             replace H : (if t181 < t183 then (spec_BestRaga.l0 k1 l0 l1 x10_1 t179 (wrap64 (x10_1 + 1))) else (spec_BestRaga.l0 k1 l0 l1 x7_1 x9_1 (wrap64 (x10_1 + 1)))) = some (r1, r2, r3) := H
             have A18 := Aside0.mk A180
             clear A180
             by_cases c19 : t181 < t183
             ·rw [if_pos c19] at H
              have c19b0 : decide (t181 < t183) = true := decide_eq_true c19
              clear c19
              have H' := Aside0.mk H
              clear H
              have p177 : 0 ≤ (x10_1 : Int) := da_
              have q177 : x10_1 < (l0.length : Int) := da_
              obtain ⟨ad177, A177_1, c177_1, A177_2, c177_2, A177_5, c177_5, e177, hx177_0, hx177_1, hx177_2, hx177_3, hx177_4, hx177_5, hl177_1, hi177_1, hl177_2, hi177_2, hl177_5, hi177_5⟩ := at_T42 HR0.out x10_1 p177 q177
              obtain rfl : ad174 = ad177 := (by injection e177)
              have HR177_1 := Aside0.mk hi177_1
              have HC177_1 := Aside0.mk hl177_1
              clear hi177_1 hl177_1
              have HR177_2 := Aside0.mk hi177_2
              have HC177_2 := Aside0.mk hl177_2
              clear hi177_2 hl177_2
              have HR177_5 := Aside0.mk hi177_5
              have HC177_5 := Aside0.mk hl177_5
              clear hi177_5 hl177_5
              replace p177 := eq_true p177
              replace q177 := eq_true q177
              go_wp2_with (first | (go_at_call 14; (with_reducible refine (spec_l12Evidence.calls k1 (ad174.add ((x10_1 : Int).toNat * 6)) ((rd_T42 l0 x10_1).f0) A177_1 c177_1 ((rd_T42 l0 x10_1).f1) A177_2 c177_2 ((rd_T42 l0 x10_1).f2) ((rd_T42 l0 x10_1).f3) ((rd_T42 l0 x10_1).f4) A177_5 c177_5 ((rd_T42 l0 x10_1).f5) _ _ l1 t178 t179 _ ?side1 ?side2 ?side3 ?side4 ?side5 ?side6 ?side7 ?side8 ?side9 A12.out).mono ?_); (case side1 => exact ⟨hx177_0, hx177_1, hx177_2, hx177_3, hx177_4, hx177_5⟩); (case side2 => exact cr_ HR177_1.out); (case side3 => exact HC177_1.out); (case side4 => exact cr_ HR177_2.out); (case side5 => exact HC177_2.out); (case side6 => exact cr_ HR177_5.out); (case side7 => exact HC177_5.out); (case side8 => exact cr_ HR1.out); (case side9 => exact HC1.out); rintro e w' ⟨rfl, ⟨nd, rfl⟩⟩; (try first | exact ⟨rfl, _, dN1⟩ | exact ⟨rfl, _, dN2⟩); have p180 : 0 ≤ (x10_1 : Int) := da_; have q180 : x10_1 < (l0.length : Int) := da_; obtain ⟨ad180, A180_1, c180_1, A180_2, c180_2, A180_5, c180_5, e180, hx180_0, hx180_1, hx180_2, hx180_3, hx180_4, hx180_5, hl180_1, hi180_1, hl180_2, hi180_2, hl180_5, hi180_5⟩ := at_T42 HR0.out x10_1 p180 q180; obtain rfl : ad174 = ad180 := (by injection e180); have HR180_1 := Aside0.mk hi180_1; have HC180_1 := Aside0.mk hl180_1; clear hi180_1 hl180_1; have HR180_2 := Aside0.mk hi180_2; have HC180_2 := Aside0.mk hl180_2; clear hi180_2 hl180_2; have HR180_5 := Aside0.mk hi180_5; have HC180_5 := Aside0.mk hl180_5; clear hi180_5 hl180_5; replace p180 := eq_true p180; replace q180 := eq_true q180; have ea_ := Option.some.inj (hx177_1.symm.trans hx180_1); injection ea_ with ea_ en_ ec_; subst ea_; subst ec_; clear en_; have ea_ := Option.some.inj (hx177_2.symm.trans hx180_2); injection ea_ with ea_ en_ ec_; subst ea_; subst ec_; clear en_; have ea_ := Option.some.inj (hx177_5.symm.trans hx180_5); injection ea_ with ea_ en_ ec_; subst ea_; subst ec_; clear en_) | (go_at_call 15; (with_reducible refine (spec_l12Size.calls k1 (ad174.add ((x10_1 : Int).toNat * 6)) ((rd_T42 l0 x10_1).f0) A177_1 c177_1 ((rd_T42 l0 x10_1).f1) A177_2 c177_2 ((rd_T42 l0 x10_1).f2) ((rd_T42 l0 x10_1).f3) ((rd_T42 l0 x10_1).f4) A177_5 c177_5 ((rd_T42 l0 x10_1).f5) t181 _ ?side1 ?side2 ?side3 ?side4 ?side5 ?side6 ?side7 A15.out).mono ?_); (case side1 => exact ⟨hx180_0, hx180_1, hx180_2, hx180_3, hx180_4, hx180_5⟩); (case side2 => exact cr_ HR180_1.out); (case side3 => exact HC180_1.out); (case side4 => exact cr_ HR180_2.out); (case side5 => exact HC180_2.out); (case side6 => exact cr_ HR180_5.out); (case side7 => exact HC180_5.out); rintro e w' ⟨rfl, ⟨nd, rfl⟩⟩; (try first | exact ⟨rfl, _, dN1⟩ | exact ⟨rfl, _, dN2⟩); have p182 : 0 ≤ (x7_1 : Int) := da_; have q182 : x7_1 < (l0.length : Int) := da_; obtain ⟨ad182, A182_1, c182_1, A182_2, c182_2, A182_5, c182_5, e182, hx182_0, hx182_1, hx182_2, hx182_3, hx182_4, hx182_5, hl182_1, hi182_1, hl182_2, hi182_2, hl182_5, hi182_5⟩ := at_T42 HR0.out x7_1 p182 q182; obtain rfl : ad174 = ad182 := (by injection e182); have HR182_1 := Aside0.mk hi182_1; have HC182_1 := Aside0.mk hl182_1; clear hi182_1 hl182_1; have HR182_2 := Aside0.mk hi182_2; have HC182_2 := Aside0.mk hl182_2; clear hi182_2 hl182_2; have HR182_5 := Aside0.mk hi182_5; have HC182_5 := Aside0.mk hl182_5; clear hi182_5 hl182_5; replace p182 := eq_true p182; replace q182 := eq_true q182) | (go_at_call 15; (with_reducible refine (spec_l12Size.calls k1 (ad174.add ((x7_1 : Int).toNat * 6)) ((rd_T42 l0 x7_1).f0) A182_1 c182_1 ((rd_T42 l0 x7_1).f1) A182_2 c182_2 ((rd_T42 l0 x7_1).f2) ((rd_T42 l0 x7_1).f3) ((rd_T42 l0 x7_1).f4) A182_5 c182_5 ((rd_T42 l0 x7_1).f5) t183 _ ?side1 ?side2 ?side3 ?side4 ?side5 ?side6 ?side7 A18.out).mono ?_); (case side1 => exact ⟨hx182_0, hx182_1, hx182_2, hx182_3, hx182_4, hx182_5⟩); (case side2 => exact cr_ HR182_1.out); (case side3 => exact HC182_1.out); (case side4 => exact cr_ HR182_2.out); (case side5 => exact HC182_2.out); (case side6 => exact cr_ HR182_5.out); (case side7 => exact HC182_5.out); rintro e w' ⟨rfl, ⟨nd, rfl⟩⟩; (try first | exact ⟨rfl, _, dN1⟩ | exact ⟨rfl, _, dN2⟩)))
              repeat (go_quiet (first | (go_at_call 14; (with_reducible refine (spec_l12Evidence.calls k1 (ad174.add ((x10_1 : Int).toNat * 6)) ((rd_T42 l0 x10_1).f0) A177_1 c177_1 ((rd_T42 l0 x10_1).f1) A177_2 c177_2 ((rd_T42 l0 x10_1).f2) ((rd_T42 l0 x10_1).f3) ((rd_T42 l0 x10_1).f4) A177_5 c177_5 ((rd_T42 l0 x10_1).f5) _ _ l1 t178 t179 _ ?side1 ?side2 ?side3 ?side4 ?side5 ?side6 ?side7 ?side8 ?side9 A12.out).mono ?_); (case side1 => exact ⟨hx177_0, hx177_1, hx177_2, hx177_3, hx177_4, hx177_5⟩); (case side2 => exact cr_ HR177_1.out); (case side3 => exact HC177_1.out); (case side4 => exact cr_ HR177_2.out); (case side5 => exact HC177_2.out); (case side6 => exact cr_ HR177_5.out); (case side7 => exact HC177_5.out); (case side8 => exact cr_ HR1.out); (case side9 => exact HC1.out); rintro e w' ⟨rfl, ⟨nd, rfl⟩⟩; (try first | exact ⟨rfl, _, dN1⟩ | exact ⟨rfl, _, dN2⟩); have p180 : 0 ≤ (x10_1 : Int) := da_; have q180 : x10_1 < (l0.length : Int) := da_; obtain ⟨ad180, A180_1, c180_1, A180_2, c180_2, A180_5, c180_5, e180, hx180_0, hx180_1, hx180_2, hx180_3, hx180_4, hx180_5, hl180_1, hi180_1, hl180_2, hi180_2, hl180_5, hi180_5⟩ := at_T42 HR0.out x10_1 p180 q180; obtain rfl : ad174 = ad180 := (by injection e180); have HR180_1 := Aside0.mk hi180_1; have HC180_1 := Aside0.mk hl180_1; clear hi180_1 hl180_1; have HR180_2 := Aside0.mk hi180_2; have HC180_2 := Aside0.mk hl180_2; clear hi180_2 hl180_2; have HR180_5 := Aside0.mk hi180_5; have HC180_5 := Aside0.mk hl180_5; clear hi180_5 hl180_5; replace p180 := eq_true p180; replace q180 := eq_true q180; have ea_ := Option.some.inj (hx177_1.symm.trans hx180_1); injection ea_ with ea_ en_ ec_; subst ea_; subst ec_; clear en_; have ea_ := Option.some.inj (hx177_2.symm.trans hx180_2); injection ea_ with ea_ en_ ec_; subst ea_; subst ec_; clear en_; have ea_ := Option.some.inj (hx177_5.symm.trans hx180_5); injection ea_ with ea_ en_ ec_; subst ea_; subst ec_; clear en_) | (go_at_call 15; (with_reducible refine (spec_l12Size.calls k1 (ad174.add ((x10_1 : Int).toNat * 6)) ((rd_T42 l0 x10_1).f0) A177_1 c177_1 ((rd_T42 l0 x10_1).f1) A177_2 c177_2 ((rd_T42 l0 x10_1).f2) ((rd_T42 l0 x10_1).f3) ((rd_T42 l0 x10_1).f4) A177_5 c177_5 ((rd_T42 l0 x10_1).f5) t181 _ ?side1 ?side2 ?side3 ?side4 ?side5 ?side6 ?side7 A15.out).mono ?_); (case side1 => exact ⟨hx180_0, hx180_1, hx180_2, hx180_3, hx180_4, hx180_5⟩); (case side2 => exact cr_ HR180_1.out); (case side3 => exact HC180_1.out); (case side4 => exact cr_ HR180_2.out); (case side5 => exact HC180_2.out); (case side6 => exact cr_ HR180_5.out); (case side7 => exact HC180_5.out); rintro e w' ⟨rfl, ⟨nd, rfl⟩⟩; (try first | exact ⟨rfl, _, dN1⟩ | exact ⟨rfl, _, dN2⟩); have p182 : 0 ≤ (x7_1 : Int) := da_; have q182 : x7_1 < (l0.length : Int) := da_; obtain ⟨ad182, A182_1, c182_1, A182_2, c182_2, A182_5, c182_5, e182, hx182_0, hx182_1, hx182_2, hx182_3, hx182_4, hx182_5, hl182_1, hi182_1, hl182_2, hi182_2, hl182_5, hi182_5⟩ := at_T42 HR0.out x7_1 p182 q182; obtain rfl : ad174 = ad182 := (by injection e182); have HR182_1 := Aside0.mk hi182_1; have HC182_1 := Aside0.mk hl182_1; clear hi182_1 hl182_1; have HR182_2 := Aside0.mk hi182_2; have HC182_2 := Aside0.mk hl182_2; clear hi182_2 hl182_2; have HR182_5 := Aside0.mk hi182_5; have HC182_5 := Aside0.mk hl182_5; clear hi182_5 hl182_5; replace p182 := eq_true p182; replace q182 := eq_true q182) | (go_at_call 15; (with_reducible refine (spec_l12Size.calls k1 (ad174.add ((x7_1 : Int).toNat * 6)) ((rd_T42 l0 x7_1).f0) A182_1 c182_1 ((rd_T42 l0 x7_1).f1) A182_2 c182_2 ((rd_T42 l0 x7_1).f2) ((rd_T42 l0 x7_1).f3) ((rd_T42 l0 x7_1).f4) A182_5 c182_5 ((rd_T42 l0 x7_1).f5) t183 _ ?side1 ?side2 ?side3 ?side4 ?side5 ?side6 ?side7 A18.out).mono ?_); (case side1 => exact ⟨hx182_0, hx182_1, hx182_2, hx182_3, hx182_4, hx182_5⟩); (case side2 => exact cr_ HR182_1.out); (case side3 => exact HC182_1.out); (case side4 => exact cr_ HR182_2.out); (case side5 => exact HC182_2.out); (case side6 => exact cr_ HR182_5.out); (case side7 => exact HC182_5.out); rintro e w' ⟨rfl, ⟨nd, rfl⟩⟩; (try first | exact ⟨rfl, _, dN1⟩ | exact ⟨rfl, _, dN2⟩))); try go_wp2_with (first | (go_at_call 14; (with_reducible refine (spec_l12Evidence.calls k1 (ad174.add ((x10_1 : Int).toNat * 6)) ((rd_T42 l0 x10_1).f0) A177_1 c177_1 ((rd_T42 l0 x10_1).f1) A177_2 c177_2 ((rd_T42 l0 x10_1).f2) ((rd_T42 l0 x10_1).f3) ((rd_T42 l0 x10_1).f4) A177_5 c177_5 ((rd_T42 l0 x10_1).f5) _ _ l1 t178 t179 _ ?side1 ?side2 ?side3 ?side4 ?side5 ?side6 ?side7 ?side8 ?side9 A12.out).mono ?_); (case side1 => exact ⟨hx177_0, hx177_1, hx177_2, hx177_3, hx177_4, hx177_5⟩); (case side2 => exact cr_ HR177_1.out); (case side3 => exact HC177_1.out); (case side4 => exact cr_ HR177_2.out); (case side5 => exact HC177_2.out); (case side6 => exact cr_ HR177_5.out); (case side7 => exact HC177_5.out); (case side8 => exact cr_ HR1.out); (case side9 => exact HC1.out); rintro e w' ⟨rfl, ⟨nd, rfl⟩⟩; (try first | exact ⟨rfl, _, dN1⟩ | exact ⟨rfl, _, dN2⟩); have p180 : 0 ≤ (x10_1 : Int) := da_; have q180 : x10_1 < (l0.length : Int) := da_; obtain ⟨ad180, A180_1, c180_1, A180_2, c180_2, A180_5, c180_5, e180, hx180_0, hx180_1, hx180_2, hx180_3, hx180_4, hx180_5, hl180_1, hi180_1, hl180_2, hi180_2, hl180_5, hi180_5⟩ := at_T42 HR0.out x10_1 p180 q180; obtain rfl : ad174 = ad180 := (by injection e180); have HR180_1 := Aside0.mk hi180_1; have HC180_1 := Aside0.mk hl180_1; clear hi180_1 hl180_1; have HR180_2 := Aside0.mk hi180_2; have HC180_2 := Aside0.mk hl180_2; clear hi180_2 hl180_2; have HR180_5 := Aside0.mk hi180_5; have HC180_5 := Aside0.mk hl180_5; clear hi180_5 hl180_5; replace p180 := eq_true p180; replace q180 := eq_true q180; have ea_ := Option.some.inj (hx177_1.symm.trans hx180_1); injection ea_ with ea_ en_ ec_; subst ea_; subst ec_; clear en_; have ea_ := Option.some.inj (hx177_2.symm.trans hx180_2); injection ea_ with ea_ en_ ec_; subst ea_; subst ec_; clear en_; have ea_ := Option.some.inj (hx177_5.symm.trans hx180_5); injection ea_ with ea_ en_ ec_; subst ea_; subst ec_; clear en_) | (go_at_call 15; (with_reducible refine (spec_l12Size.calls k1 (ad174.add ((x10_1 : Int).toNat * 6)) ((rd_T42 l0 x10_1).f0) A177_1 c177_1 ((rd_T42 l0 x10_1).f1) A177_2 c177_2 ((rd_T42 l0 x10_1).f2) ((rd_T42 l0 x10_1).f3) ((rd_T42 l0 x10_1).f4) A177_5 c177_5 ((rd_T42 l0 x10_1).f5) t181 _ ?side1 ?side2 ?side3 ?side4 ?side5 ?side6 ?side7 A15.out).mono ?_); (case side1 => exact ⟨hx180_0, hx180_1, hx180_2, hx180_3, hx180_4, hx180_5⟩); (case side2 => exact cr_ HR180_1.out); (case side3 => exact HC180_1.out); (case side4 => exact cr_ HR180_2.out); (case side5 => exact HC180_2.out); (case side6 => exact cr_ HR180_5.out); (case side7 => exact HC180_5.out); rintro e w' ⟨rfl, ⟨nd, rfl⟩⟩; (try first | exact ⟨rfl, _, dN1⟩ | exact ⟨rfl, _, dN2⟩); have p182 : 0 ≤ (x7_1 : Int) := da_; have q182 : x7_1 < (l0.length : Int) := da_; obtain ⟨ad182, A182_1, c182_1, A182_2, c182_2, A182_5, c182_5, e182, hx182_0, hx182_1, hx182_2, hx182_3, hx182_4, hx182_5, hl182_1, hi182_1, hl182_2, hi182_2, hl182_5, hi182_5⟩ := at_T42 HR0.out x7_1 p182 q182; obtain rfl : ad174 = ad182 := (by injection e182); have HR182_1 := Aside0.mk hi182_1; have HC182_1 := Aside0.mk hl182_1; clear hi182_1 hl182_1; have HR182_2 := Aside0.mk hi182_2; have HC182_2 := Aside0.mk hl182_2; clear hi182_2 hl182_2; have HR182_5 := Aside0.mk hi182_5; have HC182_5 := Aside0.mk hl182_5; clear hi182_5 hl182_5; replace p182 := eq_true p182; replace q182 := eq_true q182) | (go_at_call 15; (with_reducible refine (spec_l12Size.calls k1 (ad174.add ((x7_1 : Int).toNat * 6)) ((rd_T42 l0 x7_1).f0) A182_1 c182_1 ((rd_T42 l0 x7_1).f1) A182_2 c182_2 ((rd_T42 l0 x7_1).f2) ((rd_T42 l0 x7_1).f3) ((rd_T42 l0 x7_1).f4) A182_5 c182_5 ((rd_T42 l0 x7_1).f5) t183 _ ?side1 ?side2 ?side3 ?side4 ?side5 ?side6 ?side7 A18.out).mono ?_); (case side1 => exact ⟨hx182_0, hx182_1, hx182_2, hx182_3, hx182_4, hx182_5⟩); (case side2 => exact cr_ HR182_1.out); (case side3 => exact HC182_1.out); (case side4 => exact cr_ HR182_2.out); (case side5 => exact HC182_2.out); (case side6 => exact cr_ HR182_5.out); (case side7 => exact HC182_5.out); rintro e w' ⟨rfl, ⟨nd, rfl⟩⟩; (try first | exact ⟨rfl, _, dN1⟩ | exact ⟨rfl, _, dN2⟩))))
              go_roundg k1
              case measure => have := HK1.out; omega
              case rel => exact ⟨(x10_1), (t179), (wrap64 (x10_1 + 1)), sv_, sv_, sv_, H', ⟨by have := HK1.out; omega⟩, dr_⟩
             ·rw [if_neg c19] at H
              have c19b0 : decide (t181 < t183) = false := decide_eq_false c19
              clear c19
              have H' := Aside0.mk H
              clear H
              have p177 : 0 ≤ (x10_1 : Int) := da_
              have q177 : x10_1 < (l0.length : Int) := da_
              obtain ⟨ad177, A177_1, c177_1, A177_2, c177_2, A177_5, c177_5, e177, hx177_0, hx177_1, hx177_2, hx177_3, hx177_4, hx177_5, hl177_1, hi177_1, hl177_2, hi177_2, hl177_5, hi177_5⟩ := at_T42 HR0.out x10_1 p177 q177
              obtain rfl : ad174 = ad177 := (by injection e177)
              have HR177_1 := Aside0.mk hi177_1
              have HC177_1 := Aside0.mk hl177_1
              clear hi177_1 hl177_1
              have HR177_2 := Aside0.mk hi177_2
              have HC177_2 := Aside0.mk hl177_2
              clear hi177_2 hl177_2
              have HR177_5 := Aside0.mk hi177_5
              have HC177_5 := Aside0.mk hl177_5
              clear hi177_5 hl177_5
              replace p177 := eq_true p177
              replace q177 := eq_true q177
              go_wp2_with (first | (go_at_call 14; (with_reducible refine (spec_l12Evidence.calls k1 (ad174.add ((x10_1 : Int).toNat * 6)) ((rd_T42 l0 x10_1).f0) A177_1 c177_1 ((rd_T42 l0 x10_1).f1) A177_2 c177_2 ((rd_T42 l0 x10_1).f2) ((rd_T42 l0 x10_1).f3) ((rd_T42 l0 x10_1).f4) A177_5 c177_5 ((rd_T42 l0 x10_1).f5) _ _ l1 t178 t179 _ ?side1 ?side2 ?side3 ?side4 ?side5 ?side6 ?side7 ?side8 ?side9 A12.out).mono ?_); (case side1 => exact ⟨hx177_0, hx177_1, hx177_2, hx177_3, hx177_4, hx177_5⟩); (case side2 => exact cr_ HR177_1.out); (case side3 => exact HC177_1.out); (case side4 => exact cr_ HR177_2.out); (case side5 => exact HC177_2.out); (case side6 => exact cr_ HR177_5.out); (case side7 => exact HC177_5.out); (case side8 => exact cr_ HR1.out); (case side9 => exact HC1.out); rintro e w' ⟨rfl, ⟨nd, rfl⟩⟩; (try first | exact ⟨rfl, _, dN1⟩ | exact ⟨rfl, _, dN2⟩); have p180 : 0 ≤ (x10_1 : Int) := da_; have q180 : x10_1 < (l0.length : Int) := da_; obtain ⟨ad180, A180_1, c180_1, A180_2, c180_2, A180_5, c180_5, e180, hx180_0, hx180_1, hx180_2, hx180_3, hx180_4, hx180_5, hl180_1, hi180_1, hl180_2, hi180_2, hl180_5, hi180_5⟩ := at_T42 HR0.out x10_1 p180 q180; obtain rfl : ad174 = ad180 := (by injection e180); have HR180_1 := Aside0.mk hi180_1; have HC180_1 := Aside0.mk hl180_1; clear hi180_1 hl180_1; have HR180_2 := Aside0.mk hi180_2; have HC180_2 := Aside0.mk hl180_2; clear hi180_2 hl180_2; have HR180_5 := Aside0.mk hi180_5; have HC180_5 := Aside0.mk hl180_5; clear hi180_5 hl180_5; replace p180 := eq_true p180; replace q180 := eq_true q180; have ea_ := Option.some.inj (hx177_1.symm.trans hx180_1); injection ea_ with ea_ en_ ec_; subst ea_; subst ec_; clear en_; have ea_ := Option.some.inj (hx177_2.symm.trans hx180_2); injection ea_ with ea_ en_ ec_; subst ea_; subst ec_; clear en_; have ea_ := Option.some.inj (hx177_5.symm.trans hx180_5); injection ea_ with ea_ en_ ec_; subst ea_; subst ec_; clear en_) | (go_at_call 15; (with_reducible refine (spec_l12Size.calls k1 (ad174.add ((x10_1 : Int).toNat * 6)) ((rd_T42 l0 x10_1).f0) A177_1 c177_1 ((rd_T42 l0 x10_1).f1) A177_2 c177_2 ((rd_T42 l0 x10_1).f2) ((rd_T42 l0 x10_1).f3) ((rd_T42 l0 x10_1).f4) A177_5 c177_5 ((rd_T42 l0 x10_1).f5) t181 _ ?side1 ?side2 ?side3 ?side4 ?side5 ?side6 ?side7 A15.out).mono ?_); (case side1 => exact ⟨hx180_0, hx180_1, hx180_2, hx180_3, hx180_4, hx180_5⟩); (case side2 => exact cr_ HR180_1.out); (case side3 => exact HC180_1.out); (case side4 => exact cr_ HR180_2.out); (case side5 => exact HC180_2.out); (case side6 => exact cr_ HR180_5.out); (case side7 => exact HC180_5.out); rintro e w' ⟨rfl, ⟨nd, rfl⟩⟩; (try first | exact ⟨rfl, _, dN1⟩ | exact ⟨rfl, _, dN2⟩); have p182 : 0 ≤ (x7_1 : Int) := da_; have q182 : x7_1 < (l0.length : Int) := da_; obtain ⟨ad182, A182_1, c182_1, A182_2, c182_2, A182_5, c182_5, e182, hx182_0, hx182_1, hx182_2, hx182_3, hx182_4, hx182_5, hl182_1, hi182_1, hl182_2, hi182_2, hl182_5, hi182_5⟩ := at_T42 HR0.out x7_1 p182 q182; obtain rfl : ad174 = ad182 := (by injection e182); have HR182_1 := Aside0.mk hi182_1; have HC182_1 := Aside0.mk hl182_1; clear hi182_1 hl182_1; have HR182_2 := Aside0.mk hi182_2; have HC182_2 := Aside0.mk hl182_2; clear hi182_2 hl182_2; have HR182_5 := Aside0.mk hi182_5; have HC182_5 := Aside0.mk hl182_5; clear hi182_5 hl182_5; replace p182 := eq_true p182; replace q182 := eq_true q182) | (go_at_call 15; (with_reducible refine (spec_l12Size.calls k1 (ad174.add ((x7_1 : Int).toNat * 6)) ((rd_T42 l0 x7_1).f0) A182_1 c182_1 ((rd_T42 l0 x7_1).f1) A182_2 c182_2 ((rd_T42 l0 x7_1).f2) ((rd_T42 l0 x7_1).f3) ((rd_T42 l0 x7_1).f4) A182_5 c182_5 ((rd_T42 l0 x7_1).f5) t183 _ ?side1 ?side2 ?side3 ?side4 ?side5 ?side6 ?side7 A18.out).mono ?_); (case side1 => exact ⟨hx182_0, hx182_1, hx182_2, hx182_3, hx182_4, hx182_5⟩); (case side2 => exact cr_ HR182_1.out); (case side3 => exact HC182_1.out); (case side4 => exact cr_ HR182_2.out); (case side5 => exact HC182_2.out); (case side6 => exact cr_ HR182_5.out); (case side7 => exact HC182_5.out); rintro e w' ⟨rfl, ⟨nd, rfl⟩⟩; (try first | exact ⟨rfl, _, dN1⟩ | exact ⟨rfl, _, dN2⟩)))
              repeat (go_quiet (first | (go_at_call 14; (with_reducible refine (spec_l12Evidence.calls k1 (ad174.add ((x10_1 : Int).toNat * 6)) ((rd_T42 l0 x10_1).f0) A177_1 c177_1 ((rd_T42 l0 x10_1).f1) A177_2 c177_2 ((rd_T42 l0 x10_1).f2) ((rd_T42 l0 x10_1).f3) ((rd_T42 l0 x10_1).f4) A177_5 c177_5 ((rd_T42 l0 x10_1).f5) _ _ l1 t178 t179 _ ?side1 ?side2 ?side3 ?side4 ?side5 ?side6 ?side7 ?side8 ?side9 A12.out).mono ?_); (case side1 => exact ⟨hx177_0, hx177_1, hx177_2, hx177_3, hx177_4, hx177_5⟩); (case side2 => exact cr_ HR177_1.out); (case side3 => exact HC177_1.out); (case side4 => exact cr_ HR177_2.out); (case side5 => exact HC177_2.out); (case side6 => exact cr_ HR177_5.out); (case side7 => exact HC177_5.out); (case side8 => exact cr_ HR1.out); (case side9 => exact HC1.out); rintro e w' ⟨rfl, ⟨nd, rfl⟩⟩; (try first | exact ⟨rfl, _, dN1⟩ | exact ⟨rfl, _, dN2⟩); have p180 : 0 ≤ (x10_1 : Int) := da_; have q180 : x10_1 < (l0.length : Int) := da_; obtain ⟨ad180, A180_1, c180_1, A180_2, c180_2, A180_5, c180_5, e180, hx180_0, hx180_1, hx180_2, hx180_3, hx180_4, hx180_5, hl180_1, hi180_1, hl180_2, hi180_2, hl180_5, hi180_5⟩ := at_T42 HR0.out x10_1 p180 q180; obtain rfl : ad174 = ad180 := (by injection e180); have HR180_1 := Aside0.mk hi180_1; have HC180_1 := Aside0.mk hl180_1; clear hi180_1 hl180_1; have HR180_2 := Aside0.mk hi180_2; have HC180_2 := Aside0.mk hl180_2; clear hi180_2 hl180_2; have HR180_5 := Aside0.mk hi180_5; have HC180_5 := Aside0.mk hl180_5; clear hi180_5 hl180_5; replace p180 := eq_true p180; replace q180 := eq_true q180; have ea_ := Option.some.inj (hx177_1.symm.trans hx180_1); injection ea_ with ea_ en_ ec_; subst ea_; subst ec_; clear en_; have ea_ := Option.some.inj (hx177_2.symm.trans hx180_2); injection ea_ with ea_ en_ ec_; subst ea_; subst ec_; clear en_; have ea_ := Option.some.inj (hx177_5.symm.trans hx180_5); injection ea_ with ea_ en_ ec_; subst ea_; subst ec_; clear en_) | (go_at_call 15; (with_reducible refine (spec_l12Size.calls k1 (ad174.add ((x10_1 : Int).toNat * 6)) ((rd_T42 l0 x10_1).f0) A177_1 c177_1 ((rd_T42 l0 x10_1).f1) A177_2 c177_2 ((rd_T42 l0 x10_1).f2) ((rd_T42 l0 x10_1).f3) ((rd_T42 l0 x10_1).f4) A177_5 c177_5 ((rd_T42 l0 x10_1).f5) t181 _ ?side1 ?side2 ?side3 ?side4 ?side5 ?side6 ?side7 A15.out).mono ?_); (case side1 => exact ⟨hx180_0, hx180_1, hx180_2, hx180_3, hx180_4, hx180_5⟩); (case side2 => exact cr_ HR180_1.out); (case side3 => exact HC180_1.out); (case side4 => exact cr_ HR180_2.out); (case side5 => exact HC180_2.out); (case side6 => exact cr_ HR180_5.out); (case side7 => exact HC180_5.out); rintro e w' ⟨rfl, ⟨nd, rfl⟩⟩; (try first | exact ⟨rfl, _, dN1⟩ | exact ⟨rfl, _, dN2⟩); have p182 : 0 ≤ (x7_1 : Int) := da_; have q182 : x7_1 < (l0.length : Int) := da_; obtain ⟨ad182, A182_1, c182_1, A182_2, c182_2, A182_5, c182_5, e182, hx182_0, hx182_1, hx182_2, hx182_3, hx182_4, hx182_5, hl182_1, hi182_1, hl182_2, hi182_2, hl182_5, hi182_5⟩ := at_T42 HR0.out x7_1 p182 q182; obtain rfl : ad174 = ad182 := (by injection e182); have HR182_1 := Aside0.mk hi182_1; have HC182_1 := Aside0.mk hl182_1; clear hi182_1 hl182_1; have HR182_2 := Aside0.mk hi182_2; have HC182_2 := Aside0.mk hl182_2; clear hi182_2 hl182_2; have HR182_5 := Aside0.mk hi182_5; have HC182_5 := Aside0.mk hl182_5; clear hi182_5 hl182_5; replace p182 := eq_true p182; replace q182 := eq_true q182) | (go_at_call 15; (with_reducible refine (spec_l12Size.calls k1 (ad174.add ((x7_1 : Int).toNat * 6)) ((rd_T42 l0 x7_1).f0) A182_1 c182_1 ((rd_T42 l0 x7_1).f1) A182_2 c182_2 ((rd_T42 l0 x7_1).f2) ((rd_T42 l0 x7_1).f3) ((rd_T42 l0 x7_1).f4) A182_5 c182_5 ((rd_T42 l0 x7_1).f5) t183 _ ?side1 ?side2 ?side3 ?side4 ?side5 ?side6 ?side7 A18.out).mono ?_); (case side1 => exact ⟨hx182_0, hx182_1, hx182_2, hx182_3, hx182_4, hx182_5⟩); (case side2 => exact cr_ HR182_1.out); (case side3 => exact HC182_1.out); (case side4 => exact cr_ HR182_2.out); (case side5 => exact HC182_2.out); (case side6 => exact cr_ HR182_5.out); (case side7 => exact HC182_5.out); rintro e w' ⟨rfl, ⟨nd, rfl⟩⟩; (try first | exact ⟨rfl, _, dN1⟩ | exact ⟨rfl, _, dN2⟩))); try go_wp2_with (first | (go_at_call 14; (with_reducible refine (spec_l12Evidence.calls k1 (ad174.add ((x10_1 : Int).toNat * 6)) ((rd_T42 l0 x10_1).f0) A177_1 c177_1 ((rd_T42 l0 x10_1).f1) A177_2 c177_2 ((rd_T42 l0 x10_1).f2) ((rd_T42 l0 x10_1).f3) ((rd_T42 l0 x10_1).f4) A177_5 c177_5 ((rd_T42 l0 x10_1).f5) _ _ l1 t178 t179 _ ?side1 ?side2 ?side3 ?side4 ?side5 ?side6 ?side7 ?side8 ?side9 A12.out).mono ?_); (case side1 => exact ⟨hx177_0, hx177_1, hx177_2, hx177_3, hx177_4, hx177_5⟩); (case side2 => exact cr_ HR177_1.out); (case side3 => exact HC177_1.out); (case side4 => exact cr_ HR177_2.out); (case side5 => exact HC177_2.out); (case side6 => exact cr_ HR177_5.out); (case side7 => exact HC177_5.out); (case side8 => exact cr_ HR1.out); (case side9 => exact HC1.out); rintro e w' ⟨rfl, ⟨nd, rfl⟩⟩; (try first | exact ⟨rfl, _, dN1⟩ | exact ⟨rfl, _, dN2⟩); have p180 : 0 ≤ (x10_1 : Int) := da_; have q180 : x10_1 < (l0.length : Int) := da_; obtain ⟨ad180, A180_1, c180_1, A180_2, c180_2, A180_5, c180_5, e180, hx180_0, hx180_1, hx180_2, hx180_3, hx180_4, hx180_5, hl180_1, hi180_1, hl180_2, hi180_2, hl180_5, hi180_5⟩ := at_T42 HR0.out x10_1 p180 q180; obtain rfl : ad174 = ad180 := (by injection e180); have HR180_1 := Aside0.mk hi180_1; have HC180_1 := Aside0.mk hl180_1; clear hi180_1 hl180_1; have HR180_2 := Aside0.mk hi180_2; have HC180_2 := Aside0.mk hl180_2; clear hi180_2 hl180_2; have HR180_5 := Aside0.mk hi180_5; have HC180_5 := Aside0.mk hl180_5; clear hi180_5 hl180_5; replace p180 := eq_true p180; replace q180 := eq_true q180; have ea_ := Option.some.inj (hx177_1.symm.trans hx180_1); injection ea_ with ea_ en_ ec_; subst ea_; subst ec_; clear en_; have ea_ := Option.some.inj (hx177_2.symm.trans hx180_2); injection ea_ with ea_ en_ ec_; subst ea_; subst ec_; clear en_; have ea_ := Option.some.inj (hx177_5.symm.trans hx180_5); injection ea_ with ea_ en_ ec_; subst ea_; subst ec_; clear en_) | (go_at_call 15; (with_reducible refine (spec_l12Size.calls k1 (ad174.add ((x10_1 : Int).toNat * 6)) ((rd_T42 l0 x10_1).f0) A177_1 c177_1 ((rd_T42 l0 x10_1).f1) A177_2 c177_2 ((rd_T42 l0 x10_1).f2) ((rd_T42 l0 x10_1).f3) ((rd_T42 l0 x10_1).f4) A177_5 c177_5 ((rd_T42 l0 x10_1).f5) t181 _ ?side1 ?side2 ?side3 ?side4 ?side5 ?side6 ?side7 A15.out).mono ?_); (case side1 => exact ⟨hx180_0, hx180_1, hx180_2, hx180_3, hx180_4, hx180_5⟩); (case side2 => exact cr_ HR180_1.out); (case side3 => exact HC180_1.out); (case side4 => exact cr_ HR180_2.out); (case side5 => exact HC180_2.out); (case side6 => exact cr_ HR180_5.out); (case side7 => exact HC180_5.out); rintro e w' ⟨rfl, ⟨nd, rfl⟩⟩; (try first | exact ⟨rfl, _, dN1⟩ | exact ⟨rfl, _, dN2⟩); have p182 : 0 ≤ (x7_1 : Int) := da_; have q182 : x7_1 < (l0.length : Int) := da_; obtain ⟨ad182, A182_1, c182_1, A182_2, c182_2, A182_5, c182_5, e182, hx182_0, hx182_1, hx182_2, hx182_3, hx182_4, hx182_5, hl182_1, hi182_1, hl182_2, hi182_2, hl182_5, hi182_5⟩ := at_T42 HR0.out x7_1 p182 q182; obtain rfl : ad174 = ad182 := (by injection e182); have HR182_1 := Aside0.mk hi182_1; have HC182_1 := Aside0.mk hl182_1; clear hi182_1 hl182_1; have HR182_2 := Aside0.mk hi182_2; have HC182_2 := Aside0.mk hl182_2; clear hi182_2 hl182_2; have HR182_5 := Aside0.mk hi182_5; have HC182_5 := Aside0.mk hl182_5; clear hi182_5 hl182_5; replace p182 := eq_true p182; replace q182 := eq_true q182) | (go_at_call 15; (with_reducible refine (spec_l12Size.calls k1 (ad174.add ((x7_1 : Int).toNat * 6)) ((rd_T42 l0 x7_1).f0) A182_1 c182_1 ((rd_T42 l0 x7_1).f1) A182_2 c182_2 ((rd_T42 l0 x7_1).f2) ((rd_T42 l0 x7_1).f3) ((rd_T42 l0 x7_1).f4) A182_5 c182_5 ((rd_T42 l0 x7_1).f5) t183 _ ?side1 ?side2 ?side3 ?side4 ?side5 ?side6 ?side7 A18.out).mono ?_); (case side1 => exact ⟨hx182_0, hx182_1, hx182_2, hx182_3, hx182_4, hx182_5⟩); (case side2 => exact cr_ HR182_1.out); (case side3 => exact HC182_1.out); (case side4 => exact cr_ HR182_2.out); (case side5 => exact HC182_2.out); (case side6 => exact cr_ HR182_5.out); (case side7 => exact HC182_5.out); rintro e w' ⟨rfl, ⟨nd, rfl⟩⟩; (try first | exact ⟨rfl, _, dN1⟩ | exact ⟨rfl, _, dN2⟩))))
              go_roundg k1
              case measure => have := HK1.out; omega
              case rel => exact ⟨(x7_1), (x9_1), (wrap64 (x10_1 + 1)), sv_, sv_, sv_, H', ⟨by have := HK1.out; omega⟩, dr_⟩
            ·rw [if_neg c17] at H
             exact absurd H (by simp)
           ·rw [if_neg c16] at H
            exact absurd H (by simp)
          ·rw [if_neg c14] at H
           have c14b0 : (t179 == x9_1) = false := beq_eq_false_iff_ne.mpr c14
           have c14b1 : (t179 != x9_1) = true := bne_iff_ne.mpr c14
           have H' := Aside0.mk H
           clear H
           have p177 : 0 ≤ (x10_1 : Int) := da_
           have q177 : x10_1 < (l0.length : Int) := da_
           obtain ⟨ad177, A177_1, c177_1, A177_2, c177_2, A177_5, c177_5, e177, hx177_0, hx177_1, hx177_2, hx177_3, hx177_4, hx177_5, hl177_1, hi177_1, hl177_2, hi177_2, hl177_5, hi177_5⟩ := at_T42 HR0.out x10_1 p177 q177
           obtain rfl : ad174 = ad177 := (by injection e177)
           have HR177_1 := Aside0.mk hi177_1
           have HC177_1 := Aside0.mk hl177_1
           clear hi177_1 hl177_1
           have HR177_2 := Aside0.mk hi177_2
           have HC177_2 := Aside0.mk hl177_2
           clear hi177_2 hl177_2
           have HR177_5 := Aside0.mk hi177_5
           have HC177_5 := Aside0.mk hl177_5
           clear hi177_5 hl177_5
           replace p177 := eq_true p177
           replace q177 := eq_true q177
           go_wp2_with (first | (go_at_call 14; (with_reducible refine (spec_l12Evidence.calls k1 (ad174.add ((x10_1 : Int).toNat * 6)) ((rd_T42 l0 x10_1).f0) A177_1 c177_1 ((rd_T42 l0 x10_1).f1) A177_2 c177_2 ((rd_T42 l0 x10_1).f2) ((rd_T42 l0 x10_1).f3) ((rd_T42 l0 x10_1).f4) A177_5 c177_5 ((rd_T42 l0 x10_1).f5) _ _ l1 t178 t179 _ ?side1 ?side2 ?side3 ?side4 ?side5 ?side6 ?side7 ?side8 ?side9 A12.out).mono ?_); (case side1 => exact ⟨hx177_0, hx177_1, hx177_2, hx177_3, hx177_4, hx177_5⟩); (case side2 => exact cr_ HR177_1.out); (case side3 => exact HC177_1.out); (case side4 => exact cr_ HR177_2.out); (case side5 => exact HC177_2.out); (case side6 => exact cr_ HR177_5.out); (case side7 => exact HC177_5.out); (case side8 => exact cr_ HR1.out); (case side9 => exact HC1.out); rintro e w' ⟨rfl, ⟨nd, rfl⟩⟩; (try first | exact ⟨rfl, _, dN1⟩ | exact ⟨rfl, _, dN2⟩)))
           repeat (go_quiet (first | (go_at_call 14; (with_reducible refine (spec_l12Evidence.calls k1 (ad174.add ((x10_1 : Int).toNat * 6)) ((rd_T42 l0 x10_1).f0) A177_1 c177_1 ((rd_T42 l0 x10_1).f1) A177_2 c177_2 ((rd_T42 l0 x10_1).f2) ((rd_T42 l0 x10_1).f3) ((rd_T42 l0 x10_1).f4) A177_5 c177_5 ((rd_T42 l0 x10_1).f5) _ _ l1 t178 t179 _ ?side1 ?side2 ?side3 ?side4 ?side5 ?side6 ?side7 ?side8 ?side9 A12.out).mono ?_); (case side1 => exact ⟨hx177_0, hx177_1, hx177_2, hx177_3, hx177_4, hx177_5⟩); (case side2 => exact cr_ HR177_1.out); (case side3 => exact HC177_1.out); (case side4 => exact cr_ HR177_2.out); (case side5 => exact HC177_2.out); (case side6 => exact cr_ HR177_5.out); (case side7 => exact HC177_5.out); (case side8 => exact cr_ HR1.out); (case side9 => exact HC1.out); rintro e w' ⟨rfl, ⟨nd, rfl⟩⟩; (try first | exact ⟨rfl, _, dN1⟩ | exact ⟨rfl, _, dN2⟩))); try go_wp2_with (first | (go_at_call 14; (with_reducible refine (spec_l12Evidence.calls k1 (ad174.add ((x10_1 : Int).toNat * 6)) ((rd_T42 l0 x10_1).f0) A177_1 c177_1 ((rd_T42 l0 x10_1).f1) A177_2 c177_2 ((rd_T42 l0 x10_1).f2) ((rd_T42 l0 x10_1).f3) ((rd_T42 l0 x10_1).f4) A177_5 c177_5 ((rd_T42 l0 x10_1).f5) _ _ l1 t178 t179 _ ?side1 ?side2 ?side3 ?side4 ?side5 ?side6 ?side7 ?side8 ?side9 A12.out).mono ?_); (case side1 => exact ⟨hx177_0, hx177_1, hx177_2, hx177_3, hx177_4, hx177_5⟩); (case side2 => exact cr_ HR177_1.out); (case side3 => exact HC177_1.out); (case side4 => exact cr_ HR177_2.out); (case side5 => exact HC177_2.out); (case side6 => exact cr_ HR177_5.out); (case side7 => exact HC177_5.out); (case side8 => exact cr_ HR1.out); (case side9 => exact HC1.out); rintro e w' ⟨rfl, ⟨nd, rfl⟩⟩; (try first | exact ⟨rfl, _, dN1⟩ | exact ⟨rfl, _, dN2⟩))))
           go_roundg k1
           case measure => have := HK1.out; omega
           case rel => exact ⟨(x7_1), (x9_1), (wrap64 (x10_1 + 1)), sv_, sv_, sv_, H', ⟨by have := HK1.out; omega⟩, dr_⟩
        ·rw [if_neg c11] at H
         exact absurd H (by simp)
       ·rw [if_neg c10] at H
        have c10b0 : decide (x10_1 < (l0.length : Int)) = false := decide_eq_false c10
        clear c10
        simp only [Option.some.injEq, Prod.mk.injEq] at H
        obtain ⟨rfl, rfl, rfl⟩ := H
        go_wp2
        repeat (go_quiet (fail); try go_wp2)
        go_ret3
        exact ⟨sv_, dr_⟩
    ·rw [if_neg c8] at H
     exact absurd H (by simp)
  ·replace c6 := Bool.eq_false_iff.mpr c6
   subst c6
   have H1 : (some (0, 0, 7)) = some (r1, r2, r3) := by rw [if_neg (show ¬ (false = true) by decide)] at H; exact H
   clear H
   have H := H1
   clear H1
   simp only [Option.some.injEq, Prod.mk.injEq] at H
   obtain ⟨rfl, rfl, rfl⟩ := H
   go_enter Try.func5, Try.ntmps5
   go_wp2_with (first | (go_at_call 12; (with_reducible refine (spec_l12List.calls k _ _ l0 true _ ?side1 ?side2 A3.out).mono ?_); (case side1 => exact cr_ HR0.out); (case side2 => exact HC0.out); rintro e w' ⟨rfl, ⟨nd, rfl⟩⟩; (try first | exact ⟨rfl, _, dN1⟩ | exact ⟨rfl, _, dN2⟩)) | (go_at_call 13; (with_reducible refine (spec_l05Pitches.calls k _ _ l1 false _ ?side1 ?side2 A5.out).mono ?_); (case side1 => exact cr_ HR1.out); (case side2 => exact HC1.out); rintro e w' ⟨rfl, ⟨nd, rfl⟩⟩; (try first | exact ⟨rfl, _, dN1⟩ | exact ⟨rfl, _, dN2⟩)))
   repeat (go_quiet (first | (go_at_call 12; (with_reducible refine (spec_l12List.calls k _ _ l0 true _ ?side1 ?side2 A3.out).mono ?_); (case side1 => exact cr_ HR0.out); (case side2 => exact HC0.out); rintro e w' ⟨rfl, ⟨nd, rfl⟩⟩; (try first | exact ⟨rfl, _, dN1⟩ | exact ⟨rfl, _, dN2⟩)) | (go_at_call 13; (with_reducible refine (spec_l05Pitches.calls k _ _ l1 false _ ?side1 ?side2 A5.out).mono ?_); (case side1 => exact cr_ HR1.out); (case side2 => exact HC1.out); rintro e w' ⟨rfl, ⟨nd, rfl⟩⟩; (try first | exact ⟨rfl, _, dN1⟩ | exact ⟨rfl, _, dN2⟩))); try go_wp2_with (first | (go_at_call 12; (with_reducible refine (spec_l12List.calls k _ _ l0 true _ ?side1 ?side2 A3.out).mono ?_); (case side1 => exact cr_ HR0.out); (case side2 => exact HC0.out); rintro e w' ⟨rfl, ⟨nd, rfl⟩⟩; (try first | exact ⟨rfl, _, dN1⟩ | exact ⟨rfl, _, dN2⟩)) | (go_at_call 13; (with_reducible refine (spec_l05Pitches.calls k _ _ l1 false _ ?side1 ?side2 A5.out).mono ?_); (case side1 => exact cr_ HR1.out); (case side2 => exact HC1.out); rintro e w' ⟨rfl, ⟨nd, rfl⟩⟩; (try first | exact ⟨rfl, _, dN1⟩ | exact ⟨rfl, _, dN2⟩))))
   go_ret3
   exact ⟨sv_, dr_⟩
 ·replace c4 := Bool.eq_false_iff.mpr c4
  subst c4
  have H1 : (some (0, 0, 1)) = some (r1, r2, r3) := by rw [if_neg (show ¬ (false = true) by decide)] at H; exact H
  clear H
  have H := H1
  clear H1
  simp only [Option.some.injEq, Prod.mk.injEq] at H
  obtain ⟨rfl, rfl, rfl⟩ := H
  go_enter Try.func5, Try.ntmps5
  go_wp2_with (first | (go_at_call 12; (with_reducible refine (spec_l12List.calls k _ _ l0 false _ ?side1 ?side2 A3.out).mono ?_); (case side1 => exact cr_ HR0.out); (case side2 => exact HC0.out); rintro e w' ⟨rfl, ⟨nd, rfl⟩⟩; (try first | exact ⟨rfl, _, dN1⟩ | exact ⟨rfl, _, dN2⟩)))
  repeat (go_quiet (first | (go_at_call 12; (with_reducible refine (spec_l12List.calls k _ _ l0 false _ ?side1 ?side2 A3.out).mono ?_); (case side1 => exact cr_ HR0.out); (case side2 => exact HC0.out); rintro e w' ⟨rfl, ⟨nd, rfl⟩⟩; (try first | exact ⟨rfl, _, dN1⟩ | exact ⟨rfl, _, dN2⟩))); try go_wp2_with (first | (go_at_call 12; (with_reducible refine (spec_l12List.calls k _ _ l0 false _ ?side1 ?side2 A3.out).mono ?_); (case side1 => exact cr_ HR0.out); (case side2 => exact HC0.out); rintro e w' ⟨rfl, ⟨nd, rfl⟩⟩; (try first | exact ⟨rfl, _, dN1⟩ | exact ⟨rfl, _, dN2⟩))))
  go_ret3
  exact ⟨sv_, dr_⟩
end Go.Proofs.Ytmibjceanfhhlaa.P
end

section
/- How the arguments of this seat's laws read, as the kinds of the printed words: an argument that the row reads has the cells of its kind, and its numbers, texts and lengths are in bounds. No condition. -/
namespace Go.Proofs.Ytmibjceanfhhlaa.P
open Go.RowKit Go.ChangeShapes Go.WideShapes Go.Proofs.YtmibjceanfhhlaaW.PrintWords Go.Proofs.YtmibjceanfhhlaaW.PrintLast
set_option linter.unusedVariables false

section
variable {H : Type} {enc : TypeId × Value → H} {P : Program} {w : World} {held : Bool}

theorem list_choose {α : Type} (p : Nat → α → Prop) : ∀ n, (∀ i, i < n → ∃ y, p i y) → ∃ ys : List α, ys.length = n ∧ ∀ (i : Nat) (y : α), ys[i]? = some y → p i y := by
  intro n
  induction n with
  | zero => exact fun _ => ⟨[], rfl, fun i y h => by simp at h⟩
  | succ n ih =>
    intro h
    obtain ⟨ys, hl, hp⟩ := ih (fun i hi => h i (by omega))
    obtain ⟨z, hz⟩ := h n (by omega)
    refine ⟨ys ++ [z], by simp [hl], fun i y hy => ?_⟩
    rcases Nat.lt_or_ge i ys.length with hi | hi
    · rw [List.getElem?_append_left hi] at hy
      exact hp i y hy
    · rw [List.getElem?_append_right hi] at hy
      have h0 : i - ys.length = 0 := by
        rcases Nat.eq_zero_or_pos (i - ys.length) with h1 | h1
        · exact h1
        · rw [List.getElem?_eq_none (by simp; omega)] at hy
          cases hy
      rw [h0] at hy
      simp only [List.getElem?_cons_zero, Option.some.injEq] at hy
      subst hy
      have : i = n := by omega
      subst this
      exact hz

theorem len_cons {n : Nat} {cs : List Value} (h : cs.length = n + 1) : ∃ c t, cs = c :: t ∧ t.length = n := by
  cases cs with
  | nil => simp at h
  | cons c t => exact ⟨c, t, rfl, by simpa using h⟩

theorem opn_int {t : TypeId} {k : IntKind} (ht : P.underlying t = some (.int k)) {fuel : Nat} {cs : List Value} {x : DataW H × List MemPlace} (h : DataW.trod enc P w 0 (fun _ => true) held fuel t cs = some x) :
    ∃ y : Int, (Kd.int k).K w y cs ∧ (Lit.int k y).wf = true := by
  obtain ⟨n, hcs, _, hw⟩ := DataW.trod_int ht h
  exact ⟨n, hcs, hw⟩

theorem opn_string {t : TypeId} (ht : P.underlying t = some .string) {fuel : Nat} {cs : List Value} {x : DataW H × List MemPlace} (h : DataW.trod enc P w 0 (fun _ => true) held fuel t cs = some x) :
    ∃ y : ByteArray, Kd.string.K w y cs ∧ y.size ≤ maxLen := by
  obtain ⟨s, hcs, _, hs⟩ := DataW.trod_string ht h
  exact ⟨s, hcs, hs⟩

theorem opn_slice {α : Type} (d : Kd α) (ok : α → Prop) {t e : TypeId} (ht : P.underlying t = some (.slice e)) (ce : P.cellsOf e = d.sz)
    (hE : ∀ {fuel : Nat} {cs : List Value} {x : DataW H × List MemPlace}, DataW.trod enc P w 0 (fun _ => true) held fuel e cs = some x → ∃ y : α, d.K w y cs ∧ ok y)
    {fuel : Nat} {cs : List Value} {x : DataW H × List MemPlace} (h : DataW.trod enc P w 0 (fun _ => true) held fuel t cs = some x) :
    ∃ ys : List α, (Kd.slice e d).K w ys cs ∧ ys.length ≤ maxLen ∧ ∀ y ∈ ys, ok y := by
  rcases Go.Deep.open_slice ht h with ⟨rfl, _⟩ | ⟨a, len, cap, m, n, D, Pl, rfl, hb, hl, hm, hmm, rfl, hx⟩
  · exact ⟨[], ⟨none, 0, rfl, Nat.le_refl _, rfl, by simp, fun h => absurd h (Nat.lt_irrefl 0)⟩, Nat.zero_le _, by simp⟩
  · simp only [if_true] at hmm
    subst hmm
    obtain ⟨ys, hyl, hy⟩ := list_choose (fun i (y : α) => (∃ cs', w.cells? 0 (a.add (i * P.cellsOf e)) (P.cellsOf e) = some cs' ∧ d.K w y cs') ∧ ok y) len (fun i hi => by
      obtain ⟨cs', h1, h2⟩ := hx i (by omega)
      obtain ⟨y, hk, ho⟩ := hE h2
      exact ⟨y, ⟨cs', h1, hk⟩, ho⟩)
    subst hyl
    refine ⟨ys, ⟨some a, m, rfl, hl, rfl, Nat.le_trans hl (by unfold maxLen at hm; exact hm), fun _ => ⟨a, rfl, fun j p hp => ?_⟩⟩, Nat.le_trans hl hm, fun y hmem => ?_⟩
    · obtain ⟨⟨cs', h1, hk⟩, _⟩ := hy j p hp
      obtain ⟨_, hlen, hcell⟩ := World.cells?_some h1
      rw [ce] at hlen hcell
      refine ⟨cs', hlen, hk, fun i u hu => ?_⟩
      have hi : i < d.sz := by
        rw [← hlen]
        exact (List.getElem?_eq_some_iff.1 hu).1
      have := hcell i hi
      rw [Go.Deep.add_add] at this
      rw [this, hu]
    · obtain ⟨i, hi⟩ := List.getElem?_of_mem hmem
      exact (hy i y hi).2
end
theorem opn_L23 {H : Type} {enc : TypeId × Value → H} {w : World} {held : Bool} {fuel : Nat} {cs : List Value} {x : DataW H × List MemPlace} (h : DataW.trod enc Try.prog w 0 (fun _ => true) held fuel 23 cs = some x) :
    ∃ y : List Int, (Kd.slice 2 (Kd.int .i64)).K w y cs ∧ y.length ≤ maxLen ∧ ∀ y0 ∈ y, (Lit.int .i64 y0).wf = true :=
  opn_slice (Kd.int .i64) (fun y0 => (Lit.int .i64 y0).wf = true) Try.underlying23 (show Try.prog.cellsOf 2 = _ by kernel_rfl) (fun h => (opn_int Try.underlying2) h) h
theorem opn_L34 {H : Type} {enc : TypeId × Value → H} {w : World} {held : Bool} {fuel : Nat} {cs : List Value} {x : DataW H × List MemPlace} (h : DataW.trod enc Try.prog w 0 (fun _ => true) held fuel 34 cs = some x) :
    ∃ y : List (List Int), (Kd.slice 23 (Kd.slice 2 (Kd.int .i64))).K w y cs ∧ y.length ≤ maxLen ∧ ∀ y0 ∈ y, (y0.length ≤ maxLen ∧ ∀ y1 ∈ y0, (Lit.int .i64 y1).wf = true) :=
  opn_slice (Kd.slice 2 (Kd.int .i64)) (fun y0 => (y0.length ≤ maxLen ∧ ∀ y1 ∈ y0, (Lit.int .i64 y1).wf = true)) Try.underlying34 (show Try.prog.cellsOf 23 = _ by kernel_rfl) (fun h => opn_L23 h) h
theorem opn_S36 {H : Type} {enc : TypeId × Value → H} {w : World} {held : Bool} {fuel : Nat} {cs : List Value} {x : DataW H × List MemPlace} (h : DataW.trod enc Try.prog w 0 (fun _ => true) held fuel 36 cs = some x) :
    ∃ y : S36, k36.K w y cs ∧ y.f0.size ≤ maxLen ∧ (y.f1.length ≤ maxLen ∧ ∀ y0 ∈ y.f1, (Lit.int .i64 y0).wf = true) ∧ (y.f2.length ≤ maxLen ∧ ∀ y0 ∈ y.f2, (Lit.int .i64 y0).wf = true) ∧ (Lit.int .i64 y.f3).wf = true ∧ (Lit.int .i64 y.f4).wf = true ∧ (y.f5.length ≤ maxLen ∧ ∀ y0 ∈ y.f5, (y0.length ≤ maxLen ∧ ∀ y1 ∈ y0, (Lit.int .i64 y1).wf = true)) := by
  obtain ⟨xs, n, _, _, hl, hlen, hf⟩ := DataW.trod_struct Try.underlying36 h
  rw [show Try.prog.cellsOf 36 = 6 from by kernel_rfl] at hl
  obtain ⟨c0, t0, rfl, hl0⟩ := len_cons hl
  obtain ⟨c1, t1, rfl, hl1⟩ := len_cons hl0
  obtain ⟨c2, t2, rfl, hl2⟩ := len_cons hl1
  obtain ⟨c3, t3, rfl, hl3⟩ := len_cons hl2
  obtain ⟨c4, t4, rfl, hl4⟩ := len_cons hl3
  obtain ⟨c5, t5, rfl, hl5⟩ := len_cons hl4
  obtain rfl := List.eq_nil_of_length_eq_zero hl5
  have h0 := hf 0 _ rfl
  rw [List.getElem?_eq_getElem (show 0 < xs.length by rw [hlen]; decide)] at h0
  obtain ⟨y0, k0, w0⟩ := (opn_string Try.underlying9) (show DataW.trod enc Try.prog w 0 (fun _ => true) held n 9 [c0] = some _ from by simpa [show Try.prog.cellsOf 9 = 1 from by kernel_rfl] using h0)
  have h1 := hf 1 _ rfl
  rw [List.getElem?_eq_getElem (show 1 < xs.length by rw [hlen]; decide)] at h1
  obtain ⟨y1, k1, w1⟩ := opn_L23 (show DataW.trod enc Try.prog w 0 (fun _ => true) held n 23 [c1] = some _ from by simpa [show Try.prog.cellsOf 23 = 1 from by kernel_rfl] using h1)
  have h2 := hf 2 _ rfl
  rw [List.getElem?_eq_getElem (show 2 < xs.length by rw [hlen]; decide)] at h2
  obtain ⟨y2, k2, w2⟩ := opn_L23 (show DataW.trod enc Try.prog w 0 (fun _ => true) held n 23 [c2] = some _ from by simpa [show Try.prog.cellsOf 23 = 1 from by kernel_rfl] using h2)
  have h3 := hf 3 _ rfl
  rw [List.getElem?_eq_getElem (show 3 < xs.length by rw [hlen]; decide)] at h3
  obtain ⟨y3, k3, w3⟩ := (opn_int Try.underlying2) (show DataW.trod enc Try.prog w 0 (fun _ => true) held n 2 [c3] = some _ from by simpa [show Try.prog.cellsOf 2 = 1 from by kernel_rfl] using h3)
  have h4 := hf 4 _ rfl
  rw [List.getElem?_eq_getElem (show 4 < xs.length by rw [hlen]; decide)] at h4
  obtain ⟨y4, k4, w4⟩ := (opn_int Try.underlying2) (show DataW.trod enc Try.prog w 0 (fun _ => true) held n 2 [c4] = some _ from by simpa [show Try.prog.cellsOf 2 = 1 from by kernel_rfl] using h4)
  have h5 := hf 5 _ rfl
  rw [List.getElem?_eq_getElem (show 5 < xs.length by rw [hlen]; decide)] at h5
  obtain ⟨y5, k5, w5⟩ := opn_L34 (show DataW.trod enc Try.prog w 0 (fun _ => true) held n 34 [c5] = some _ from by simpa [show Try.prog.cellsOf 34 = 1 from by kernel_rfl] using h5)
  exact ⟨⟨y0, y1, y2, y3, y4, y5⟩, ⟨[c0], [c1, c2, c3, c4, c5], rfl, k0, ⟨[c1], [c2, c3, c4, c5], rfl, k1, ⟨[c2], [c3, c4, c5], rfl, k2, ⟨[c3], [c4, c5], rfl, k3, ⟨[c4], [c5], rfl, k4, k5⟩⟩⟩⟩⟩, w0, w1, w2, w3, w4, w5⟩
theorem opn_L22 {H : Type} {enc : TypeId × Value → H} {w : World} {held : Bool} {fuel : Nat} {cs : List Value} {x : DataW H × List MemPlace} (h : DataW.trod enc Try.prog w 0 (fun _ => true) held fuel 22 cs = some x) :
    ∃ y : List (S36), (Kd.slice 36 k36).K w y cs ∧ y.length ≤ maxLen ∧ ∀ y0 ∈ y, (y0.f0.size ≤ maxLen ∧ (y0.f1.length ≤ maxLen ∧ ∀ y1 ∈ y0.f1, (Lit.int .i64 y1).wf = true) ∧ (y0.f2.length ≤ maxLen ∧ ∀ y1 ∈ y0.f2, (Lit.int .i64 y1).wf = true) ∧ (Lit.int .i64 y0.f3).wf = true ∧ (Lit.int .i64 y0.f4).wf = true ∧ (y0.f5.length ≤ maxLen ∧ ∀ y1 ∈ y0.f5, (y1.length ≤ maxLen ∧ ∀ y2 ∈ y1, (Lit.int .i64 y2).wf = true))) :=
  opn_slice k36 (fun y0 => (y0.f0.size ≤ maxLen ∧ (y0.f1.length ≤ maxLen ∧ ∀ y1 ∈ y0.f1, (Lit.int .i64 y1).wf = true) ∧ (y0.f2.length ≤ maxLen ∧ ∀ y1 ∈ y0.f2, (Lit.int .i64 y1).wf = true) ∧ (Lit.int .i64 y0.f3).wf = true ∧ (Lit.int .i64 y0.f4).wf = true ∧ (y0.f5.length ≤ maxLen ∧ ∀ y1 ∈ y0.f5, (y1.length ≤ maxLen ∧ ∀ y2 ∈ y1, (Lit.int .i64 y2).wf = true)))) Try.underlying22 (show Try.prog.cellsOf 36 = _ by kernel_rfl) (fun h => opn_S36 h) h
end Go.Proofs.Ytmibjceanfhhlaa.P
end

section
namespace Go.Proofs.Ytmibjceanfhhlaa.P
open Go.RowKit Go.Proofs.Ytmibjceanfhhlaa.P Go.Proofs.YtmibjceanfhhlaaW.PrintWords Go.Proofs.YtmibjceanfhhlaaW.PrintLast Go.Proofs.YtmibjceanfhhlaaW.PrintMore
set_option linter.unusedVariables false
set_option linter.unusedSimpArgs false
theorem Ev.succ {α : Type} {g : Nat → Option α} {r : α} (h : Ev (fun k => g (k + 1)) r) : Ev g r := Ev.step (f := fun k => g (k + 1)) (fun _ => rfl) h
theorem Ev.ite_pos {α : Type} {c : Prop} [Decidable c] {f g : Nat → Option α} {r : α} (hc : c) (h : Ev f r) : Ev (fun k => if c then f k else g k) r := Ev.congr (fun _ => if_pos hc) h
theorem Ev.ite_neg {α : Type} {c : Prop} [Decidable c] {f g : Nat → Option α} {r : α} (hc : ¬ c) (h : Ev g r) : Ev (fun k => if c then f k else g k) r := Ev.congr (fun _ => if_neg hc) h
theorem Ev.bindc {α β : Type} {o : Option α} {f : Nat → α → Option β} {a : α} {r : β} (ho : o = some a) (h : Ev (fun k => f k a) r) : Ev (fun k => o.bind (f k)) r := Ev.congr (fun _ => by rw [ho]; rfl) h
theorem Ev.cast {α : Type} {g : Nat → Option α} {r q : α} (h : Ev g r) (e : r = q) : Ev g q := e ▸ h
theorem Ev.out {α : Type} {g : Nat → Option α} {r : α} (h : Ev g r) : ∃ k, g k = some r := h.rounds

/-- A sum, a difference that needs no wrap. -/
theorem w64 {x : Int} (h0 : -9223372036854775808 ≤ x) (h1 : x ≤ 9223372036854775807) : wrap64 x = x := by unfold wrap64; omega
theorem mx_eq (a b : Int) : mx a b = max a b := by unfold mx; split <;> omega
theorem set_at {l : List Int} {i : Nat} {v : Int} {m : List Int} (h : i < l.length) (e : l.take i = m) : (l.set i v).take (i + 1) = m ++ [v] := by
  rw [List.take_succ_eq_append_getElem (by simpa using h)]
  simp [List.take_set_of_le, e]
theorem rd_at {l : List Int} {i : Nat} (h : i < l.length) : rd l (i : Int) = l[i] := by simp [rd, h]

theorem toInt64S_l0 (l : List Int) (hl : l.length ≤ 9223372036854775807) : ∀ (d i : Nat) (m : List Int), l.length - i = d → i ≤ l.length → m.length = l.length → m.take i = l.take i → Ev (fun k => laws_toInt64S.l0 k l m i) l := by
  intro d
  induction d with
  | zero =>
    intro i m hd hi hm ht
    have : i = l.length := by omega
    subst this
    refine Ev.succ ?_
    simp only [laws_toInt64S.l0]
    refine Ev.ite_neg (by omega) ?_
    rw [List.take_of_length_le (by omega), List.take_of_length_le (Nat.le_refl _)] at ht
    rw [ht]
    exact Ev.now _
  | succ d ih =>
    intro i m hd hi hm ht
    refine Ev.succ ?_
    simp only [laws_toInt64S.l0]
    refine Ev.ite_pos (by omega) ?_
    refine Ev.ite_pos (by omega) ?_
    refine Ev.ite_pos (by omega) ?_
    rw [w64 (x := (i : Int) + 1) (by omega) (by omega), rd_at (show i < l.length by omega), Int.toNat_natCast]
    have := ih (i + 1) (m.set i l[i]) (by omega) (by omega) (by simpa using hm) (by
      rw [set_at (by omega) ht, ← List.take_succ_eq_append_getElem (by omega)])
    simpa using this
theorem toInt64S_ev (l : List Int) (h : l.length ≤ 35184372088832) : Ev (fun k => laws_toInt64S.f k l) l := by
  unfold laws_toInt64S.f
  refine Ev.ite_pos (by omega) ?_
  refine Ev.ite_pos (by omega) ?_
  exact toInt64S_l0 l (by omega) l.length 0 _ (by omega) (by omega) (by simp) (by simp)

theorem eqInt64S_l0 (a b : List Int) (hl : a.length ≤ 9223372036854775807) (hab : a.length = b.length) : ∀ (d i : Nat), a.length - i = d → i ≤ a.length → a.take i = b.take i → Ev (fun k => laws_eqInt64S.l0 k a b i) (decide (a = b)) := by
  intro d
  induction d with
  | zero =>
    intro i hd hi ht
    refine Ev.succ ?_
    simp only [laws_eqInt64S.l0]
    refine Ev.ite_neg (by omega) ?_
    rw [List.take_of_length_le (by omega), List.take_of_length_le (by omega)] at ht
    simpa [ht] using Ev.now true
  | succ d ih =>
    intro i hd hi ht
    refine Ev.succ ?_
    simp only [laws_eqInt64S.l0]
    refine Ev.ite_pos (by omega) ?_
    refine Ev.ite_pos (by omega) ?_
    refine Ev.ite_pos (by omega) ?_
    by_cases he : rd a i = rd b i
    · refine Ev.ite_pos he ?_
      rw [w64 (x := (i : Int) + 1) (by omega) (by omega)]
      rw [rd_at (show i < a.length by omega), rd_at (show i < b.length by omega)] at he
      have := ih (i + 1) (by omega) (by omega) (by
        rw [List.take_succ_eq_append_getElem (by omega), List.take_succ_eq_append_getElem (by omega), ht, he])
      simpa using this
    · refine Ev.ite_neg he ?_
      have : ¬ a = b := fun e => he (by rw [e])
      simpa [this] using Ev.now false
theorem eqInt64S_ev (a b : List Int) (hl : a.length ≤ 9223372036854775807) : Ev (fun k => laws_eqInt64S.f k a b) (decide (a = b)) := by
  unfold laws_eqInt64S.f
  by_cases h : a.length = b.length
  · refine Ev.ite_pos (by omega) ?_
    exact eqInt64S_l0 a b hl h a.length 0 (by omega) (by omega) (by simp)
  · refine Ev.ite_neg (by omega) ?_
    have : ¬ a = b := fun e => h (by rw [e])
    simpa [this] using Ev.now false
theorem eqInt64S_self (a : List Int) (hl : a.length ≤ 9223372036854775807) : Ev (fun k => laws_eqInt64S.f k a a) true := by simpa using eqInt64S_ev a a hl

theorem impl_abs_eq (a : Int) (h0 : -9223372036854775807 ≤ a) (h1 : a ≤ 9223372036854775807) : impl_abs.f a = some (max a (-a)) := by
  unfold impl_abs.f
  rw [w64 (x := -a) (by omega) (by omega), mx_eq]
def idxM (s : List Int) (t : Int) : Nat → Nat → Int
  | 0, _ => -1
  | d + 1, i => if rd s i = t then (i : Int) else idxM s t d (i + 1)
theorem slices_Index_l0 (s : List Int) (t : Int) (hl : s.length ≤ 1048576) : ∀ (d i : Nat), s.length - i = d → Ev (fun k => slices_Index_int64_int64.l0 k s t (s.length : Int) i) (idxM s t d i) := by
  intro d
  induction d with
  | zero =>
    intro i hd
    refine Ev.succ ?_
    simp only [slices_Index_int64_int64.l0]
    exact Ev.ite_neg (by omega) (Ev.now _)
  | succ d ih =>
    intro i hd
    refine Ev.succ ?_
    simp only [slices_Index_int64_int64.l0]
    rw [w64 (x := (i : Int) + 1) (by omega) (by omega)]
    refine Ev.ite_pos (by omega) (Ev.ite_pos (by omega) (Ev.ite_pos (by omega) ?_))
    simp only [idxM]
    by_cases h : rd s i = t
    · rw [if_pos h]
      exact Ev.ite_pos h.symm (Ev.now _)
    · rw [if_neg h]
      exact Ev.ite_neg (fun e => h e.symm) (by simpa using ih (i + 1) (by omega))
def hasM (l : List Int) (v : Int) : Bool := l.any fun n => decide (n = v)
theorem idxM_has (s : List Int) (t : Int) : ∀ d i, s.length - i = d → decide (idxM s t d i ≥ 0) = hasM (s.drop i) t := by
  intro d
  induction d with
  | zero =>
    intro i hd
    rw [List.drop_of_length_le (by omega)]
    simp [idxM, hasM]
  | succ d ih =>
    intro i hd
    have hi : i < s.length := by omega
    by_cases h : rd s i = t
    · have e : idxM s t (d + 1) i = (i : Int) := by
        simp only [idxM]
        rw [if_pos h]
      rw [e, List.drop_eq_getElem_cons hi, ← rd_at hi, decide_eq_true (show (i : Int) ≥ 0 by omega)]
      simp [hasM, h]
    · have e : idxM s t (d + 1) i = idxM s t d (i + 1) := by
        simp only [idxM]
        rw [if_neg h]
      rw [e, ih (i + 1) (by omega), List.drop_eq_getElem_cons hi, ← rd_at hi]
      simp [hasM, h]
theorem slices_Contains_ev (s : List Int) (t : Int) (hl : s.length ≤ 1048576) : Ev (fun k => slices_Contains_int64_int64.f k s t) (hasM s t) := by
  unfold slices_Contains_int64_int64.f
  refine Ev.bind (a := idxM s t s.length 0) ?_ ?_
  · unfold slices_Index_int64_int64.f
    simpa using slices_Index_l0 s t hl s.length 0 (by omega)
  · refine Ev.cast (Ev.now _) ?_
    simpa using idxM_has s t s.length 0 (by omega)
def smallB (b : Int) : Bool := decide (97 ≤ b) && decide (b ≤ 122)
def digitB (b : Int) : Bool := decide (48 ≤ b) && decide (b ≤ 57)
def nameB (s : ByteArray) : Bool := decide (1 ≤ s.size) && decide (s.size ≤ 10) && smallB (bt s 0) && (List.range' 0 s.size).all fun j => smallB (bt s j) || digitB (bt s j)
theorem toList_nil (s : ByteArray) : s.toList = [] ↔ s.size = 0 := by
  rw [ByteArray.toList_eq, List.eq_nil_iff_length_eq_zero]
  exact Iff.rfl
theorem spec_l01Small_eq (b : Int) : spec_l01Small.f b = some (smallB b) := by
  unfold spec_l01Small.f smallB
  by_cases h : b ≥ 97
  · have : 97 ≤ b := h
    simp [this]
  · have : ¬ 97 ≤ b := h
    simp [this]
theorem spec_l01Digit_eq (b : Int) : spec_l01Digit.f b = some (digitB b) := by
  unfold spec_l01Digit.f digitB
  by_cases h : b ≥ 48
  · have : 48 ≤ b := h
    simp [this]
  · have : ¬ 48 ≤ b := h
    simp [this]
def bytesB (s : ByteArray) (i d : Nat) : Bool := (List.range' i d).all fun j => smallB (bt s j) || digitB (bt s j)
theorem bytesB_succ (s : ByteArray) (i d : Nat) : bytesB s i (d + 1) = ((smallB (bt s i) || digitB (bt s i)) && bytesB s (i + 1) d) := by
  simp [bytesB, List.range'_succ]
theorem spec_l01Name_l0 (s : ByteArray) (hs : s.size ≤ 10) : ∀ (d i : Nat), s.size - i = d → Ev (fun k => spec_l01Name.l0 k s i) (bytesB s i d) := by
  intro d
  induction d with
  | zero =>
    intro i hd
    refine Ev.succ ?_
    simp only [spec_l01Name.l0]
    refine Ev.ite_neg (by omega) ?_
    exact Ev.now _
  | succ d ih =>
    intro i hd
    refine Ev.succ ?_
    simp only [spec_l01Name.l0]
    refine Ev.ite_pos (by omega) ?_
    refine Ev.ite_pos (by omega) ?_
    refine Ev.bindc (spec_l01Small_eq _) ?_
    have ih' : Ev (fun k => spec_l01Name.l0 k s ((i : Int) + 1)) (bytesB s (i + 1) d) := by simpa using ih (i + 1) (by omega)
    rw [w64 (x := (i : Int) + 1) (by omega) (by omega), bytesB_succ]
    cases h : smallB (bt s i) with
    | true =>
      refine Ev.ite_pos rfl ?_
      simpa using ih'
    | false =>
      refine Ev.ite_neg (by decide) ?_
      refine Ev.bindc (spec_l01Digit_eq _) ?_
      cases h' : digitB (bt s i) with
      | true =>
        refine Ev.ite_pos rfl ?_
        simpa using ih'
      | false =>
        refine Ev.ite_neg (by decide) ?_
        simpa using Ev.now false
theorem spec_l01Name_ev (s : ByteArray) : Ev (fun k => spec_l01Name.f k s) (nameB s) := by
  unfold spec_l01Name.f nameB
  have hno : Ev (fun k => spec_l01Name.j0 k s true) false := by
    refine Ev.succ ?_
    simp only [spec_l01Name.j0]
    exact Ev.ite_pos (by simp) (Ev.now _)
  by_cases h0 : s.size = 0
  · refine Ev.ite_pos ((toList_nil s).2 h0) ?_
    exact Ev.cast hno (by simp [h0])
  refine Ev.ite_neg (fun h => h0 ((toList_nil s).1 h)) ?_
  by_cases h1 : s.size ≤ 10
  · refine Ev.ite_neg (by omega) ?_
    refine Ev.ite_pos (by omega) ?_
    refine Ev.bindc (spec_l01Small_eq _) ?_
    cases h : smallB (bt s 0) with
    | true =>
      refine Ev.succ ?_
      simp only [spec_l01Name.j0]
      refine Ev.ite_neg (by simp) ?_
      have := spec_l01Name_l0 s h1 s.size 0 (by omega)
      refine Ev.cast (by simpa using this) ?_
      have h2 : 1 ≤ s.size := by omega
      simp [bytesB, h1, h2]
    | false => exact Ev.cast hno (by simp)
  · refine Ev.ite_pos (by omega) ?_
    exact Ev.cast hno (by simp; omega)
theorem impl_onlyNameBytes_l0 (s : ByteArray) (hs : s.size ≤ 10) : ∀ (d i : Nat), s.size - i = d → Ev (fun k => impl_onlyNameBytes.l0 k s (s.size : Int) i) (bytesB s i d) := by
  intro d
  induction d with
  | zero =>
    intro i hd
    refine Ev.succ ?_
    simp only [impl_onlyNameBytes.l0]
    refine Ev.ite_neg (by omega) ?_
    exact Ev.now _
  | succ d ih =>
    intro i hd
    refine Ev.succ ?_
    simp only [impl_onlyNameBytes.l0]
    refine Ev.ite_pos (by omega) ?_
    refine Ev.ite_pos (by omega) ?_
    refine Ev.ite_pos (by omega) ?_
    have ih' : Ev (fun k => impl_onlyNameBytes.l0 k s (s.size : Int) ((i : Int) + 1)) (bytesB s (i + 1) d) := by simpa using ih (i + 1) (by omega)
    rw [w64 (x := (i : Int) + 1) (by omega) (by omega), bytesB_succ]
    have key : Ev (fun k => if bt s i < 48 then some false else if bt s i > 57 then some false else impl_onlyNameBytes.l0 k s (s.size : Int) ((i : Int) + 1)) (digitB (bt s i) && bytesB s (i + 1) d) := by
      by_cases a : bt s i < 48
      · refine Ev.ite_pos a ?_
        refine Ev.cast (Ev.now false) ?_
        have : ¬ 48 ≤ bt s i := by omega
        simp [digitB, this]
      refine Ev.ite_neg a ?_
      by_cases b : bt s i > 57
      · refine Ev.ite_pos b ?_
        refine Ev.cast (Ev.now false) ?_
        have : ¬ bt s i ≤ 57 := by omega
        simp [digitB, this]
      refine Ev.ite_neg b ?_
      refine Ev.cast ih' ?_
      have h1 : 48 ≤ bt s i := by omega
      have h2 : bt s i ≤ 57 := by omega
      simp [digitB, h1, h2]
    by_cases a : bt s i < 97
    · refine Ev.ite_pos a ?_
      refine Ev.cast key ?_
      have : ¬ 97 ≤ bt s i := by omega
      simp [smallB, this]
    refine Ev.ite_neg a ?_
    by_cases b : bt s i > 122
    · refine Ev.ite_pos b ?_
      refine Ev.cast key ?_
      have : ¬ bt s i ≤ 122 := by omega
      simp [smallB, this]
    refine Ev.ite_neg b ?_
    refine Ev.cast ih' ?_
    have h1 : 97 ≤ bt s i := by omega
    have h2 : bt s i ≤ 122 := by omega
    simp [smallB, h1, h2]
theorem impl_IsName_ev (s : ByteArray) : Ev (fun k => impl_IsName.f k s) (nameB s) := by
  unfold impl_IsName.f nameB
  by_cases h0 : s.size = 0
  · refine Ev.ite_pos (by omega) ?_
    exact Ev.cast (Ev.now false) (by simp [h0])
  refine Ev.ite_neg (by omega) ?_
  by_cases h1 : s.size ≤ 10
  · refine Ev.ite_neg (by omega) ?_
    refine Ev.ite_pos (by omega) ?_
    by_cases a : bt s 0 < 97
    · refine Ev.ite_pos a ?_
      refine Ev.cast (Ev.now false) ?_
      have : ¬ 97 ≤ bt s 0 := by omega
      simp [smallB, this]
    refine Ev.ite_neg a ?_
    by_cases b : bt s 0 > 122
    · refine Ev.ite_pos b ?_
      refine Ev.cast (Ev.now false) ?_
      have : ¬ bt s 0 ≤ 122 := by omega
      simp [smallB, this]
    refine Ev.ite_neg b ?_
    refine Ev.bind (a := bytesB s 0 s.size) ?_ ?_
    · unfold impl_onlyNameBytes.f
      simpa using impl_onlyNameBytes_l0 s h1 s.size 0 (by omega)
    · refine Ev.cast (Ev.now _) ?_
      have h2 : 1 ≤ s.size := by omega
      have h3 : 97 ≤ bt s 0 := by omega
      have h4 : bt s 0 ≤ 122 := by omega
      simp [bytesB, h1, h2, smallB, h3, h4]
  · refine Ev.ite_pos (by omega) ?_
    exact Ev.cast (Ev.now false) (by simp; omega)
def incB (l : List Int) (i d : Nat) : Bool := (List.range' i d).all fun j => decide (rd l ((j : Int) - 1) < rd l j)
theorem impl_increasing_l0 (l : List Int) (hl : l.length ≤ 9223372036854775807) : ∀ (d i : Nat), l.length - i = d → 1 ≤ i → Ev (fun k => impl_increasing.l0 k l i) (incB l i d) := by
  intro d
  induction d with
  | zero =>
    intro i hd hi
    refine Ev.succ ?_
    simp only [impl_increasing.l0]
    refine Ev.ite_neg (by omega) ?_
    exact Ev.now _
  | succ d ih =>
    intro i hd hi
    refine Ev.succ ?_
    simp only [impl_increasing.l0]
    refine Ev.ite_pos (by omega) ?_
    refine Ev.ite_pos (by omega) ?_
    rw [w64 (x := (i : Int) - 1) (by omega) (by omega), w64 (x := (i : Int) + 1) (by omega) (by omega)]
    refine Ev.ite_pos (by omega) ?_
    refine Ev.ite_pos (by omega) ?_
    have hr : incB l i (d + 1) = (decide (rd l ((i : Int) - 1) < rd l i) && incB l (i + 1) d) := by
      simp [incB, List.range'_succ]
    rw [hr]
    by_cases hx : rd l i ≤ rd l ((i : Int) - 1)
    · refine Ev.ite_pos hx ?_
      refine Ev.cast (Ev.now false) ?_
      have : ¬ rd l ((i : Int) - 1) < rd l i := by omega
      simp [this]
    · refine Ev.ite_neg hx ?_
      have := ih (i + 1) (by omega) (by omega)
      refine Ev.cast (by simpa using this) ?_
      have : rd l ((i : Int) - 1) < rd l i := by omega
      simp [this]
theorem spec_l00In_eq (n a b : Int) : spec_l00In.f n a b = some (decide (a ≤ n) && decide (n ≤ b)) := by
  unfold spec_l00In.f
  by_cases h : n ≥ a
  · have : a ≤ n := h
    simp [this]
  · have : ¬ a ≤ n := h
    simp [this]
def rgB (l : List Int) (a b : Int) (i d : Nat) : Bool := (List.range' i d).all fun j => decide (a ≤ rd l j) && decide (rd l j ≤ b) && (decide (j = 0) || decide (rd l ((j : Int) - 1) < rd l j))
theorem spec_l00Rises_l0 (l : List Int) (a b : Int) (hl : l.length ≤ 9223372036854775807) : ∀ (d i : Nat), l.length - i = d → i ≤ l.length → Ev (fun k => spec_l00Rises.l0 k l a b i) (rgB l a b i d) := by
  intro d
  induction d with
  | zero =>
    intro i hd hi
    refine Ev.succ ?_
    simp only [spec_l00Rises.l0]
    refine Ev.ite_neg (by omega) ?_
    exact Ev.now _
  | succ d ih =>
    intro i hd hi
    refine Ev.succ ?_
    simp only [spec_l00Rises.l0]
    refine Ev.ite_pos (by omega) ?_
    refine Ev.ite_pos (by omega) ?_
    refine Ev.bindc (spec_l00In_eq _ _ _) ?_
    have hr : rgB l a b i (d + 1) = ((decide (a ≤ rd l i) && decide (rd l i ≤ b) && (decide (i = 0) || decide (rd l ((i : Int) - 1) < rd l i))) && rgB l a b (i + 1) d) := by
      simp [rgB, List.range'_succ]
    rw [hr]
    have ih' := ih (i + 1) (by omega) (by omega)
    rw [w64 (x := (i : Int) + 1) (by omega) (by omega)]
    have ih2 : Ev (fun k => spec_l00Rises.l0 k l a b ((i : Int) + 1)) (rgB l a b (i + 1) d) := by simpa using ih'
    cases hq : (decide (a ≤ rd l i) && decide (rd l i ≤ b)) with
    | true =>
      refine Ev.ite_pos rfl ?_
      by_cases h0 : i = 0
      · refine Ev.ite_neg (by omega) ?_
        refine Ev.cast ih2 ?_
        simp [h0]
      · refine Ev.ite_pos (by omega) ?_
        rw [w64 (x := (i : Int) - 1) (by omega) (by omega)]
        refine Ev.ite_pos (by omega) ?_
        refine Ev.ite_pos (by omega) ?_
        by_cases hx : rd l ((i : Int) - 1) ≥ rd l i
        · refine Ev.ite_pos hx ?_
          refine Ev.cast (Ev.now false) ?_
          have : ¬ rd l ((i : Int) - 1) < rd l i := by omega
          simp [h0, this]
        · refine Ev.ite_neg hx ?_
          refine Ev.cast ih2 ?_
          have : rd l ((i : Int) - 1) < rd l i := by omega
          simp [this]
    | false =>
      refine Ev.ite_neg (by decide) ?_
      refine Ev.cast (Ev.now false) ?_
      simp
def scaleB (l : List Int) : Bool := decide (5 ≤ l.length) && (rgB l 0 11 0 l.length && (rd l 0 == 0))
end Go.Proofs.Ytmibjceanfhhlaa.P
end
