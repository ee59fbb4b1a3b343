/- Texts of this seat, merged: QSpecToneat, QSpecL14From, QSpecL14Mirror, QSpecL14Pattern, QSpecUpanddown, Open, LEv, LCopy, LCloneP, LMapIn, LIFrom, LIPat, LInc, LIn, LRises, LScale, LIScale, LTone, LWithin, LITone, LDropAt, LSPat, LSScale, LSTone, QImplToneof, QImplOctaveof, QImplPitchok, QSlicesIndexInt64Int64, QImplDegreeof, QImplPitchesok. -/
import Derived.Deep.Slices
import Derived.WideShapes
import Derived.ChangeShapes
import Derived.ChangeMaps5
import Derived.ChangeSame
import Derived.Test.YtddhommmokdlnaaGb1
section
namespace Go.Proofs.Ytddhommmokdlnaa.P
open Go.RowKit Go.Proofs.YtddhommmokdlnaaW.PrintWords Go.Proofs.YtddhommmokdlnaaW.PrintLast Go.Proofs.YtddhommmokdlnaaW.PrintMore
attribute [local go_sem] max2_int min2_int max_two min_two max_three min_three max_four min_four   -- for this text's walks alone
set_option linter.unusedVariables false
set_option linter.unusedSimpArgs false

/-! ### spec_ToneAt: function 86 -/
def spec_ToneAt.f (k : Nat) (l0 : List Int) (a1 : Int) : Option (Int × Int) := (spec_l03Scale.f k l0).bind fun t307 => (if t307 = true then ((spec_l00In.f a1 (wrap64 (-(l0.length : Int))) (wrap64 ((wrap64 (2 * (l0.length : Int))) - 1))).bind fun t308 => (if t308 = true then (if (l0.length : Int) = 0 then (none) else (if 0 ≤ (Int.tmod (wrap64 ((Int.tmod a1 (l0.length : Int)) + (l0.length : Int))) (l0.length : Int)) then (if (Int.tmod (wrap64 ((Int.tmod a1 (l0.length : Int)) + (l0.length : Int))) (l0.length : Int)) < (l0.length : Int) then (some (wrap64 ((wrap64 (12 * (wrap64 (Int.tdiv (wrap64 (a1 - (Int.tmod (wrap64 ((Int.tmod a1 (l0.length : Int)) + (l0.length : Int))) (l0.length : Int)))) (l0.length : Int))))) + (rd l0 (Int.tmod (wrap64 ((Int.tmod a1 (l0.length : Int)) + (l0.length : Int))) (l0.length : Int)))), 0)) else (none)) else (none))) else (some (0, 2)))) else (some (0, 1)))
theorem spec_ToneAt.mono : ∀ a0 a1 k, LeO (spec_ToneAt.f k a0 a1) (spec_ToneAt.f (k + 1) a0 a1) := by
  intro a0 a1 k
  unfold spec_ToneAt.f
  repeat' first
      | (with_reducible exact spec_l03Scale.mono _ _)
      | (with_reducible exact LeO.refl _)
      | (with_reducible exact LeO.none _)
      | (with_reducible refine LeO.ite ?_ ?_)
      | (with_reducible refine LeO.bind ?_ (fun _ => ?_))
      | exact spec_l03Scale.mono _ _
      | exact LeO.none _
      | refine LeO.ite ?_ ?_
      | refine LeO.bind ?_ (fun _ => ?_)
set_option maxHeartbeats 8000000 in
set_option maxRecDepth 100000 in
theorem spec_ToneAt.calls (k : Nat) (A0 : Option Addr) (c0 : Nat) (l0 : List Int) (a1 : Int) (r1 : Int) (r2 : Int) (w : World) (hr0 : Kd.C (Kd.int .i64) w A0 l0.length l0) (hc0 : l0.length ≤ c0) (h : spec_ToneAt.f k l0 a1 = some (r1, r2)) :
    Calls Try.prog 86 #[.slice A0 l0.length c0, .int .i64 a1] w fun e w' => e = .returned (.tuple #[.int .i64 r1, .int .i64 r2]) ∧ Drawn0 w w' := by
  have HR0 := Aside0.mk hr0
  have HC0 := Aside0.mk hc0
  clear hr0 hc0
  have H : ((spec_l03Scale.f k l0).bind fun t307 => (if t307 = true then ((spec_l00In.f a1 (wrap64 (-(l0.length : Int))) (wrap64 ((wrap64 (2 * (l0.length : Int))) - 1))).bind fun t308 => (if t308 = true then (if (l0.length : Int) = 0 then (none) else (if 0 ≤ (Int.tmod (wrap64 ((Int.tmod a1 (l0.length : Int)) + (l0.length : Int))) (l0.length : Int)) then (if (Int.tmod (wrap64 ((Int.tmod a1 (l0.length : Int)) + (l0.length : Int))) (l0.length : Int)) < (l0.length : Int) then (some (wrap64 ((wrap64 (12 * (wrap64 (Int.tdiv (wrap64 (a1 - (Int.tmod (wrap64 ((Int.tmod a1 (l0.length : Int)) + (l0.length : Int))) (l0.length : Int)))) (l0.length : Int))))) + (rd l0 (Int.tmod (wrap64 ((Int.tmod a1 (l0.length : Int)) + (l0.length : Int))) (l0.length : Int)))), 0)) else (none)) else (none))) else (some (0, 2)))) else (some (0, 1)))) = some (r1, r2) := h
  clear h
  replace H := Option.bind_eq_some_iff.mp H
  obtain ⟨t307, A30, H⟩ := H
  replace H : (if t307 = true then ((spec_l00In.f a1 (wrap64 (-(l0.length : Int))) (wrap64 ((wrap64 (2 * (l0.length : Int))) - 1))).bind fun t308 => (if t308 = true then (if (l0.length : Int) = 0 then (none) else (if 0 ≤ (Int.tmod (wrap64 ((Int.tmod a1 (l0.length : Int)) + (l0.length : Int))) (l0.length : Int)) then (if (Int.tmod (wrap64 ((Int.tmod a1 (l0.length : Int)) + (l0.length : Int))) (l0.length : Int)) < (l0.length : Int) then (some (wrap64 ((wrap64 (12 * (wrap64 (Int.tdiv (wrap64 (a1 - (Int.tmod (wrap64 ((Int.tmod a1 (l0.length : Int)) + (l0.length : Int))) (l0.length : Int)))) (l0.length : Int))))) + (rd l0 (Int.tmod (wrap64 ((Int.tmod a1 (l0.length : Int)) + (l0.length : Int))) (l0.length : Int)))), 0)) else (none)) else (none))) else (some (0, 2)))) else (some (0, 1))) = some (r1, r2) := H
  have A3 := Aside0.mk A30
  clear A30
  by_cases c4 : t307 = true
  · subst c4
    have H1 : ((spec_l00In.f a1 (wrap64 (-(l0.length : Int))) (wrap64 ((wrap64 (2 * (l0.length : Int))) - 1))).bind fun t308 => (if t308 = true then (if (l0.length : Int) = 0 then (none) else (if 0 ≤ (Int.tmod (wrap64 ((Int.tmod a1 (l0.length : Int)) + (l0.length : Int))) (l0.length : Int)) then (if (Int.tmod (wrap64 ((Int.tmod a1 (l0.length : Int)) + (l0.length : Int))) (l0.length : Int)) < (l0.length : Int) then (some (wrap64 ((wrap64 (12 * (wrap64 (Int.tdiv (wrap64 (a1 - (Int.tmod (wrap64 ((Int.tmod a1 (l0.length : Int)) + (l0.length : Int))) (l0.length : Int)))) (l0.length : Int))))) + (rd l0 (Int.tmod (wrap64 ((Int.tmod a1 (l0.length : Int)) + (l0.length : Int))) (l0.length : Int)))), 0)) else (none)) else (none))) else (some (0, 2)))) = some (r1, r2) := by rw [if_pos rfl] at H; exact H
    clear H
    have H := H1
    clear H1
    replace H := Option.bind_eq_some_iff.mp H
    obtain ⟨t308, A50, H⟩ := H
    replace H : (if t308 = true then (if (l0.length : Int) = 0 then (none) else (if 0 ≤ (Int.tmod (wrap64 ((Int.tmod a1 (l0.length : Int)) + (l0.length : Int))) (l0.length : Int)) then (if (Int.tmod (wrap64 ((Int.tmod a1 (l0.length : Int)) + (l0.length : Int))) (l0.length : Int)) < (l0.length : Int) then (some (wrap64 ((wrap64 (12 * (wrap64 (Int.tdiv (wrap64 (a1 - (Int.tmod (wrap64 ((Int.tmod a1 (l0.length : Int)) + (l0.length : Int))) (l0.length : Int)))) (l0.length : Int))))) + (rd l0 (Int.tmod (wrap64 ((Int.tmod a1 (l0.length : Int)) + (l0.length : Int))) (l0.length : Int)))), 0)) else (none)) else (none))) else (some (0, 2))) = some (r1, r2) := H
    have A5 := Aside0.mk A50
    clear A50
    by_cases c6 : t308 = true
    · subst c6
      have H1 : (if (l0.length : Int) = 0 then (none) else (if 0 ≤ (Int.tmod (wrap64 ((Int.tmod a1 (l0.length : Int)) + (l0.length : Int))) (l0.length : Int)) then (if (Int.tmod (wrap64 ((Int.tmod a1 (l0.length : Int)) + (l0.length : Int))) (l0.length : Int)) < (l0.length : Int) then (some (wrap64 ((wrap64 (12 * (wrap64 (Int.tdiv (wrap64 (a1 - (Int.tmod (wrap64 ((Int.tmod a1 (l0.length : Int)) + (l0.length : Int))) (l0.length : Int)))) (l0.length : Int))))) + (rd l0 (Int.tmod (wrap64 ((Int.tmod a1 (l0.length : Int)) + (l0.length : Int))) (l0.length : Int)))), 0)) else (none)) else (none))) = some (r1, r2) := by rw [if_pos rfl] at H; exact H
      clear H
      have H := H1
      clear H1
      by_cases c7 : (l0.length : Int) = 0
      · rw [if_pos c7] at H
        exact absurd H (by simp)
      · rw [if_neg c7] at H
        have c7b0 : ((l0.length : Int) == 0) = false := beq_eq_false_iff_ne.mpr c7
        have c7b1 : ((l0.length : Int) != 0) = true := bne_iff_ne.mpr c7
        have c7b2 : ¬ (l0 = []) := fun h_ => c7 (by rw [h_]; rfl)
        obtain ⟨ji8, hji8⟩ : ∃ j_ : Int, (Int.tmod (wrap64 ((Int.tmod a1 (l0.length : Int)) + (l0.length : Int))) (l0.length : Int)) = j_ := ⟨_, rfl⟩
        replace H : (if 0 ≤ (ji8) then (if (ji8) < (l0.length : Int) then (some (wrap64 ((wrap64 (12 * (wrap64 (Int.tdiv (wrap64 (a1 - (ji8))) (l0.length : Int))))) + (rd l0 (ji8))), 0)) else (none)) else (none)) = some (r1, r2) := by first | (rw [hji8] at H; exact H) | (simp only [hji8] at H ⊢; exact H)
        (try rw [hji8] at A3)
        (try rw [hji8] at A5)
        by_cases c9 : 0 ≤ (ji8)
        · rw [if_pos c9] at H
          have c9b0 : decide (0 ≤ (ji8)) = true := decide_eq_true c9
          clear c9
          by_cases c10 : (ji8) < (l0.length : Int)
          · rw [if_pos c10] at H
            have c10b0 : decide ((ji8) < (l0.length : Int)) = true := decide_eq_true c10
            clear c10
            simp only [Option.some.injEq, Prod.mk.injEq] at H
            obtain ⟨rfl, rfl⟩ := H
            go_enter Try.func86, Try.ntmps86
            go_wp2_with (first | (go_at_call 59; (with_reducible refine (spec_l03Scale.calls k _ _ l0 true _ ?side1 ?side2 A3.out).mono ?_); (case side1 => repeat (first | exact HR0.out | (with_reducible refine Kd.C_alloc ?_ _) | (with_reducible refine Kd.C_drewN ?_ _) | (with_reducible refine Kd.C_drew ?_))); (case side2 => exact HC0.out); rintro e w' ⟨rfl, ⟨nd, rfl⟩⟩; (try first | exact ⟨rfl, _, World.drewN_drewN _ _ _⟩ | exact ⟨rfl, _, Eq.trans (World.drewN_drewN _ _ _) (congrArg (World.drewN _) (Nat.add_assoc _ _ _))⟩)) | (go_at_call 50; (with_reducible refine (spec_l00In.calls a1 (wrap64 (-(l0.length : Int))) (wrap64 ((wrap64 (2 * (l0.length : Int))) - 1)) true _ A5.out).mono ?_); rintro e w' ⟨rfl, ⟨nd, rfl⟩⟩; (try first | exact ⟨rfl, _, World.drewN_drewN _ _ _⟩ | exact ⟨rfl, _, Eq.trans (World.drewN_drewN _ _ _) (congrArg (World.drewN _) (Nat.add_assoc _ _ _))⟩); have p309 : 0 ≤ ((ji8) : Int) := of_decide_eq_true (by first | (with_reducible assumption) | assumption); have q309 : (ji8) < (l0.length : Int) := of_decide_eq_true (by first | (with_reducible assumption) | assumption); obtain ⟨ad309, e309, hx309_0⟩ := Kd.at_int HR0.out (ji8) p309 q309; cases e309; replace p309 := eq_true p309; replace q309 := eq_true q309))
            repeat (go_quiet (first | (go_at_call 59; (with_reducible refine (spec_l03Scale.calls k _ _ l0 true _ ?side1 ?side2 A3.out).mono ?_); (case side1 => repeat (first | exact HR0.out | (with_reducible refine Kd.C_alloc ?_ _) | (with_reducible refine Kd.C_drewN ?_ _) | (with_reducible refine Kd.C_drew ?_))); (case side2 => exact HC0.out); rintro e w' ⟨rfl, ⟨nd, rfl⟩⟩; (try first | exact ⟨rfl, _, World.drewN_drewN _ _ _⟩ | exact ⟨rfl, _, Eq.trans (World.drewN_drewN _ _ _) (congrArg (World.drewN _) (Nat.add_assoc _ _ _))⟩)) | (go_at_call 50; (with_reducible refine (spec_l00In.calls a1 (wrap64 (-(l0.length : Int))) (wrap64 ((wrap64 (2 * (l0.length : Int))) - 1)) true _ A5.out).mono ?_); rintro e w' ⟨rfl, ⟨nd, rfl⟩⟩; (try first | exact ⟨rfl, _, World.drewN_drewN _ _ _⟩ | exact ⟨rfl, _, Eq.trans (World.drewN_drewN _ _ _) (congrArg (World.drewN _) (Nat.add_assoc _ _ _))⟩); have p309 : 0 ≤ ((ji8) : Int) := of_decide_eq_true (by first | (with_reducible assumption) | assumption); have q309 : (ji8) < (l0.length : Int) := of_decide_eq_true (by first | (with_reducible assumption) | assumption); obtain ⟨ad309, e309, hx309_0⟩ := Kd.at_int HR0.out (ji8) p309 q309; cases e309; replace p309 := eq_true p309; replace q309 := eq_true q309)); try go_wp2_with (first | (go_at_call 59; (with_reducible refine (spec_l03Scale.calls k _ _ l0 true _ ?side1 ?side2 A3.out).mono ?_); (case side1 => repeat (first | exact HR0.out | (with_reducible refine Kd.C_alloc ?_ _) | (with_reducible refine Kd.C_drewN ?_ _) | (with_reducible refine Kd.C_drew ?_))); (case side2 => exact HC0.out); rintro e w' ⟨rfl, ⟨nd, rfl⟩⟩; (try first | exact ⟨rfl, _, World.drewN_drewN _ _ _⟩ | exact ⟨rfl, _, Eq.trans (World.drewN_drewN _ _ _) (congrArg (World.drewN _) (Nat.add_assoc _ _ _))⟩)) | (go_at_call 50; (with_reducible refine (spec_l00In.calls a1 (wrap64 (-(l0.length : Int))) (wrap64 ((wrap64 (2 * (l0.length : Int))) - 1)) true _ A5.out).mono ?_); rintro e w' ⟨rfl, ⟨nd, rfl⟩⟩; (try first | exact ⟨rfl, _, World.drewN_drewN _ _ _⟩ | exact ⟨rfl, _, Eq.trans (World.drewN_drewN _ _ _) (congrArg (World.drewN _) (Nat.add_assoc _ _ _))⟩); have p309 : 0 ≤ ((ji8) : Int) := of_decide_eq_true (by first | (with_reducible assumption) | assumption); have q309 : (ji8) < (l0.length : Int) := of_decide_eq_true (by first | (with_reducible assumption) | assumption); obtain ⟨ad309, e309, hx309_0⟩ := Kd.at_int HR0.out (ji8) p309 q309; cases e309; replace p309 := eq_true p309; replace q309 := eq_true q309)))
            go_ret2
            exact ⟨by first | rfl | (simp; done) | (simp only [← hji8] <;> (first | rfl | simp)) | (simp [*]; done), by repeat (first | exact Drawn0.refl _ | apply Drawn0.step)⟩
          · rw [if_neg c10] at H
            exact absurd H (by simp)
        · rw [if_neg c9] at H
          exact absurd H (by simp)
    · replace c6 := Bool.eq_false_iff.mpr c6
      subst c6
      have H1 : (some (0, 2)) = some (r1, r2) := by rw [if_neg (show ¬ (false = true) by decide)] at H; exact H
      clear H
      have H := H1
      clear H1
      simp only [Option.some.injEq, Prod.mk.injEq] at H
      obtain ⟨rfl, rfl⟩ := H
      go_enter Try.func86, Try.ntmps86
      go_wp2_with (first | (go_at_call 59; (with_reducible refine (spec_l03Scale.calls k _ _ l0 true _ ?side1 ?side2 A3.out).mono ?_); (case side1 => repeat (first | exact HR0.out | (with_reducible refine Kd.C_alloc ?_ _) | (with_reducible refine Kd.C_drewN ?_ _) | (with_reducible refine Kd.C_drew ?_))); (case side2 => exact HC0.out); rintro e w' ⟨rfl, ⟨nd, rfl⟩⟩; (try first | exact ⟨rfl, _, World.drewN_drewN _ _ _⟩ | exact ⟨rfl, _, Eq.trans (World.drewN_drewN _ _ _) (congrArg (World.drewN _) (Nat.add_assoc _ _ _))⟩)) | (go_at_call 50; (with_reducible refine (spec_l00In.calls a1 (wrap64 (-(l0.length : Int))) (wrap64 ((wrap64 (2 * (l0.length : Int))) - 1)) false _ A5.out).mono ?_); rintro e w' ⟨rfl, ⟨nd, rfl⟩⟩; (try first | exact ⟨rfl, _, World.drewN_drewN _ _ _⟩ | exact ⟨rfl, _, Eq.trans (World.drewN_drewN _ _ _) (congrArg (World.drewN _) (Nat.add_assoc _ _ _))⟩)))
      repeat (go_quiet (first | (go_at_call 59; (with_reducible refine (spec_l03Scale.calls k _ _ l0 true _ ?side1 ?side2 A3.out).mono ?_); (case side1 => repeat (first | exact HR0.out | (with_reducible refine Kd.C_alloc ?_ _) | (with_reducible refine Kd.C_drewN ?_ _) | (with_reducible refine Kd.C_drew ?_))); (case side2 => exact HC0.out); rintro e w' ⟨rfl, ⟨nd, rfl⟩⟩; (try first | exact ⟨rfl, _, World.drewN_drewN _ _ _⟩ | exact ⟨rfl, _, Eq.trans (World.drewN_drewN _ _ _) (congrArg (World.drewN _) (Nat.add_assoc _ _ _))⟩)) | (go_at_call 50; (with_reducible refine (spec_l00In.calls a1 (wrap64 (-(l0.length : Int))) (wrap64 ((wrap64 (2 * (l0.length : Int))) - 1)) false _ A5.out).mono ?_); rintro e w' ⟨rfl, ⟨nd, rfl⟩⟩; (try first | exact ⟨rfl, _, World.drewN_drewN _ _ _⟩ | exact ⟨rfl, _, Eq.trans (World.drewN_drewN _ _ _) (congrArg (World.drewN _) (Nat.add_assoc _ _ _))⟩))); try go_wp2_with (first | (go_at_call 59; (with_reducible refine (spec_l03Scale.calls k _ _ l0 true _ ?side1 ?side2 A3.out).mono ?_); (case side1 => repeat (first | exact HR0.out | (with_reducible refine Kd.C_alloc ?_ _) | (with_reducible refine Kd.C_drewN ?_ _) | (with_reducible refine Kd.C_drew ?_))); (case side2 => exact HC0.out); rintro e w' ⟨rfl, ⟨nd, rfl⟩⟩; (try first | exact ⟨rfl, _, World.drewN_drewN _ _ _⟩ | exact ⟨rfl, _, Eq.trans (World.drewN_drewN _ _ _) (congrArg (World.drewN _) (Nat.add_assoc _ _ _))⟩)) | (go_at_call 50; (with_reducible refine (spec_l00In.calls a1 (wrap64 (-(l0.length : Int))) (wrap64 ((wrap64 (2 * (l0.length : Int))) - 1)) false _ A5.out).mono ?_); rintro e w' ⟨rfl, ⟨nd, rfl⟩⟩; (try first | exact ⟨rfl, _, World.drewN_drewN _ _ _⟩ | exact ⟨rfl, _, Eq.trans (World.drewN_drewN _ _ _) (congrArg (World.drewN _) (Nat.add_assoc _ _ _))⟩))))
      go_ret2
      exact ⟨by first | rfl | (simp; done) | (simp [*]; done), by repeat (first | exact Drawn0.refl _ | apply Drawn0.step)⟩
  · replace c4 := Bool.eq_false_iff.mpr c4
    subst c4
    have H1 : (some (0, 1)) = some (r1, r2) := by rw [if_neg (show ¬ (false = true) by decide)] at H; exact H
    clear H
    have H := H1
    clear H1
    simp only [Option.some.injEq, Prod.mk.injEq] at H
    obtain ⟨rfl, rfl⟩ := H
    go_enter Try.func86, Try.ntmps86
    go_wp2_with (first | (go_at_call 59; (with_reducible refine (spec_l03Scale.calls k _ _ l0 false _ ?side1 ?side2 A3.out).mono ?_); (case side1 => repeat (first | exact HR0.out | (with_reducible refine Kd.C_alloc ?_ _) | (with_reducible refine Kd.C_drewN ?_ _) | (with_reducible refine Kd.C_drew ?_))); (case side2 => exact HC0.out); rintro e w' ⟨rfl, ⟨nd, rfl⟩⟩; (try first | exact ⟨rfl, _, World.drewN_drewN _ _ _⟩ | exact ⟨rfl, _, Eq.trans (World.drewN_drewN _ _ _) (congrArg (World.drewN _) (Nat.add_assoc _ _ _))⟩)))
    repeat (go_quiet (first | (go_at_call 59; (with_reducible refine (spec_l03Scale.calls k _ _ l0 false _ ?side1 ?side2 A3.out).mono ?_); (case side1 => repeat (first | exact HR0.out | (with_reducible refine Kd.C_alloc ?_ _) | (with_reducible refine Kd.C_drewN ?_ _) | (with_reducible refine Kd.C_drew ?_))); (case side2 => exact HC0.out); rintro e w' ⟨rfl, ⟨nd, rfl⟩⟩; (try first | exact ⟨rfl, _, World.drewN_drewN _ _ _⟩ | exact ⟨rfl, _, Eq.trans (World.drewN_drewN _ _ _) (congrArg (World.drewN _) (Nat.add_assoc _ _ _))⟩))); try go_wp2_with (first | (go_at_call 59; (with_reducible refine (spec_l03Scale.calls k _ _ l0 false _ ?side1 ?side2 A3.out).mono ?_); (case side1 => repeat (first | exact HR0.out | (with_reducible refine Kd.C_alloc ?_ _) | (with_reducible refine Kd.C_drewN ?_ _) | (with_reducible refine Kd.C_drew ?_))); (case side2 => exact HC0.out); rintro e w' ⟨rfl, ⟨nd, rfl⟩⟩; (try first | exact ⟨rfl, _, World.drewN_drewN _ _ _⟩ | exact ⟨rfl, _, Eq.trans (World.drewN_drewN _ _ _) (congrArg (World.drewN _) (Nat.add_assoc _ _ _))⟩))))
    go_ret2
    exact ⟨by first | rfl | (simp; done) | (simp [*]; done), by repeat (first | exact Drawn0.refl _ | apply Drawn0.step)⟩

end Go.Proofs.Ytddhommmokdlnaa.P
end

section
namespace Go.Proofs.Ytddhommmokdlnaa.P
open Go.RowKit Go.Proofs.YtddhommmokdlnaaW.PrintWords Go.Proofs.YtddhommmokdlnaaW.PrintLast Go.Proofs.YtddhommmokdlnaaW.PrintMore
attribute [local go_sem] max2_int min2_int max_two min_two max_three min_three max_four min_four   -- for this text's walks alone
set_option linter.unusedVariables false
set_option linter.unusedSimpArgs false

/-! ### spec_l14From: function 60 -/
def spec_l14From.l0 : Nat → List Int → List Int → List Int → Int → Int → Option (List Int × Bool)
  | 0, _, _, _, _, _ => none
  | k + 1, x0, x1, x2, x3, x10 => if x10 < (x2.length : Int) then (if 0 ≤ x10 then ((spec_ToneAt.f k x1 (wrap64 (x3 + (rd x2 x10)))).bind fun bt311 => (if bt311.2 = 0 then (if x0.length < 17592186044416 then (spec_l14From.l0 k (x0 ++ [bt311.1]) x1 x2 x3 (wrap64 (x10 + 1))) else (none)) else (some (([] : List Int), false)))) else (none)) else (some (x0, true))
def spec_l14From.f (k : Nat) (l0 : List Int) (l1 : List Int) (l2 : List Int) (a3 : Int) : Option (List Int × Bool) := spec_l14From.l0 k l0 l1 l2 a3 0
theorem spec_l14From.mono_l : ∀ k, (∀ y0 y1 y2 y3 y4, LeO (spec_l14From.l0 k y0 y1 y2 y3 y4) (spec_l14From.l0 (k + 1) y0 y1 y2 y3 y4))
  | 0 => fun _ _ _ _ _ r h => by simp [spec_l14From.l0] at h
  | k + 1 => by
    have ih0 := spec_l14From.mono_l k
    · intro y0 y1 y2 y3 y4
      unfold spec_l14From.l0
      repeat' first
      | (with_reducible exact ih0 _ _ _ _ _)
      | (with_reducible exact spec_ToneAt.mono _ _ _)
      | (with_reducible exact LeO.refl _)
      | (with_reducible exact LeO.none _)
      | (with_reducible refine LeO.ite ?_ ?_)
      | (with_reducible refine LeO.bind ?_ (fun _ => ?_))
      | exact ih0 _ _ _ _ _
      | exact spec_ToneAt.mono _ _ _
      | exact LeO.none _
      | refine LeO.ite ?_ ?_
      | refine LeO.bind ?_ (fun _ => ?_)
theorem spec_l14From.mono : ∀ a0 a1 a2 a3 k, LeO (spec_l14From.f k a0 a1 a2 a3) (spec_l14From.f (k + 1) a0 a1 a2 a3) := by
  intro a0 a1 a2 a3 k
  have ih0 := spec_l14From.mono_l k
  unfold spec_l14From.f
  repeat' first
      | (with_reducible exact ih0 _ _ _ _ _)
      | (with_reducible exact spec_ToneAt.mono _ _ _)
      | (with_reducible exact LeO.refl _)
      | (with_reducible exact LeO.none _)
      | (with_reducible refine LeO.ite ?_ ?_)
      | (with_reducible refine LeO.bind ?_ (fun _ => ?_))
      | exact ih0 _ _ _ _ _
      | exact spec_ToneAt.mono _ _ _
      | exact LeO.none _
      | refine LeO.ite ?_ ?_
      | refine LeO.bind ?_ (fun _ => ?_)
set_option maxHeartbeats 8000000 in
set_option maxRecDepth 100000 in
theorem spec_l14From.calls (k : Nat) (P0_ : Nat → Prop) (u9000_ : Value) (l0 : List Int) (A1 : Option Addr) (c1 : Nat) (l1 : List Int) (A2 : Option Addr) (c2 : Nat) (l2 : List Int) (a3 : Int) (r1 : List Int) (r2 : Bool) (w0 w : World) (hB : Below w0.heap.size w0 w) (ho0 : Kd.R (Kd.int .i64) 2 w w0.heap.size P0_ u9000_ l0) (hr1 : ∀ W_, Kept w W_ (fun k_ => P0_ k_) → Kd.C (Kd.int .i64) W_ A1 l1.length l1) (hc1 : l1.length ≤ c1) (hr2 : ∀ W_, Kept w W_ (fun k_ => P0_ k_) → Kd.C (Kd.int .i64) W_ A2 l2.length l2) (hc2 : l2.length ≤ c2) (h : spec_l14From.f k l0 l1 l2 a3 = some (r1, r2)) :
    Calls Try.prog 60 #[u9000_, .slice A1 l1.length c1, .slice A2 l2.length c2, .int .i64 a3] w fun e w' => ∃ v0_ : Value, e = .returned (.tuple #[v0_, .bool r2]) ∧ Kd.R (Kd.int .i64) 2 w' w0.heap.size (fun k_ => (P0_ k_ ∨ w.heap.size ≤ k_)) v0_ r1 ∧ Below w0.heap.size w0 w' ∧ Kept w w' (fun k_ => P0_ k_) := by
  have HO0 := Aside0.mk (show Kd.R (Kd.int .i64) 2 w w0.heap.size (fun k_ => (P0_ k_ ∨ w.heap.size ≤ k_)) u9000_ l0 from Kd.R_mono ho0 (fun k_ hk => (.inl hk)))
  have HR1 := Aside0.mk hr1
  have HC1 := Aside0.mk hc1
  clear hr1 hc1
  have HR2 := Aside0.mk hr2
  have HC2 := Aside0.mk hc2
  clear hr2 hc2
  have HK := Aside0.mk (Kept.refl w (fun k_ => P0_ k_))
  have HW0 := Aside0.mk hB.size
  have HB := Aside0.mk hB
  clear hB
  have H : (spec_l14From.l0 k l0 l1 l2 a3 0) = some (r1, r2) := h
  clear h
  have H' := Aside0.mk H
  clear H
  go_enter Try.func60, Try.ntmps60
  go_wp2
  go_loopg [0, 10] k (fun kq v0 v10 w' => ∃ (x0_1 : List Int) (x10_1 : Int), v10 = .int .i64 x10_1 ∧ Aside0 (spec_l14From.l0 kq x0_1 l1 l2 a3 x10_1 = some (r1, r2)) ∧ Aside0 (kq ≤ k) ∧ Aside0 (Kd.R (Kd.int .i64) 2 w' w0.heap.size (fun k_ => (P0_ k_ ∨ w.heap.size ≤ k_)) v0 x0_1) ∧ Aside0 (Kept w w' (fun k_ => P0_ k_)) ∧ Aside0 (Below w0.heap.size w0 w'))
  case atStart => exact ⟨(l0), (0), (by first | rfl | (simp; done) | (simp [*]; done)), H', ⟨Nat.le_refl _⟩, ⟨by (with_reducible repeat (first | apply Kd.R_alloc | apply Kd.R_drewN | apply Kd.R_drew)); exact HO0.out⟩, ⟨by repeat (first | (with_reducible first | exact HK.out | apply Kept.alloc | apply Kept.drewN | apply Kept.drew) | exact HK.out)⟩, ⟨by repeat (first | (with_reducible first | exact HB.out | apply below_alloc | apply pw_below_drewN | apply below_drew1) | exact HB.out)⟩⟩
  case round =>
    clear H'
    try clear c1
    try clear c2
    try clear p2
    obtain ⟨x0_1, x10_1, rfl, HA, HK1, HO_0, HK, HB⟩ := hrel
    cases gk with
    | zero => exact absurd HA.out (by simp [spec_l14From.l0])
    | succ k1 =>
      have H := HA.out
      clear HA
      simp only [spec_l14From.l0] at H
      by_cases c5 : x10_1 < (l2.length : Int)
      · rw [if_pos c5] at H
        have c5b0 : decide (x10_1 < (l2.length : Int)) = true := decide_eq_true c5
        clear c5
        by_cases c6 : 0 ≤ x10_1
        · rw [if_pos c6] at H
          have c6b0 : decide (0 ≤ x10_1) = true := decide_eq_true c6
          clear c6
          replace H := Option.bind_eq_some_iff.mp H
          obtain ⟨⟨t311, t312⟩, A70, H⟩ := H
          replace H : (if t312 = 0 then (if x0_1.length < 17592186044416 then (spec_l14From.l0 k1 (x0_1 ++ [t311]) l1 l2 a3 (wrap64 (x10_1 + 1))) else (none)) else (some (([] : List Int), false))) = some (r1, r2) := H
          have A7 := Aside0.mk A70
          clear A70
          by_cases c8 : t312 = 0
          · rw [if_pos c8] at H
            have c8b0 : (t312 == 0) = true := beq_iff_eq.mpr c8
            have c8b1 : (t312 != 0) = false := bne_eq_false_iff_eq.mpr c8
            clear c8
            by_cases c9 : x0_1.length < 17592186044416
            · rw [if_pos c9] at H
              have LMc9 := Aside0.mk c9
              clear c9
              obtain ⟨y313, hy313⟩ : ∃ y_ : List Int, y_ = (x0_1 ++ [t311]) := ⟨_, rfl⟩
              replace H : (spec_l14From.l0 k1 y313 l1 l2 a3 (wrap64 (x10_1 + 1))) = some (r1, r2) := by first | (rw [hy313]; with_reducible exact H) | (have H2_ := (Option.bind_some _ _).symm.trans H; rw [hy313]; with_reducible exact H2_) | (have H2_ := (Option.bind_some _ _).symm.trans H; with_reducible exact H2_) | with_reducible exact H | (rw [hy313]; exact H) | exact H
              have Ny313 := Aside0.mk hy313
              clear hy313
              have H' := Aside0.mk H
              clear H
              have p310 : 0 ≤ (x10_1 : Int) := of_decide_eq_true (by first | (with_reducible assumption) | assumption)
              have q310 : x10_1 < (l2.length : Int) := of_decide_eq_true (by first | (with_reducible assumption) | assumption)
              obtain ⟨ad310, e310, hx310_0⟩ := Kd.at_int (Kd.C_kept_now HR2.out HK.out) x10_1 p310 q310
              cases e310
              replace p310 := eq_true p310
              replace q310 := eq_true q310
              go_wp2_with (first | ((with_reducible refine gate_callee (f := 86) rfl ?_); refine goesL_ (some 27) rfl rfl Try.func86 (by kernel_rfl) rfl #[.slice A1 l1.length c1, .int .i64 (wrap64 (a3 + (rd l2 x10_1)))] rfl (by (try simp only [List.map_toArray, List.map_cons, List.map_nil]); first | done | rfl | (simp only [List.length_drop, List.length_take]; rfl)) ?_; (with_reducible refine (spec_ToneAt.calls k1 _ _ l1 (wrap64 (a3 + (rd l2 x10_1))) t311 t312 _ ?side1 ?side2 A7.out).mono ?_); (case side1 => exact Kd.C_kept_now HR1.out (by repeat (first | (with_reducible first | exact HK.out | apply Kept.alloc | apply Kept.drewN | apply Kept.drew) | exact HK.out))); (case side2 => exact HC1.out); rintro e w' ⟨rfl, ⟨nd, rfl⟩⟩; refine ⟨_, rfl, ?_⟩) | ((with_reducible refine gate_builtin (b := .append) (xs := #[.tmp 32, .tmp 34]) rfl ?_); at_builtin; refine Kd.R_append (Kd.int .i64) (w0 := w0) w0.heap.size rfl (.tmp 32) (.tmp 34) 22 2 (.int .i64 0) 8 rfl Try.underlying22 info2 rfl (by decide) (by omega) u0 x0_1 t311 [.int .i64 t311] (fun k_ => (P0_ k_ ∨ w.heap.size ≤ k_)) (fun _ => False) rfl rfl ?aP (fun _ hk => hk.elim) ?aF ?aO ?aB ?aS ?aL ?_; (case aP => exact rfl); (case aB => exact (by repeat (first | (with_reducible first | exact HB.out | apply below_alloc | apply pw_below_drewN | apply below_drew1) | exact HB.out))); (case aF => exact (fun k_ hk => (.inr (Nat.le_trans (by first | exact HK.out.1 | exact (show Kept w _ (fun k_ => P0_ k_) from by repeat (first | (with_reducible first | exact HK.out | apply Kept.alloc | apply Kept.drewN | apply Kept.drew) | exact HK.out)).1) hk)))); (case aO => exact (by (with_reducible repeat (first | apply Kd.R_alloc | apply Kd.R_drewN | apply Kd.R_drew)); exact HO_0.out)); (case aS => exact (below_size (by repeat (first | (with_reducible first | exact HB.out | apply below_alloc | apply pw_below_drewN | apply below_drew1) | exact HB.out)))); (case aL => have := LMc9.out; omega); intro v314 w10 ho hb hg hat; rw [← Ny313.out] at ho; have n0_ := Aside0.mk (hb); have n1_ := Aside0.mk (Kept.of_grown (S := (fun k_ => P0_ k_)) hg (by repeat (first | (with_reducible first | exact HK.out | apply Kept.alloc | apply Kept.drewN | apply Kept.drew) | exact HK.out)) (fun k_ e_ => (HO_0.out.1 k_ e_))); have n2_ := Aside0.mk (ho); clear HB; clear HK; clear HO_0; have HB := n0_; have HK := n1_; have HO315 := n2_; clear n0_ n1_ n2_; clear ho hb hg hat))
              go_roundg k1
              case measure => have := HK1.out; omega
              case rel => exact ⟨(y313), (wrap64 (x10_1 + 1)), (by first | rfl | (simp; done) | (simp [*]; done)), H', ⟨by have := HK1.out; omega⟩, ⟨by (with_reducible repeat (first | apply Kd.R_alloc | apply Kd.R_drewN | apply Kd.R_drew)); exact HO315.out⟩, ⟨by repeat (first | (with_reducible first | exact HK.out | apply Kept.alloc | apply Kept.drewN | apply Kept.drew) | exact HK.out)⟩, ⟨by repeat (first | (with_reducible first | exact HB.out | apply below_alloc | apply pw_below_drewN | apply below_drew1) | exact HB.out)⟩⟩
            · rw [if_neg c9] at H
              exact absurd H (by simp)
          · rw [if_neg c8] at H
            have c8b0 : (t312 == 0) = false := beq_eq_false_iff_ne.mpr c8
            have c8b1 : (t312 != 0) = true := bne_iff_ne.mpr c8
            simp only [Option.some.injEq, Prod.mk.injEq] at H
            obtain ⟨rfl, rfl⟩ := H
            have p310 : 0 ≤ (x10_1 : Int) := of_decide_eq_true (by first | (with_reducible assumption) | assumption)
            have q310 : x10_1 < (l2.length : Int) := of_decide_eq_true (by first | (with_reducible assumption) | assumption)
            obtain ⟨ad310, e310, hx310_0⟩ := Kd.at_int (Kd.C_kept_now HR2.out HK.out) x10_1 p310 q310
            cases e310
            replace p310 := eq_true p310
            replace q310 := eq_true q310
            go_wp2_with (first | ((with_reducible refine gate_callee (f := 86) rfl ?_); refine goesL_ (some 27) rfl rfl Try.func86 (by kernel_rfl) rfl #[.slice A1 l1.length c1, .int .i64 (wrap64 (a3 + (rd l2 x10_1)))] rfl (by (try simp only [List.map_toArray, List.map_cons, List.map_nil]); first | done | rfl | (simp only [List.length_drop, List.length_take]; rfl)) ?_; (with_reducible refine (spec_ToneAt.calls k1 _ _ l1 (wrap64 (a3 + (rd l2 x10_1))) t311 t312 _ ?side1 ?side2 A7.out).mono ?_); (case side1 => exact Kd.C_kept_now HR1.out (by repeat (first | (with_reducible first | exact HK.out | apply Kept.alloc | apply Kept.drewN | apply Kept.drew) | exact HK.out))); (case side2 => exact HC1.out); rintro e w' ⟨rfl, ⟨nd, rfl⟩⟩; refine ⟨_, rfl, ?_⟩))
            go_ret2
            exact ⟨_, by first | rfl | (simp [errW_none, errW_some] <;> rfl) | (simp [*, errW_none, errW_some] <;> rfl), by first | exact Kd.R_nil _ _ _ _ _ | exact Kd.N_nil _ _ _ _ _ | exact Kd.V_nil _ _ _ _ _ | exact Kd.Q_nil _ _ _ _ _ | exact Kd.S_nil _ _ _ _ _, by repeat (first | (with_reducible first | exact HB.out | apply below_alloc | apply pw_below_drewN | apply below_drew1) | exact HB.out), by repeat (first | (with_reducible first | exact HK.out | apply Kept.alloc | apply Kept.drewN | apply Kept.drew) | exact HK.out)⟩
        · rw [if_neg c6] at H
          exact absurd H (by simp)
      · rw [if_neg c5] at H
        have c5b0 : decide (x10_1 < (l2.length : Int)) = false := decide_eq_false c5
        clear c5
        simp only [Option.some.injEq, Prod.mk.injEq] at H
        obtain ⟨rfl, rfl⟩ := H
        go_wp2
        go_ret2
        exact ⟨_, by first | rfl | (simp [errW_none, errW_some] <;> rfl) | (simp [*, errW_none, errW_some] <;> rfl), by (with_reducible repeat (first | apply Kd.R_alloc | apply Kd.R_drewN | apply Kd.R_drew)); exact HO_0.out, by repeat (first | (with_reducible first | exact HB.out | apply below_alloc | apply pw_below_drewN | apply below_drew1) | exact HB.out), by repeat (first | (with_reducible first | exact HK.out | apply Kept.alloc | apply Kept.drewN | apply Kept.drew) | exact HK.out)⟩

end Go.Proofs.Ytddhommmokdlnaa.P
end

section
namespace Go.Proofs.Ytddhommmokdlnaa.P
open Go.RowKit Go.Proofs.YtddhommmokdlnaaW.PrintWords Go.Proofs.YtddhommmokdlnaaW.PrintLast Go.Proofs.YtddhommmokdlnaaW.PrintMore
attribute [local go_sem] max2_int min2_int max_two min_two max_three min_three max_four min_four   -- for this text's walks alone
set_option linter.unusedVariables false
set_option linter.unusedSimpArgs false

/-! ### spec_l14Mirror: function 44 -/
def spec_l14Mirror.l0 : Nat → List Int → List Int → Int → Option (List Int)
  | 0, _, _, _ => none
  | k + 1, x0, x3, x4 => if x4 < (x0.length : Int) then (if 0 ≤ x4 then (if x3.length < 17592186044416 then (spec_l14Mirror.l0 k x0 (x3 ++ [wrap64 (-(rd x0 x4))]) (wrap64 (x4 + 1))) else (none)) else (none)) else (some x3)
def spec_l14Mirror.f (k : Nat) (l0 : List Int) : Option (List Int) := spec_l14Mirror.l0 k l0 (([] : List Int)) 0
theorem spec_l14Mirror.mono_l : ∀ k, (∀ y0 y1 y2, LeO (spec_l14Mirror.l0 k y0 y1 y2) (spec_l14Mirror.l0 (k + 1) y0 y1 y2))
  | 0 => fun _ _ _ r h => by simp [spec_l14Mirror.l0] at h
  | k + 1 => by
    have ih0 := spec_l14Mirror.mono_l k
    · intro y0 y1 y2
      unfold spec_l14Mirror.l0
      repeat' first
      | (with_reducible exact ih0 _ _ _)
      | (with_reducible exact LeO.refl _)
      | (with_reducible exact LeO.none _)
      | (with_reducible refine LeO.ite ?_ ?_)
      | (with_reducible refine LeO.bind ?_ (fun _ => ?_))
      | exact ih0 _ _ _
      | exact LeO.none _
      | refine LeO.ite ?_ ?_
      | refine LeO.bind ?_ (fun _ => ?_)
theorem spec_l14Mirror.mono : ∀ a0 k, LeO (spec_l14Mirror.f k a0) (spec_l14Mirror.f (k + 1) a0) := by
  intro a0 k
  have ih0 := spec_l14Mirror.mono_l k
  unfold spec_l14Mirror.f
  repeat' first
      | (with_reducible exact ih0 _ _ _)
      | (with_reducible exact LeO.refl _)
      | (with_reducible exact LeO.none _)
      | (with_reducible refine LeO.ite ?_ ?_)
      | (with_reducible refine LeO.bind ?_ (fun _ => ?_))
      | exact ih0 _ _ _
      | exact LeO.none _
      | refine LeO.ite ?_ ?_
      | refine LeO.bind ?_ (fun _ => ?_)
set_option maxHeartbeats 8000000 in
set_option maxRecDepth 100000 in
theorem spec_l14Mirror.calls (k : Nat) (A0 : Option Addr) (c0 : Nat) (l0 : List Int) (r : List Int) (w : World) (hr0 : Kd.C (Kd.int .i64) w A0 l0.length l0) (hc0 : l0.length ≤ c0) (h : spec_l14Mirror.f k l0 = some r) :
    Calls Try.prog 44 #[.slice A0 l0.length c0] w fun e w' => ∃ v0_ : Value, e = .returned (v0_) ∧ Kd.R (Kd.int .i64) 2 w' w.heap.size (fun _ => True) v0_ r ∧ Below w.heap.size w w' := by
  have HR0 := Aside0.mk hr0
  have HC0 := Aside0.mk hc0
  clear hr0 hc0
  have HB := Aside0.mk (Below.refl w.heap.size w)
  have H : (spec_l14Mirror.l0 k l0 (([] : List Int)) 0) = some r := h
  clear h
  obtain ⟨y103, hy103⟩ : ∃ y_ : List Int, y_ = (([] : List Int)) := ⟨_, rfl⟩
  replace H : (spec_l14Mirror.l0 k l0 y103 0) = some r := by first | (rw [hy103]; with_reducible exact H) | (have H2_ := (Option.bind_some _ _).symm.trans H; rw [hy103]; with_reducible exact H2_) | (have H2_ := (Option.bind_some _ _).symm.trans H; with_reducible exact H2_) | with_reducible exact H | (rw [hy103]; exact H) | exact H
  have Ny103 := Aside0.mk hy103
  clear hy103
  have H' := Aside0.mk H
  clear H
  go_enter Try.func44, Try.ntmps44
  go_wp2_with (first | ((with_reducible refine gate_dst (N := 5) rfl ?_); refine Kd.R_lit (Kd.int .i64) _ 2 ?hg (N := 5) ?hd (xs := ([] : List Int)) (inner := []) (ok := fun _ => True) (okp := fun _ => True) ?hr ?hp (fun _ hk => hk) trivial (Below.refl _ _) (Nat.le_refl _) (by simp) ?_; (case hd => rfl); (case hg => rfl); (case hr => first | (go_simp; done) | (go_simp; rfl)); (case hp => exact (Reps.none _ _)); intro v104 w2 ho3 hb hg_ hnew_; clear hg_ hnew_; (first | rw [← Ny103.out] at ho3 | (simp only [Int.reduceToNat] at ho3; rw [← Ny103.out] at ho3)); have n0_ := Aside0.mk (Kd.R_lower ho3 (below_size (by repeat (first | (with_reducible first | exact HB.out | apply below_alloc | apply pw_below_drewN | apply below_drew1) | exact HB.out)))); have n1_ := Aside0.mk (below_step (by repeat (first | (with_reducible first | exact HB.out | apply below_alloc | apply pw_below_drewN | apply below_drew1) | exact HB.out)) hb); clear HB; have HO105 := n0_; have HB := n1_; clear n0_ n1_; clear hb ho3))
  go_loopg [3, 4] k (fun kq v3 v4 w' => ∃ (x3_1 : List Int) (x4_1 : Int), v4 = .int .i64 x4_1 ∧ Aside0 (spec_l14Mirror.l0 kq l0 x3_1 x4_1 = some r) ∧ Aside0 (kq ≤ k) ∧ Aside0 (Kd.R (Kd.int .i64) 2 w' w.heap.size (fun _ => True) v3 x3_1) ∧ Aside0 (Below w.heap.size w w'))
  case atStart => exact ⟨(y103), (0), (by first | rfl | (simp; done) | (simp [*]; done)), H', ⟨Nat.le_refl _⟩, ⟨by (with_reducible repeat (first | apply Kd.R_alloc | apply Kd.R_drewN | apply Kd.R_drew)); exact HO105.out⟩, ⟨by repeat (first | (with_reducible first | exact HB.out | apply below_alloc | apply pw_below_drewN | apply below_drew1) | exact HB.out)⟩⟩
  case round =>
    clear H'
    try clear p2
    obtain ⟨x3_1, x4_1, rfl, HA, HK1, HO_3, HB⟩ := hrel
    cases gk with
    | zero => exact absurd HA.out (by simp [spec_l14Mirror.l0])
    | succ k1 =>
      have H := HA.out
      clear HA
      simp only [spec_l14Mirror.l0] at H
      by_cases c4 : x4_1 < (l0.length : Int)
      · rw [if_pos c4] at H
        have c4b0 : decide (x4_1 < (l0.length : Int)) = true := decide_eq_true c4
        clear c4
        by_cases c5 : 0 ≤ x4_1
        · rw [if_pos c5] at H
          have c5b0 : decide (0 ≤ x4_1) = true := decide_eq_true c5
          clear c5
          by_cases c6 : x3_1.length < 17592186044416
          · rw [if_pos c6] at H
            have LMc6 := Aside0.mk c6
            clear c6
            obtain ⟨y107, hy107⟩ : ∃ y_ : List Int, y_ = (x3_1 ++ [wrap64 (-(rd l0 x4_1))]) := ⟨_, rfl⟩
            replace H : (spec_l14Mirror.l0 k1 l0 y107 (wrap64 (x4_1 + 1))) = some r := by first | (rw [hy107]; with_reducible exact H) | (have H2_ := (Option.bind_some _ _).symm.trans H; rw [hy107]; with_reducible exact H2_) | (have H2_ := (Option.bind_some _ _).symm.trans H; with_reducible exact H2_) | with_reducible exact H | (rw [hy107]; exact H) | exact H
            have Ny107 := Aside0.mk hy107
            clear hy107
            have H' := Aside0.mk H
            clear H
            have p106 : 0 ≤ (x4_1 : Int) := of_decide_eq_true (by first | (with_reducible assumption) | assumption)
            have q106 : x4_1 < (l0.length : Int) := of_decide_eq_true (by first | (with_reducible assumption) | assumption)
            obtain ⟨ad106, e106, hx106_0⟩ := Kd.at_int HR0.out x4_1 p106 q106
            cases e106
            replace hx106_0 := (HB.out.cell (World.block_lt_of_cell? w _ hx106_0)).trans hx106_0
            replace p106 := eq_true p106
            replace q106 := eq_true q106
            go_wp2_with (first | ((with_reducible refine gate_builtin (b := .append) (xs := #[.tmp 12, .tmp 18]) rfl ?_); at_builtin; refine Kd.R_append (Kd.int .i64) (w0 := w) w.heap.size rfl (.tmp 12) (.tmp 18) 22 2 (.int .i64 0) 8 rfl Try.underlying22 info2 rfl (by decide) (by omega) u3 x3_1 (wrap64 (-(rd l0 x4_1))) [.int .i64 (wrap64 (-(rd l0 x4_1)))] (fun _ => True) (fun _ => False) rfl rfl ?aP (fun _ hk => hk.elim) ?aF ?aO ?aB ?aS ?aL ?_; (case aP => exact rfl); (case aB => exact (by repeat (first | (with_reducible first | exact HB.out | apply below_alloc | apply pw_below_drewN | apply below_drew1) | exact HB.out))); (case aF => exact (fun _ _ => trivial)); (case aO => exact (by (with_reducible repeat (first | apply Kd.R_alloc | apply Kd.R_drewN | apply Kd.R_drew)); exact HO_3.out)); (case aS => exact (below_size (by repeat (first | (with_reducible first | exact HB.out | apply below_alloc | apply pw_below_drewN | apply below_drew1) | exact HB.out)))); (case aL => have := LMc6.out; omega); intro v108 w7 ho hb hg hat; rw [← Ny107.out] at ho; have n0_ := Aside0.mk (hb); have n1_ := Aside0.mk (ho); clear HB; clear HO_3; have HB := n0_; have HO109 := n1_; clear n0_ n1_; clear ho hb hg hat))
            go_roundg k1
            case measure => have := HK1.out; omega
            case rel => exact ⟨(y107), (wrap64 (x4_1 + 1)), (by first | rfl | (simp; done) | (simp [*]; done)), H', ⟨by have := HK1.out; omega⟩, ⟨by (with_reducible repeat (first | apply Kd.R_alloc | apply Kd.R_drewN | apply Kd.R_drew)); exact HO109.out⟩, ⟨by repeat (first | (with_reducible first | exact HB.out | apply below_alloc | apply pw_below_drewN | apply below_drew1) | exact HB.out)⟩⟩
          · rw [if_neg c6] at H
            exact absurd H (by simp)
        · rw [if_neg c5] at H
          exact absurd H (by simp)
      · rw [if_neg c4] at H
        have c4b0 : decide (x4_1 < (l0.length : Int)) = false := decide_eq_false c4
        clear c4
        obtain rfl := Option.some.inj H
        go_wp2
        go_ret
        exact ⟨_, by first | rfl | (simp [errW_none, errW_some] <;> rfl) | (simp [*, errW_none, errW_some] <;> rfl), by (with_reducible repeat (first | apply Kd.R_alloc | apply Kd.R_drewN | apply Kd.R_drew)); exact HO_3.out, by repeat (first | (with_reducible first | exact HB.out | apply below_alloc | apply pw_below_drewN | apply below_drew1) | exact HB.out)⟩

end Go.Proofs.Ytddhommmokdlnaa.P
end

section
namespace Go.Proofs.Ytddhommmokdlnaa.P
open Go.RowKit Go.Proofs.YtddhommmokdlnaaW.PrintWords Go.Proofs.YtddhommmokdlnaaW.PrintLast Go.Proofs.YtddhommmokdlnaaW.PrintMore
attribute [local go_sem] max2_int min2_int max_two min_two max_three min_three max_four min_four   -- for this text's walks alone
set_option linter.unusedVariables false
set_option linter.unusedSimpArgs false

/-! ### spec_l14Pattern: function 43 -/
def spec_l14Pattern.l0 : Nat → List Int → Int → Option (Bool)
  | 0, _, _ => none
  | k + 1, x0, x3 => if x3 < (x0.length : Int) then (if 0 ≤ x3 then ((spec_l00In.f (rd x0 x3) (-20) 20).bind fun t102 => (if t102 = true then (spec_l14Pattern.l0 k x0 (wrap64 (x3 + 1))) else (some false))) else (none)) else (if (x0.length : Int) ≥ 1 then (some (decide ((x0.length : Int) ≤ 8))) else (some false))
def spec_l14Pattern.f (k : Nat) (l0 : List Int) : Option (Bool) := spec_l14Pattern.l0 k l0 0
theorem spec_l14Pattern.mono_l : ∀ k, (∀ y0 y1, LeO (spec_l14Pattern.l0 k y0 y1) (spec_l14Pattern.l0 (k + 1) y0 y1))
  | 0 => fun _ _ r h => by simp [spec_l14Pattern.l0] at h
  | k + 1 => by
    have ih0 := spec_l14Pattern.mono_l k
    · intro y0 y1
      unfold spec_l14Pattern.l0
      repeat' first
      | (with_reducible exact ih0 _ _)
      | (with_reducible exact LeO.refl _)
      | (with_reducible exact LeO.none _)
      | (with_reducible refine LeO.ite ?_ ?_)
      | (with_reducible refine LeO.bind ?_ (fun _ => ?_))
      | exact ih0 _ _
      | exact LeO.none _
      | refine LeO.ite ?_ ?_
      | refine LeO.bind ?_ (fun _ => ?_)
theorem spec_l14Pattern.mono : ∀ a0 k, LeO (spec_l14Pattern.f k a0) (spec_l14Pattern.f (k + 1) a0) := by
  intro a0 k
  have ih0 := spec_l14Pattern.mono_l k
  unfold spec_l14Pattern.f
  repeat' first
      | (with_reducible exact ih0 _ _)
      | (with_reducible exact LeO.refl _)
      | (with_reducible exact LeO.none _)
      | (with_reducible refine LeO.ite ?_ ?_)
      | (with_reducible refine LeO.bind ?_ (fun _ => ?_))
      | exact ih0 _ _
      | exact LeO.none _
      | refine LeO.ite ?_ ?_
      | refine LeO.bind ?_ (fun _ => ?_)
set_option maxHeartbeats 8000000 in
set_option maxRecDepth 100000 in
theorem spec_l14Pattern.calls (k : Nat) (A0 : Option Addr) (c0 : Nat) (l0 : List Int) (r : Bool) (w : World) (hr0 : Kd.C (Kd.int .i64) w A0 l0.length l0) (hc0 : l0.length ≤ c0) (h : spec_l14Pattern.f k l0 = some r) :
    Calls Try.prog 43 #[.slice A0 l0.length c0] w fun e w' => e = .returned (.bool r) ∧ Drawn0 w w' := by
  have HR0 := Aside0.mk hr0
  have HC0 := Aside0.mk hc0
  clear hr0 hc0
  have H : (spec_l14Pattern.l0 k l0 0) = some r := h
  clear h
  have H' := Aside0.mk H
  clear H
  go_enter Try.func43, Try.ntmps43
  go_wp2
  go_loopg [3] k (fun kq v3 w' => ∃ (x3_1 : Int), v3 = .int .i64 x3_1 ∧ Aside0 (spec_l14Pattern.l0 kq l0 x3_1 = some r) ∧ Aside0 (kq ≤ k) ∧ Drawn0 w w')
  case atStart => exact ⟨(0), (by first | rfl | (simp; done) | (simp [*]; done)), H', ⟨Nat.le_refl _⟩, by repeat (first | exact Drawn0.refl _ | apply Drawn0.step)⟩
  case round =>
    clear H'
    obtain ⟨x3_1, rfl, HA, HK1, ⟨m1, rfl⟩⟩ := hrel
    cases gk with
    | zero => exact absurd HA.out (by simp [spec_l14Pattern.l0])
    | succ k1 =>
      have H := HA.out
      clear HA
      simp only [spec_l14Pattern.l0] at H
      by_cases c2 : x3_1 < (l0.length : Int)
      · rw [if_pos c2] at H
        have c2b0 : decide (x3_1 < (l0.length : Int)) = true := decide_eq_true c2
        clear c2
        by_cases c3 : 0 ≤ x3_1
        · rw [if_pos c3] at H
          have c3b0 : decide (0 ≤ x3_1) = true := decide_eq_true c3
          clear c3
          replace H := Option.bind_eq_some_iff.mp H
          obtain ⟨t102, A40, H⟩ := H
          replace H : (if t102 = true then (spec_l14Pattern.l0 k1 l0 (wrap64 (x3_1 + 1))) else (some false)) = some r := H
          have A4 := Aside0.mk A40
          clear A40
          by_cases c5 : t102 = true
          · subst c5
            have H1 : (spec_l14Pattern.l0 k1 l0 (wrap64 (x3_1 + 1))) = some r := by rw [if_pos rfl] at H; exact H
            clear H
            have H := H1
            clear H1
            have H' := Aside0.mk H
            clear H
            have p101 : 0 ≤ (x3_1 : Int) := of_decide_eq_true (by first | (with_reducible assumption) | assumption)
            have q101 : x3_1 < (l0.length : Int) := of_decide_eq_true (by first | (with_reducible assumption) | assumption)
            obtain ⟨ad101, e101, hx101_0⟩ := Kd.at_int HR0.out x3_1 p101 q101
            cases e101
            replace p101 := eq_true p101
            replace q101 := eq_true q101
            go_wp2_with (first | ((with_reducible refine gate_callee (f := 50) rfl ?_); refine goesL_ (some 14) rfl rfl Try.func50 (by kernel_rfl) rfl #[.int .i64 (rd l0 x3_1), .int .i64 (-20), .int .i64 20] rfl (by (try simp only [List.map_toArray, List.map_cons, List.map_nil]); first | done | rfl | (simp only [List.length_drop, List.length_take]; rfl)) ?_; (with_reducible refine (spec_l00In.calls (rd l0 x3_1) (-20) 20 true _ A4.out).mono ?_); rintro e w' ⟨rfl, ⟨nd, rfl⟩⟩; refine ⟨_, rfl, ?_⟩))
            go_roundg k1
            case measure => have := HK1.out; omega
            case rel => exact ⟨(wrap64 (x3_1 + 1)), (by first | rfl | (simp; done) | (simp [*]; done)), H', ⟨by have := HK1.out; omega⟩, by repeat (first | exact Drawn0.refl _ | apply Drawn0.step)⟩
          · replace c5 := Bool.eq_false_iff.mpr c5
            subst c5
            have H1 : (some false) = some r := by rw [if_neg (show ¬ (false = true) by decide)] at H; exact H
            clear H
            have H := H1
            clear H1
            obtain rfl := Option.some.inj H
            have p101 : 0 ≤ (x3_1 : Int) := of_decide_eq_true (by first | (with_reducible assumption) | assumption)
            have q101 : x3_1 < (l0.length : Int) := of_decide_eq_true (by first | (with_reducible assumption) | assumption)
            obtain ⟨ad101, e101, hx101_0⟩ := Kd.at_int HR0.out x3_1 p101 q101
            cases e101
            replace p101 := eq_true p101
            replace q101 := eq_true q101
            go_wp2_with (first | ((with_reducible refine gate_callee (f := 50) rfl ?_); refine goesL_ (some 14) rfl rfl Try.func50 (by kernel_rfl) rfl #[.int .i64 (rd l0 x3_1), .int .i64 (-20), .int .i64 20] rfl (by (try simp only [List.map_toArray, List.map_cons, List.map_nil]); first | done | rfl | (simp only [List.length_drop, List.length_take]; rfl)) ?_; (with_reducible refine (spec_l00In.calls (rd l0 x3_1) (-20) 20 false _ A4.out).mono ?_); rintro e w' ⟨rfl, ⟨nd, rfl⟩⟩; refine ⟨_, rfl, ?_⟩))
            go_ret
            exact ⟨by first | rfl | (simp; done) | (simp [*]; done), by repeat (first | exact Drawn0.refl _ | apply Drawn0.step)⟩
        · rw [if_neg c3] at H
          exact absurd H (by simp)
      · rw [if_neg c2] at H
        have c2b0 : decide (x3_1 < (l0.length : Int)) = false := decide_eq_false c2
        clear c2
        by_cases c6 : (l0.length : Int) ≥ 1
        · rw [if_pos c6] at H
          have c6b0 : decide (1 ≤ (l0.length : Int)) = true := decide_eq_true c6
          have c6b1 : decide (1 ≤ l0.length) = true := decide_eq_true (by omega)
          clear c6
          obtain rfl := Option.some.inj H
          go_wp2
          go_ret
          exact ⟨by first | rfl | (simp; done) | (simp [*]; done), by repeat (first | exact Drawn0.refl _ | apply Drawn0.step)⟩
        · rw [if_neg c6] at H
          have c6b0 : decide (1 ≤ (l0.length : Int)) = false := decide_eq_false c6
          have c6b1 : decide (1 ≤ l0.length) = false := decide_eq_false (by omega)
          clear c6
          obtain rfl := Option.some.inj H
          go_wp2
          go_ret
          exact ⟨by first | rfl | (simp; done) | (simp [*]; done), by repeat (first | exact Drawn0.refl _ | apply Drawn0.step)⟩

end Go.Proofs.Ytddhommmokdlnaa.P
end

section
namespace Go.Proofs.Ytddhommmokdlnaa.P
open Go.RowKit Go.Proofs.YtddhommmokdlnaaW.PrintWords Go.Proofs.YtddhommmokdlnaaW.PrintLast Go.Proofs.YtddhommmokdlnaaW.PrintMore
attribute [local go_sem] max2_int min2_int max_two min_two max_three min_three max_four min_four   -- for this text's walks alone
set_option linter.unusedVariables false
set_option linter.unusedSimpArgs false

/-! ### spec_UpAndDown: function 29 -/
mutual
def spec_UpAndDown.j0 : Nat → List Int → List Int → Int → Bool → Option (List Int × Int)
  | 0, _, _, _, _ => none
  | k + 1, x0, x1, x2, x19 => if x19 = true then (some (([] : List Int), 1)) else ((spec_l00In.f x2 0 30).bind fun t419 => (if t419 = true then (spec_UpAndDown.l0 k x0 x1 x2 (([] : List Int)) true 0) else (some (([] : List Int), 2))))
def spec_UpAndDown.j2 : Nat → List Int → List Int → Int → List Int → Bool → Option (List Int × Int)
  | 0, _, _, _, _, _ => none
  | k + 1, x0, x1, x2, x8, x9 => spec_UpAndDown.l1 k x0 x1 x8 x9 x2
def spec_UpAndDown.l1 : Nat → List Int → List Int → List Int → Bool → Int → Option (List Int × Int)
  | 0, _, _, _, _, _ => none
  | k + 1, x0, x1, x8, x9, x11 => if x11 ≥ 0 then (spec_UpAndDown.j4 k x0 x1 x8 x9 x11 x9) else (spec_UpAndDown.j4 k x0 x1 x8 x9 x11 false)
def spec_UpAndDown.j4 : Nat → List Int → List Int → List Int → Bool → Int → Bool → Option (List Int × Int)
  | 0, _, _, _, _, _, _ => none
  | k + 1, x0, x1, x8, x9, x11, x45 => if x45 = true then ((spec_l14Mirror.f k x1).bind fun t427 => ((spec_l14From.f k x8 x0 t427 x11).bind fun bt430 => (spec_UpAndDown.l1 k x0 x1 bt430.1 bt430.2 (wrap64 (x11 - 1))))) else ((spec_l14Done.f x8 x9).bind fun bt434 => (some (bt434.1, bt434.2)))
def spec_UpAndDown.l0 : Nat → List Int → List Int → Int → List Int → Bool → Int → Option (List Int × Int)
  | 0, _, _, _, _, _, _ => none
  | k + 1, x0, x1, x2, x8, x9, x10 => if x10 ≤ x2 then (if x9 = true then ((spec_l14From.f k x8 x0 x1 x10).bind fun bt423 => (spec_UpAndDown.l0 k x0 x1 x2 bt423.1 bt423.2 (wrap64 (x10 + 1)))) else (spec_UpAndDown.j2 k x0 x1 x2 x8 x9)) else (spec_UpAndDown.j2 k x0 x1 x2 x8 x9)
end
def spec_UpAndDown.f (k : Nat) (l0 : List Int) (l1 : List Int) (a2 : Int) : Option (List Int × Int) := (spec_l03Scale.f k l0).bind fun t417 => (if t417 = true then ((spec_l14Pattern.f k l1).bind fun t418 => (spec_UpAndDown.j0 k l0 l1 a2 (!t418))) else (spec_UpAndDown.j0 k l0 l1 a2 true))
theorem spec_UpAndDown.mono_l : ∀ k, (∀ y0 y1 y2 y3, LeO (spec_UpAndDown.j0 k y0 y1 y2 y3) (spec_UpAndDown.j0 (k + 1) y0 y1 y2 y3)) ∧ (∀ y0 y1 y2 y3 y4, LeO (spec_UpAndDown.j2 k y0 y1 y2 y3 y4) (spec_UpAndDown.j2 (k + 1) y0 y1 y2 y3 y4)) ∧ (∀ y0 y1 y2 y3 y4, LeO (spec_UpAndDown.l1 k y0 y1 y2 y3 y4) (spec_UpAndDown.l1 (k + 1) y0 y1 y2 y3 y4)) ∧ (∀ y0 y1 y2 y3 y4 y5, LeO (spec_UpAndDown.j4 k y0 y1 y2 y3 y4 y5) (spec_UpAndDown.j4 (k + 1) y0 y1 y2 y3 y4 y5)) ∧ (∀ y0 y1 y2 y3 y4 y5, LeO (spec_UpAndDown.l0 k y0 y1 y2 y3 y4 y5) (spec_UpAndDown.l0 (k + 1) y0 y1 y2 y3 y4 y5))
  | 0 => ⟨fun _ _ _ _ r h => by simp [spec_UpAndDown.j0] at h, fun _ _ _ _ _ r h => by simp [spec_UpAndDown.j2] at h, fun _ _ _ _ _ r h => by simp [spec_UpAndDown.l1] at h, fun _ _ _ _ _ _ r h => by simp [spec_UpAndDown.j4] at h, fun _ _ _ _ _ _ r h => by simp [spec_UpAndDown.l0] at h⟩
  | k + 1 => by
    obtain ⟨ih0, ih1, ih2, ih3, ih4⟩ := spec_UpAndDown.mono_l k
    refine ⟨?_, ?_, ?_, ?_, ?_⟩
    · intro y0 y1 y2 y3
      unfold spec_UpAndDown.j0
      repeat' first
      | (with_reducible exact ih0 _ _ _ _)
      | (with_reducible exact ih1 _ _ _ _ _)
      | (with_reducible exact ih2 _ _ _ _ _)
      | (with_reducible exact ih3 _ _ _ _ _ _)
      | (with_reducible exact ih4 _ _ _ _ _ _)
      | (with_reducible exact spec_l03Scale.mono _ _)
      | (with_reducible exact spec_l14From.mono _ _ _ _ _)
      | (with_reducible exact spec_l14Mirror.mono _ _)
      | (with_reducible exact spec_l14Pattern.mono _ _)
      | (with_reducible exact LeO.refl _)
      | (with_reducible exact LeO.none _)
      | (with_reducible refine LeO.ite ?_ ?_)
      | (with_reducible refine LeO.bind ?_ (fun _ => ?_))
      | exact ih0 _ _ _ _
      | exact ih1 _ _ _ _ _
      | exact ih2 _ _ _ _ _
      | exact ih3 _ _ _ _ _ _
      | exact ih4 _ _ _ _ _ _
      | exact spec_l03Scale.mono _ _
      | exact spec_l14From.mono _ _ _ _ _
      | exact spec_l14Mirror.mono _ _
      | exact spec_l14Pattern.mono _ _
      | exact LeO.none _
      | refine LeO.ite ?_ ?_
      | refine LeO.bind ?_ (fun _ => ?_)
    · intro y0 y1 y2 y3 y4
      unfold spec_UpAndDown.j2
      repeat' first
      | (with_reducible exact ih0 _ _ _ _)
      | (with_reducible exact ih1 _ _ _ _ _)
      | (with_reducible exact ih2 _ _ _ _ _)
      | (with_reducible exact ih3 _ _ _ _ _ _)
      | (with_reducible exact ih4 _ _ _ _ _ _)
      | (with_reducible exact spec_l03Scale.mono _ _)
      | (with_reducible exact spec_l14From.mono _ _ _ _ _)
      | (with_reducible exact spec_l14Mirror.mono _ _)
      | (with_reducible exact spec_l14Pattern.mono _ _)
      | (with_reducible exact LeO.refl _)
      | (with_reducible exact LeO.none _)
      | (with_reducible refine LeO.ite ?_ ?_)
      | (with_reducible refine LeO.bind ?_ (fun _ => ?_))
      | exact ih0 _ _ _ _
      | exact ih1 _ _ _ _ _
      | exact ih2 _ _ _ _ _
      | exact ih3 _ _ _ _ _ _
      | exact ih4 _ _ _ _ _ _
      | exact spec_l03Scale.mono _ _
      | exact spec_l14From.mono _ _ _ _ _
      | exact spec_l14Mirror.mono _ _
      | exact spec_l14Pattern.mono _ _
      | exact LeO.none _
      | refine LeO.ite ?_ ?_
      | refine LeO.bind ?_ (fun _ => ?_)
    · intro y0 y1 y2 y3 y4
      unfold spec_UpAndDown.l1
      repeat' first
      | (with_reducible exact ih0 _ _ _ _)
      | (with_reducible exact ih1 _ _ _ _ _)
      | (with_reducible exact ih2 _ _ _ _ _)
      | (with_reducible exact ih3 _ _ _ _ _ _)
      | (with_reducible exact ih4 _ _ _ _ _ _)
      | (with_reducible exact spec_l03Scale.mono _ _)
      | (with_reducible exact spec_l14From.mono _ _ _ _ _)
      | (with_reducible exact spec_l14Mirror.mono _ _)
      | (with_reducible exact spec_l14Pattern.mono _ _)
      | (with_reducible exact LeO.refl _)
      | (with_reducible exact LeO.none _)
      | (with_reducible refine LeO.ite ?_ ?_)
      | (with_reducible refine LeO.bind ?_ (fun _ => ?_))
      | exact ih0 _ _ _ _
      | exact ih1 _ _ _ _ _
      | exact ih2 _ _ _ _ _
      | exact ih3 _ _ _ _ _ _
      | exact ih4 _ _ _ _ _ _
      | exact spec_l03Scale.mono _ _
      | exact spec_l14From.mono _ _ _ _ _
      | exact spec_l14Mirror.mono _ _
      | exact spec_l14Pattern.mono _ _
      | exact LeO.none _
      | refine LeO.ite ?_ ?_
      | refine LeO.bind ?_ (fun _ => ?_)
    · intro y0 y1 y2 y3 y4 y5
      unfold spec_UpAndDown.j4
      repeat' first
      | (with_reducible exact ih0 _ _ _ _)
      | (with_reducible exact ih1 _ _ _ _ _)
      | (with_reducible exact ih2 _ _ _ _ _)
      | (with_reducible exact ih3 _ _ _ _ _ _)
      | (with_reducible exact ih4 _ _ _ _ _ _)
      | (with_reducible exact spec_l03Scale.mono _ _)
      | (with_reducible exact spec_l14From.mono _ _ _ _ _)
      | (with_reducible exact spec_l14Mirror.mono _ _)
      | (with_reducible exact spec_l14Pattern.mono _ _)
      | (with_reducible exact LeO.refl _)
      | (with_reducible exact LeO.none _)
      | (with_reducible refine LeO.ite ?_ ?_)
      | (with_reducible refine LeO.bind ?_ (fun _ => ?_))
      | exact ih0 _ _ _ _
      | exact ih1 _ _ _ _ _
      | exact ih2 _ _ _ _ _
      | exact ih3 _ _ _ _ _ _
      | exact ih4 _ _ _ _ _ _
      | exact spec_l03Scale.mono _ _
      | exact spec_l14From.mono _ _ _ _ _
      | exact spec_l14Mirror.mono _ _
      | exact spec_l14Pattern.mono _ _
      | exact LeO.none _
      | refine LeO.ite ?_ ?_
      | refine LeO.bind ?_ (fun _ => ?_)
    · intro y0 y1 y2 y3 y4 y5
      unfold spec_UpAndDown.l0
      repeat' first
      | (with_reducible exact ih0 _ _ _ _)
      | (with_reducible exact ih1 _ _ _ _ _)
      | (with_reducible exact ih2 _ _ _ _ _)
      | (with_reducible exact ih3 _ _ _ _ _ _)
      | (with_reducible exact ih4 _ _ _ _ _ _)
      | (with_reducible exact spec_l03Scale.mono _ _)
      | (with_reducible exact spec_l14From.mono _ _ _ _ _)
      | (with_reducible exact spec_l14Mirror.mono _ _)
      | (with_reducible exact spec_l14Pattern.mono _ _)
      | (with_reducible exact LeO.refl _)
      | (with_reducible exact LeO.none _)
      | (with_reducible refine LeO.ite ?_ ?_)
      | (with_reducible refine LeO.bind ?_ (fun _ => ?_))
      | exact ih0 _ _ _ _
      | exact ih1 _ _ _ _ _
      | exact ih2 _ _ _ _ _
      | exact ih3 _ _ _ _ _ _
      | exact ih4 _ _ _ _ _ _
      | exact spec_l03Scale.mono _ _
      | exact spec_l14From.mono _ _ _ _ _
      | exact spec_l14Mirror.mono _ _
      | exact spec_l14Pattern.mono _ _
      | exact LeO.none _
      | refine LeO.ite ?_ ?_
      | refine LeO.bind ?_ (fun _ => ?_)
theorem spec_UpAndDown.mono : ∀ a0 a1 a2 k, LeO (spec_UpAndDown.f k a0 a1 a2) (spec_UpAndDown.f (k + 1) a0 a1 a2) := by
  intro a0 a1 a2 k
  obtain ⟨ih0, ih1, ih2, ih3, ih4⟩ := spec_UpAndDown.mono_l k
  unfold spec_UpAndDown.f
  repeat' first
      | (with_reducible exact ih0 _ _ _ _)
      | (with_reducible exact ih1 _ _ _ _ _)
      | (with_reducible exact ih2 _ _ _ _ _)
      | (with_reducible exact ih3 _ _ _ _ _ _)
      | (with_reducible exact ih4 _ _ _ _ _ _)
      | (with_reducible exact spec_l03Scale.mono _ _)
      | (with_reducible exact spec_l14From.mono _ _ _ _ _)
      | (with_reducible exact spec_l14Mirror.mono _ _)
      | (with_reducible exact spec_l14Pattern.mono _ _)
      | (with_reducible exact LeO.refl _)
      | (with_reducible exact LeO.none _)
      | (with_reducible refine LeO.ite ?_ ?_)
      | (with_reducible refine LeO.bind ?_ (fun _ => ?_))
      | exact ih0 _ _ _ _
      | exact ih1 _ _ _ _ _
      | exact ih2 _ _ _ _ _
      | exact ih3 _ _ _ _ _ _
      | exact ih4 _ _ _ _ _ _
      | exact spec_l03Scale.mono _ _
      | exact spec_l14From.mono _ _ _ _ _
      | exact spec_l14Mirror.mono _ _
      | exact spec_l14Pattern.mono _ _
      | exact LeO.none _
      | refine LeO.ite ?_ ?_
      | refine LeO.bind ?_ (fun _ => ?_)
set_option maxHeartbeats 8000000 in
set_option maxRecDepth 100000 in
theorem spec_UpAndDown.calls (k : Nat) (A0 : Option Addr) (c0 : Nat) (l0 : List Int) (A1 : Option Addr) (c1 : Nat) (l1 : List Int) (a2 : Int) (r1 : List Int) (r2 : Int) (w : World) (hr0 : Kd.C (Kd.int .i64) w A0 l0.length l0) (hc0 : l0.length ≤ c0) (hr1 : Kd.C (Kd.int .i64) w A1 l1.length l1) (hc1 : l1.length ≤ c1) (h : spec_UpAndDown.f k l0 l1 a2 = some (r1, r2)) :
    Calls Try.prog 29 #[.slice A0 l0.length c0, .slice A1 l1.length c1, .int .i64 a2] w fun e w' => ∃ v0_ : Value, e = .returned (.tuple #[v0_, .int .i64 r2]) ∧ Kd.R (Kd.int .i64) 2 w' w.heap.size (fun _ => True) v0_ r1 ∧ Below w.heap.size w w' := by
  have HR0 := Aside0.mk hr0
  have HC0 := Aside0.mk hc0
  clear hr0 hc0
  have HR1 := Aside0.mk hr1
  have HC1 := Aside0.mk hc1
  clear hr1 hc1
  have HB := Aside0.mk (Below.refl w.heap.size w)
  have H : ((spec_l03Scale.f k l0).bind fun t417 => (if t417 = true then ((spec_l14Pattern.f k l1).bind fun t418 => (spec_UpAndDown.j0 k l0 l1 a2 (!t418))) else (spec_UpAndDown.j0 k l0 l1 a2 true))) = some (r1, r2) := h
  clear h
  have HC4 := Aside0.mk H
  clear H
  go_enter Try.func29, Try.ntmps29
  go_upto_region 1 with (fail)
  go_cut [19] (fun v19 wc => ∃ (kq : Nat) (x19_3 : Bool), v19 = .bool x19_3 ∧ Aside0 (spec_UpAndDown.j0 kq l0 l1 a2 x19_3 = some (r1, r2)) ∧ Aside0 (kq ≤ k) ∧ Aside0 (Below w.heap.size w wc))
  case first =>
    have H := HC4.out
    clear HC4
    replace H := Option.bind_eq_some_iff.mp H
    obtain ⟨t417, A50, H⟩ := H
    replace H : (if t417 = true then ((spec_l14Pattern.f k l1).bind fun t418 => (spec_UpAndDown.j0 k l0 l1 a2 (!t418))) else (spec_UpAndDown.j0 k l0 l1 a2 true)) = some (r1, r2) := H
    have A5 := Aside0.mk A50
    clear A50
    by_cases c6 : t417 = true
    · subst c6
      have H1 : ((spec_l14Pattern.f k l1).bind fun t418 => (spec_UpAndDown.j0 k l0 l1 a2 (!t418))) = some (r1, r2) := by rw [if_pos rfl] at H; exact H
      clear H
      have H := H1
      clear H1
      replace H := Option.bind_eq_some_iff.mp H
      obtain ⟨t418, A70, H⟩ := H
      replace H : (spec_UpAndDown.j0 k l0 l1 a2 (!t418)) = some (r1, r2) := H
      have A7 := Aside0.mk A70
      clear A70
      have H' := Aside0.mk H
      clear H
      go_wp2_with (first | ((with_reducible refine gate_callee (f := 59) rfl ?_); refine goesL_ (some 13) rfl rfl Try.func59 (by kernel_rfl) rfl #[.slice A0 l0.length c0] rfl (by (try simp only [List.map_toArray, List.map_cons, List.map_nil]); first | done | rfl | (simp only [List.length_drop, List.length_take]; rfl)) ?_; (with_reducible refine (spec_l03Scale.calls k _ _ l0 true _ ?side1 ?side2 A5.out).mono ?_); (case side1 => repeat (first | exact (Kd.C_below HR0.out HB.out) | (with_reducible refine Kd.C_alloc ?_ _) | (with_reducible refine Kd.C_drewN ?_ _) | (with_reducible refine Kd.C_drew ?_))); (case side2 => exact HC0.out); rintro e w' ⟨rfl, ⟨nd, rfl⟩⟩; refine ⟨_, rfl, ?_⟩) | (go_at_call 43; (with_reducible refine (spec_l14Pattern.calls k _ _ l1 t418 _ ?side1 ?side2 A7.out).mono ?_); (case side1 => repeat (first | exact (Kd.C_below HR1.out (by repeat (first | (with_reducible first | exact HB.out | apply below_alloc | apply pw_below_drewN | apply below_drew1) | exact HB.out))) | (with_reducible refine Kd.C_alloc ?_ _) | (with_reducible refine Kd.C_drewN ?_ _) | (with_reducible refine Kd.C_drew ?_))); (case side2 => exact HC1.out); rintro e w' ⟨rfl, ⟨nd, rfl⟩⟩))
      go_meet
      case rel => exact ⟨_, (!t418), (by first | rfl | (simp; done) | (simp [*]; done)), H', ⟨by first | omega | exact Nat.le_refl _⟩, ⟨by repeat (first | (with_reducible first | exact HB.out | apply below_alloc | apply pw_below_drewN | apply below_drew1) | exact HB.out)⟩⟩
    · replace c6 := Bool.eq_false_iff.mpr c6
      subst c6
      have H1 : (spec_UpAndDown.j0 k l0 l1 a2 true) = some (r1, r2) := by rw [if_neg (show ¬ (false = true) by decide)] at H; exact H
      clear H
      have H := H1
      clear H1
      have H' := Aside0.mk H
      clear H
      go_wp2_with (first | ((with_reducible refine gate_callee (f := 59) rfl ?_); refine goesL_ (some 13) rfl rfl Try.func59 (by kernel_rfl) rfl #[.slice A0 l0.length c0] rfl (by (try simp only [List.map_toArray, List.map_cons, List.map_nil]); first | done | rfl | (simp only [List.length_drop, List.length_take]; rfl)) ?_; (with_reducible refine (spec_l03Scale.calls k _ _ l0 false _ ?side1 ?side2 A5.out).mono ?_); (case side1 => repeat (first | exact (Kd.C_below HR0.out HB.out) | (with_reducible refine Kd.C_alloc ?_ _) | (with_reducible refine Kd.C_drewN ?_ _) | (with_reducible refine Kd.C_drew ?_))); (case side2 => exact HC0.out); rintro e w' ⟨rfl, ⟨nd, rfl⟩⟩; refine ⟨_, rfl, ?_⟩))
      go_meet
      case rel => exact ⟨_, (true), (by first | rfl | (simp; done) | (simp [*]; done)), H', ⟨by first | omega | exact Nat.le_refl _⟩, ⟨by repeat (first | (with_reducible first | exact HB.out | apply below_alloc | apply pw_below_drewN | apply below_drew1) | exact HB.out)⟩⟩
  case rest =>
    clear HC4
    try clear c1
    try clear c2
    try clear p2
    try clear c5
    try clear c6
    obtain ⟨kq, x19_3, rfl, HA, HJ3, HB⟩ := hcut
    cases kq with
    | zero => exact absurd HA.out (by simp [spec_UpAndDown.j0])
    | succ kj3 =>
      have H := HA.out
      clear HA
      simp only [spec_UpAndDown.j0] at H
      by_cases c8 : x19_3 = true
      · subst c8
        have H1 : (some (([] : List Int), 1)) = some (r1, r2) := by rw [if_pos rfl] at H; exact H
        clear H
        have H := H1
        clear H1
        simp only [Option.some.injEq, Prod.mk.injEq] at H
        obtain ⟨rfl, rfl⟩ := H
        go_wp2
        go_ret2
        exact ⟨_, by first | rfl | (simp [errW_none, errW_some] <;> rfl) | (simp [*, errW_none, errW_some] <;> rfl), by first | exact Kd.R_nil _ _ _ _ _ | exact Kd.N_nil _ _ _ _ _ | exact Kd.V_nil _ _ _ _ _ | exact Kd.Q_nil _ _ _ _ _ | exact Kd.S_nil _ _ _ _ _, by repeat (first | (with_reducible first | exact HB.out | apply below_alloc | apply pw_below_drewN | apply below_drew1) | exact HB.out)⟩
      · replace c8 := Bool.eq_false_iff.mpr c8
        subst c8
        have H1 : ((spec_l00In.f a2 0 30).bind fun t419 => (if t419 = true then (spec_UpAndDown.l0 kj3 l0 l1 a2 (([] : List Int)) true 0) else (some (([] : List Int), 2)))) = some (r1, r2) := by rw [if_neg (show ¬ (false = true) by decide)] at H; exact H
        clear H
        have H := H1
        clear H1
        replace H := Option.bind_eq_some_iff.mp H
        obtain ⟨t419, A90, H⟩ := H
        replace H : (if t419 = true then (spec_UpAndDown.l0 kj3 l0 l1 a2 (([] : List Int)) true 0) else (some (([] : List Int), 2))) = some (r1, r2) := H
        have A9 := Aside0.mk A90
        clear A90
        by_cases c10 : t419 = true
        · subst c10
          have H1 : (spec_UpAndDown.l0 kj3 l0 l1 a2 (([] : List Int)) true 0) = some (r1, r2) := by rw [if_pos rfl] at H; exact H
          clear H
          have H := H1
          clear H1
          obtain ⟨y420, hy420⟩ : ∃ y_ : List Int, y_ = (([] : List Int)) := ⟨_, rfl⟩
          replace H : (spec_UpAndDown.l0 kj3 l0 l1 a2 y420 true 0) = some (r1, r2) := by first | (rw [hy420]; with_reducible exact H) | (have H2_ := (Option.bind_some _ _).symm.trans H; rw [hy420]; with_reducible exact H2_) | (have H2_ := (Option.bind_some _ _).symm.trans H; with_reducible exact H2_) | with_reducible exact H | (rw [hy420]; exact H) | exact H
          have Ny420 := Aside0.mk hy420
          clear hy420
          have HC11 := Aside0.mk H
          clear H
          go_upto_block 0 with (first | ((with_reducible refine gate_callee (f := 50) rfl ?_); refine goesL_ (some 21) rfl rfl Try.func50 (by kernel_rfl) rfl #[.int .i64 a2, .int .i64 0, .int .i64 30] rfl (by (try simp only [List.map_toArray, List.map_cons, List.map_nil]); first | done | rfl | (simp only [List.length_drop, List.length_take]; rfl)) ?_; (with_reducible refine (spec_l00In.calls a2 0 30 true _ A9.out).mono ?_); rintro e w' ⟨rfl, ⟨nd, rfl⟩⟩; refine ⟨_, rfl, ?_⟩) | ((with_reducible refine gate_dst (N := 23) rfl ?_); refine Kd.R_lit (Kd.int .i64) _ 2 ?hg (N := 23) ?hd (xs := ([] : List Int)) (inner := []) (ok := fun _ => True) (okp := fun _ => True) ?hr ?hp (fun _ hk => hk) trivial (Below.refl _ _) (Nat.le_refl _) (by simp) ?_; (case hd => rfl); (case hg => rfl); (case hr => first | (go_simp; done) | (go_simp; rfl)); (case hp => exact (Reps.none _ _)); intro v421 w12 ho13 hb hg_ hnew_; clear hg_ hnew_; (first | rw [← Ny420.out] at ho13 | (simp only [Int.reduceToNat] at ho13; rw [← Ny420.out] at ho13)); have n0_ := Aside0.mk (Kd.R_lower ho13 (below_size (by repeat (first | (with_reducible first | exact HB.out | apply below_alloc | apply pw_below_drewN | apply below_drew1) | exact HB.out)))); have n1_ := Aside0.mk (below_step (by repeat (first | (with_reducible first | exact HB.out | apply below_alloc | apply pw_below_drewN | apply below_drew1) | exact HB.out)) hb); clear HB; have HO422 := n0_; have HB := n1_; clear n0_ n1_; clear hb ho13))
          (try simp only [Act.put, List.setIfInBounds_toArray, List.set_cons_zero, List.set_cons_succ])
          go_cut [8, 9] (fun v8 v9 wc => ∃ (kq : Nat) (x8_10 : List Int) (x9_10 : Bool), v9 = .bool x9_10 ∧ Aside0 (spec_UpAndDown.j2 kq l0 l1 a2 x8_10 x9_10 = some (r1, r2)) ∧ Aside0 (kq ≤ kj3) ∧ Aside0 (Kd.R (Kd.int .i64) 2 wc w.heap.size (fun _ => True) v8 x8_10) ∧ Aside0 (Below w.heap.size w wc))
          case first =>
            have H := HC11.out
            clear HC11
            have H' := Aside0.mk H
            clear H
            go_wp2
            go_loopg [8, 9, 10] kj3 (fun kq v8 v9 v10 w' => ∃ (x8_2 : List Int) (x9_2 : Bool) (x10_2 : Int), v9 = .bool x9_2 ∧ v10 = .int .i64 x10_2 ∧ Aside0 (spec_UpAndDown.l0 kq l0 l1 a2 x8_2 x9_2 x10_2 = some (r1, r2)) ∧ Aside0 (kq ≤ kj3) ∧ Aside0 (Kd.R (Kd.int .i64) 2 w' w.heap.size (fun _ => True) v8 x8_2) ∧ Aside0 (Below w.heap.size w w'))
            case atStart => exact ⟨(y420), (true), (0), (by first | rfl | (simp; done) | (simp [*]; done)), (by first | rfl | (simp; done) | (simp [*]; done)), H', ⟨Nat.le_refl _⟩, ⟨by (with_reducible repeat (first | apply Kd.R_alloc | apply Kd.R_drewN | apply Kd.R_drew)); exact HO422.out⟩, ⟨by repeat (first | (with_reducible first | exact HB.out | apply below_alloc | apply pw_below_drewN | apply below_drew1) | exact HB.out)⟩⟩
            case round =>
              clear H'
              try clear c1
              try clear c2
              try clear p2
              try clear c5
              try clear c6
              try clear c8
              try clear c10
              try clear p2
              obtain ⟨x8_2, x9_2, x10_2, rfl, rfl, HA, HK2, HO_8, HB⟩ := hrel
              cases gk with
              | zero => exact absurd HA.out (by simp [spec_UpAndDown.l0])
              | succ k2 =>
                have H := HA.out
                clear HA
                simp only [spec_UpAndDown.l0] at H
                by_cases c14 : x10_2 ≤ a2
                · rw [if_pos c14] at H
                  have c14b0 : decide (x10_2 ≤ a2) = true := decide_eq_true c14
                  clear c14
                  (first | rw [c14b0] | (simp only [i64_w, i32_w]; rw [c14b0]) | skip)
                  by_cases c15 : x9_2 = true
                  · subst c15
                    have H1 : ((spec_l14From.f k2 x8_2 l0 l1 x10_2).bind fun bt423 => (spec_UpAndDown.l0 k2 l0 l1 a2 bt423.1 bt423.2 (wrap64 (x10_2 + 1)))) = some (r1, r2) := by rw [if_pos rfl] at H; exact H
                    clear H
                    have H := H1
                    clear H1
                    replace H := Option.bind_eq_some_iff.mp H
                    obtain ⟨⟨t423, t426⟩, A160, H⟩ := H
                    replace H : (spec_UpAndDown.l0 k2 l0 l1 a2 t423 t426 (wrap64 (x10_2 + 1))) = some (r1, r2) := H
                    have A16 := Aside0.mk A160
                    clear A160
                    have H' := Aside0.mk H
                    clear H
                    obtain ⟨Ao17, co17, eo17⟩ := Kd.R_slice HO_8.out
                    subst eo17
                    go_wp2_with (first | ((with_reducible refine gate_callee (f := 60) rfl ?_); refine goesL_ (some 37) rfl rfl Try.func60 (by kernel_rfl) rfl #[.slice Ao17 x8_2.length co17, .slice A0 l0.length c0, .slice A1 l1.length c1, .int .i64 x10_2] rfl (by (try simp only [List.map_toArray, List.map_cons, List.map_nil]); first | done | rfl | (simp only [List.length_drop, List.length_take]; rfl)) ?_; (with_reducible refine (spec_l14From.calls k2 (fun k_ => some k_ = (.slice Ao17 x8_2.length co17 : Value).ownBlock) (.slice Ao17 x8_2.length co17) x8_2 _ _ l0 _ _ l1 x10_2 t423 t426 w _ ?side1 ?side2 ?side3 ?side4 ?side5 ?side6 A16.out).mono ?_); (case side1 => repeat (first | (with_reducible first | exact HB.out | apply below_alloc | apply pw_below_drewN | apply below_drew1) | exact HB.out)); (case side2 => exact Kd.R_tight rfl HO_8.out); (case side3 => exact Kd.C_kept_came (Kd.heap_int .i64) HR0.out (by repeat (first | (with_reducible first | exact HB.out | apply below_alloc | apply pw_below_drewN | apply below_drew1) | exact HB.out)) (fun k_ hs_ => (fun e_ => Kd.R_base HO_8.out k_ e_.symm) hs_)); (case side4 => exact HC0.out); (case side5 => exact Kd.C_kept_came (Kd.heap_int .i64) HR1.out (by repeat (first | (with_reducible first | exact HB.out | apply below_alloc | apply pw_below_drewN | apply below_drew1) | exact HB.out)) (fun k_ hs_ => (fun e_ => Kd.R_base HO_8.out k_ e_.symm) hs_)); (case side6 => exact HC1.out); rintro e w18 ⟨v424, rfl, ho0, hb, hkp⟩; refine ⟨_, rfl, ?_⟩; have n0_ := Aside0.mk (Kd.R_mono (ok' := fun k_ => True) ho0 (fun k_ hk_ => trivial)); have n1_ := Aside0.mk (hb); clear HB; clear HO_8; have HO425 := n0_; have HB := n1_; clear n0_ n1_; (try clear hb); (try clear hkp); (try clear ho0)))
                    go_roundg k2
                    case measure => have := HJ3.out; have := HK2.out; omega
                    case rel => exact ⟨(t423), (t426), (wrap64 (x10_2 + 1)), (by first | rfl | (simp; done) | (simp [*]; done)), (by first | rfl | (simp; done) | (simp [*]; done)), H', ⟨by have := HJ3.out; have := HK2.out; omega⟩, ⟨by (with_reducible repeat (first | apply Kd.R_alloc | apply Kd.R_drewN | apply Kd.R_drew)); exact HO425.out⟩, ⟨by repeat (first | (with_reducible first | exact HB.out | apply below_alloc | apply pw_below_drewN | apply below_drew1) | exact HB.out)⟩⟩
                  · replace c15 := Bool.eq_false_iff.mpr c15
                    subst c15
                    have H1 : (spec_UpAndDown.j2 k2 l0 l1 a2 x8_2 false) = some (r1, r2) := by rw [if_neg (show ¬ (false = true) by decide)] at H; exact H
                    clear H
                    have H := H1
                    clear H1
                    have H' := Aside0.mk H
                    clear H
                    go_wp2
                    go_meet
                    case rel => exact ⟨_, (x8_2), (false), (by first | rfl | (simp; done) | (simp [*]; done)), H', ⟨by have := HJ3.out; have := HK2.out; first | omega | exact Nat.le_refl _⟩, ⟨by (with_reducible repeat (first | apply Kd.R_alloc | apply Kd.R_drewN | apply Kd.R_drew)); exact HO_8.out⟩, ⟨by repeat (first | (with_reducible first | exact HB.out | apply below_alloc | apply pw_below_drewN | apply below_drew1) | exact HB.out)⟩⟩
                · rw [if_neg c14] at H
                  have c14b0 : decide (x10_2 ≤ a2) = false := decide_eq_false c14
                  clear c14
                  (first | rw [c14b0] | (simp only [i64_w, i32_w]; rw [c14b0]) | skip)
                  have H' := Aside0.mk H
                  clear H
                  go_wp2
                  go_meet
                  case rel => exact ⟨_, (x8_2), (x9_2), (by first | rfl | (simp; done) | (simp [*]; done)), H', ⟨by have := HJ3.out; have := HK2.out; first | omega | exact Nat.le_refl _⟩, ⟨by (with_reducible repeat (first | apply Kd.R_alloc | apply Kd.R_drewN | apply Kd.R_drew)); exact HO_8.out⟩, ⟨by repeat (first | (with_reducible first | exact HB.out | apply below_alloc | apply pw_below_drewN | apply below_drew1) | exact HB.out)⟩⟩
          case rest =>
            clear HC11
            try clear c1
            try clear c2
            try clear p2
            try clear c5
            try clear c6
            try clear p6
            try clear c8
            try clear c10
            try clear c14
            try clear c14b0
            try clear c15
            try clear p2
            obtain ⟨kq, x8_10, x9_10, rfl, HA, HJ10, HO_8, HB⟩ := hcut
            cases kq with
            | zero => exact absurd HA.out (by simp [spec_UpAndDown.j2])
            | succ kj10 =>
              have H := HA.out
              clear HA
              simp only [spec_UpAndDown.j2] at H
              have H' := Aside0.mk H
              clear H
              go_wp2
              go_loopg [8, 9, 11] kj10 (fun kq v8 v9 v11 w' => ∃ (x8_3 : List Int) (x9_3 : Bool) (x11_3 : Int), v9 = .bool x9_3 ∧ v11 = .int .i64 x11_3 ∧ Aside0 (spec_UpAndDown.l1 kq l0 l1 x8_3 x9_3 x11_3 = some (r1, r2)) ∧ Aside0 (kq ≤ kj10) ∧ Aside0 (Kd.R (Kd.int .i64) 2 w' w.heap.size (fun _ => True) v8 x8_3) ∧ Aside0 (Below w.heap.size w w'))
              case atStart => exact ⟨(x8_10), (x9_10), (a2), (by first | rfl | (simp; done) | (simp [*]; done)), (by first | rfl | (simp; done) | (simp [*]; done)), H', ⟨Nat.le_refl _⟩, ⟨by (with_reducible repeat (first | apply Kd.R_alloc | apply Kd.R_drewN | apply Kd.R_drew)); exact HO_8.out⟩, ⟨by repeat (first | (with_reducible first | exact HB.out | apply below_alloc | apply pw_below_drewN | apply below_drew1) | exact HB.out)⟩⟩
              case round =>
                clear H'
                try clear c1
                try clear c2
                try clear p2
                try clear c5
                try clear c6
                try clear p6
                try clear c8
                try clear c10
                try clear c14
                try clear c14b0
                try clear c15
                try clear p2
                try clear p6
                obtain ⟨x8_3, x9_3, x11_3, rfl, rfl, HA, HK3, HO_8, HB⟩ := hrel
                cases gk with
                | zero => exact absurd HA.out (by simp [spec_UpAndDown.l1])
                | succ k3 =>
                  have H := HA.out
                  clear HA
                  simp only [spec_UpAndDown.l1] at H
                  have HC19 := Aside0.mk H
                  clear H
                  go_upto_region 12 with (fail)
                  go_cut [45] (fun v45 wc => ∃ (kq : Nat) (x45_18 : Bool), v45 = .bool x45_18 ∧ Aside0 (spec_UpAndDown.j4 kq l0 l1 x8_3 x9_3 x11_3 x45_18 = some (r1, r2)) ∧ Aside0 (kq ≤ k3) ∧ Aside0 (Kd.R (Kd.int .i64) 2 wc w.heap.size (fun _ => True) u8 x8_3) ∧ Aside0 (Below w.heap.size w wc))
                  case first =>
                    have H := HC19.out
                    clear HC19
                    by_cases c20 : x11_3 ≥ 0
                    · rw [if_pos c20] at H
                      have c20b0 : decide (0 ≤ x11_3) = true := decide_eq_true c20
                      clear c20
                      (first | rw [c20b0] | (simp only [i64_w, i32_w]; rw [c20b0]) | skip)
                      have H' := Aside0.mk H
                      clear H
                      go_wp2
                      go_meet
                      case rel => exact ⟨_, (x9_3), (by first | rfl | (simp; done) | (simp [*]; done)), H', ⟨by have := HJ3.out; have := HJ10.out; have := HK3.out; first | omega | exact Nat.le_refl _⟩, ⟨by (with_reducible repeat (first | apply Kd.R_alloc | apply Kd.R_drewN | apply Kd.R_drew)); exact HO_8.out⟩, ⟨by repeat (first | (with_reducible first | exact HB.out | apply below_alloc | apply pw_below_drewN | apply below_drew1) | exact HB.out)⟩⟩
                    · rw [if_neg c20] at H
                      have c20b0 : decide (0 ≤ x11_3) = false := decide_eq_false c20
                      clear c20
                      (first | rw [c20b0] | (simp only [i64_w, i32_w]; rw [c20b0]) | skip)
                      have H' := Aside0.mk H
                      clear H
                      go_wp2
                      go_meet
                      case rel => exact ⟨_, (false), (by first | rfl | (simp; done) | (simp [*]; done)), H', ⟨by have := HJ3.out; have := HJ10.out; have := HK3.out; first | omega | exact Nat.le_refl _⟩, ⟨by (with_reducible repeat (first | apply Kd.R_alloc | apply Kd.R_drewN | apply Kd.R_drew)); exact HO_8.out⟩, ⟨by repeat (first | (with_reducible first | exact HB.out | apply below_alloc | apply pw_below_drewN | apply below_drew1) | exact HB.out)⟩⟩
                  case rest =>
                    clear HC19
                    try clear c1
                    try clear c2
                    try clear p2
                    try clear c5
                    try clear c6
                    try clear p6
                    try clear c8
                    try clear c10
                    try clear c14
                    try clear c14b0
                    try clear c15
                    try clear c20
                    try clear c20b0
                    try clear p2
                    try clear p6
                    obtain ⟨kq, x45_18, rfl, HA, HJ18, HO_8, HB⟩ := hcut
                    cases kq with
                    | zero => exact absurd HA.out (by simp [spec_UpAndDown.j4])
                    | succ kj18 =>
                      have H := HA.out
                      clear HA
                      simp only [spec_UpAndDown.j4] at H
                      by_cases c21 : x45_18 = true
                      · subst c21
                        have H1 : ((spec_l14Mirror.f kj18 l1).bind fun t427 => ((spec_l14From.f kj18 x8_3 l0 t427 x11_3).bind fun bt430 => (spec_UpAndDown.l1 kj18 l0 l1 bt430.1 bt430.2 (wrap64 (x11_3 - 1))))) = some (r1, r2) := by rw [if_pos rfl] at H; exact H
                        clear H
                        have H := H1
                        clear H1
                        replace H := Option.bind_eq_some_iff.mp H
                        obtain ⟨t427, A220, H⟩ := H
                        replace H : ((spec_l14From.f kj18 x8_3 l0 t427 x11_3).bind fun bt430 => (spec_UpAndDown.l1 kj18 l0 l1 bt430.1 bt430.2 (wrap64 (x11_3 - 1)))) = some (r1, r2) := H
                        have A22 := Aside0.mk A220
                        clear A220
                        replace H := Option.bind_eq_some_iff.mp H
                        obtain ⟨⟨t430, t433⟩, A230, H⟩ := H
                        replace H : (spec_UpAndDown.l1 kj18 l0 l1 t430 t433 (wrap64 (x11_3 - 1))) = some (r1, r2) := H
                        have A23 := Aside0.mk A230
                        clear A230
                        have H' := Aside0.mk H
                        clear H
                        go_wp2_with (first | ((with_reducible refine gate_callee (f := 44) rfl ?_); refine goesL_ (some 52) rfl rfl Try.func44 (by kernel_rfl) rfl #[.slice A1 l1.length c1] rfl (by (try simp only [List.map_toArray, List.map_cons, List.map_nil]); first | done | rfl | (simp only [List.length_drop, List.length_take]; rfl)) ?_; (with_reducible refine (spec_l14Mirror.calls kj18 _ _ l1 t427 _ ?side1 ?side2 A22.out).mono ?_); (case side1 => repeat (first | exact (Kd.C_below HR1.out HB.out) | (with_reducible refine Kd.C_alloc ?_ _) | (with_reducible refine Kd.C_drewN ?_ _) | (with_reducible refine Kd.C_drew ?_))); (case side2 => exact HC1.out); rintro e w24 ⟨v428, rfl, ho0, hb⟩; refine ⟨_, rfl, ?_⟩; have n0_ := Aside0.mk (Kd.R_elder' (by (with_reducible repeat (first | apply Kd.R_alloc | apply Kd.R_drewN | apply Kd.R_drew)); exact HO_8.out) (Kd.R_base ho0) hb); have n1_ := Aside0.mk (Kd.R_lower (Kd.R_new' ho0 (Kd.R_lt (by (with_reducible repeat (first | apply Kd.R_alloc | apply Kd.R_drewN | apply Kd.R_drew)); exact HO_8.out))) (below_size (by repeat (first | (with_reducible first | exact HB.out | apply below_alloc | apply pw_below_drewN | apply below_drew1) | exact HB.out)))); have n2_ := Aside0.mk (below_step (by repeat (first | (with_reducible first | exact HB.out | apply below_alloc | apply pw_below_drewN | apply below_drew1) | exact HB.out)) hb); clear HO_8; clear HB; have HO_8 := n0_; have HO429 := n1_; have HB := n2_; clear n0_ n1_ n2_; (try clear hb); (try clear hb2); (try clear hk); (try clear hi); (try clear ho0); obtain ⟨Ao25, co25, eo25⟩ := Kd.R_slice HO_8.out; subst eo25; obtain ⟨Ao26, co26, eo26⟩ := Kd.R_slice HO429.out; subst eo26) | ((with_reducible refine gate_callee (f := 60) rfl ?_); refine goesL_ (some 54) rfl rfl Try.func60 (by kernel_rfl) rfl #[.slice Ao25 x8_3.length co25, .slice A0 l0.length c0, .slice Ao26 t427.length co26, .int .i64 x11_3] rfl (by (try simp only [List.map_toArray, List.map_cons, List.map_nil]); first | done | rfl | (simp only [List.length_drop, List.length_take]; rfl)) ?_; (with_reducible refine (spec_l14From.calls kj18 (fun k_ => some k_ = (.slice Ao25 x8_3.length co25 : Value).ownBlock) (.slice Ao25 x8_3.length co25) x8_3 _ _ l0 _ _ t427 x11_3 t430 t433 w _ ?side1 ?side2 ?side3 ?side4 ?side5 ?side6 A23.out).mono ?_); (case side1 => repeat (first | (with_reducible first | exact HB.out | apply below_alloc | apply pw_below_drewN | apply below_drew1) | exact HB.out)); (case side2 => exact Kd.R_tight rfl HO_8.out); (case side3 => exact Kd.C_kept_came (Kd.heap_int .i64) HR0.out (by repeat (first | (with_reducible first | exact HB.out | apply below_alloc | apply pw_below_drewN | apply below_drew1) | exact HB.out)) (fun k_ hs_ => (fun e_ => Kd.R_base HO_8.out k_ e_.symm) hs_)); (case side4 => exact HC0.out); (case side5 => exact Kd.C_kept_own (HO429.out) (fun k_ hk_ hs_ => (hk_.2) hs_)); (case side6 => exact (Kd.R_reads' HO429.out).2.1); rintro e w27 ⟨v431, rfl, ho0, hb, hkp⟩; refine ⟨_, rfl, ?_⟩; have n0_ := Aside0.mk (Kd.R_mono (ok' := fun k_ => some k_ ≠ (v431 : Value).ownBlock) (Kd.R_keptB (HO429.out) hkp (fun k_ hk_ hs_ => (hk_.2) hs_)) (fun k_ hk_ => fun e_ => Or.elim (ho0.1 k_ e_.symm) (fun hs_ => hk_.2.1 hs_) (fun hn_ => Nat.not_le.2 hk_.2.2 hn_))); have n1_ := Aside0.mk (Kd.R_mono (ok' := fun k_ => some k_ ≠ (.slice Ao26 t427.length co26 : Value).ownBlock) ho0 (fun k_ hk_ => Or.elim hk_ (fun hs_ => fun e_ => (((HO429.out).1 k_ e_.symm).2) hs_) (fun hn_ => (Kd.fresh' (Kd.R_lt (by (with_reducible repeat (first | apply Kd.R_alloc | apply Kd.R_drewN | apply Kd.R_drew)); exact HO429.out)) k_ hn_)))); have n2_ := Aside0.mk (hb); clear HO429; clear HB; clear HO_8; have HO429 := n0_; have HO432 := n1_; have HB := n2_; clear n0_ n1_ n2_; (try clear hb); (try clear hkp); (try clear ho0)))
                        go_roundg kj18
                        case measure => have := HJ3.out; have := HJ10.out; have := HK3.out; have := HJ18.out; omega
                        case rel => exact ⟨(t430), (t433), (wrap64 (x11_3 - 1)), (by first | rfl | (simp; done) | (simp [*]; done)), (by first | rfl | (simp; done) | (simp [*]; done)), H', ⟨by have := HJ3.out; have := HJ10.out; have := HK3.out; have := HJ18.out; omega⟩, ⟨by (with_reducible repeat (first | apply Kd.R_alloc | apply Kd.R_drewN | apply Kd.R_drew)); exact Kd.R_mono HO432.out (fun _ hk => trivial)⟩, ⟨by repeat (first | (with_reducible first | exact HB.out | apply below_alloc | apply pw_below_drewN | apply below_drew1) | exact HB.out)⟩⟩
                      · replace c21 := Bool.eq_false_iff.mpr c21
                        subst c21
                        have H1 : ((spec_l14Done.f x8_3 x9_3).bind fun bt434 => (some (bt434.1, bt434.2))) = some (r1, r2) := by rw [if_neg (show ¬ (false = true) by decide)] at H; exact H
                        clear H
                        have H := H1
                        clear H1
                        replace H := Option.bind_eq_some_iff.mp H
                        obtain ⟨⟨t434, t437⟩, A280, H⟩ := H
                        replace H : (some (t434, t437)) = some (r1, r2) := H
                        have A28 := Aside0.mk A280
                        clear A280
                        simp only [Option.some.injEq, Prod.mk.injEq] at H
                        obtain ⟨rfl, rfl⟩ := H
                        obtain ⟨Ao29, co29, eo29⟩ := Kd.R_slice HO_8.out
                        subst eo29
                        go_wp2_with (first | ((with_reducible refine gate_callee (f := 61) rfl ?_); refine goesL_ (some 59) rfl rfl Try.func61 (by kernel_rfl) rfl #[.slice Ao29 x8_3.length co29, .bool x9_3] rfl (by (try simp only [List.map_toArray, List.map_cons, List.map_nil]); first | done | rfl | (simp only [List.length_drop, List.length_take]; rfl)) ?_; (with_reducible refine (spec_l14Done.calls (fun k_ => some k_ = (.slice Ao29 x8_3.length co29 : Value).ownBlock) (.slice Ao29 x8_3.length co29) x8_3 x9_3 t434 t437 w _ ?side1 ?side2 A28.out).mono ?_); (case side1 => repeat (first | (with_reducible first | exact HB.out | apply below_alloc | apply pw_below_drewN | apply below_drew1) | exact HB.out)); (case side2 => exact Kd.R_tight rfl HO_8.out); rintro e w30 ⟨v435, rfl, ho0, hb, hkp⟩; refine ⟨_, rfl, ?_⟩; have n0_ := Aside0.mk (Kd.R_mono (ok' := fun k_ => True) ho0 (fun k_ hk_ => trivial)); have n1_ := Aside0.mk (hb); clear HB; clear HO_8; have HO436 := n0_; have HB := n1_; clear n0_ n1_; (try clear hb); (try clear hkp); (try clear ho0)))
                        go_ret2
                        exact ⟨_, by first | rfl | (simp [errW_none, errW_some] <;> rfl) | (simp [*, errW_none, errW_some] <;> rfl), by (with_reducible repeat (first | apply Kd.R_alloc | apply Kd.R_drewN | apply Kd.R_drew)); exact HO436.out, by repeat (first | (with_reducible first | exact HB.out | apply below_alloc | apply pw_below_drewN | apply below_drew1) | exact HB.out)⟩
        · replace c10 := Bool.eq_false_iff.mpr c10
          subst c10
          have H1 : (some (([] : List Int), 2)) = some (r1, r2) := by rw [if_neg (show ¬ (false = true) by decide)] at H; exact H
          clear H
          have H := H1
          clear H1
          simp only [Option.some.injEq, Prod.mk.injEq] at H
          obtain ⟨rfl, rfl⟩ := H
          go_wp2_with (first | ((with_reducible refine gate_callee (f := 50) rfl ?_); refine goesL_ (some 21) rfl rfl Try.func50 (by kernel_rfl) rfl #[.int .i64 a2, .int .i64 0, .int .i64 30] rfl (by (try simp only [List.map_toArray, List.map_cons, List.map_nil]); first | done | rfl | (simp only [List.length_drop, List.length_take]; rfl)) ?_; (with_reducible refine (spec_l00In.calls a2 0 30 false _ A9.out).mono ?_); rintro e w' ⟨rfl, ⟨nd, rfl⟩⟩; refine ⟨_, rfl, ?_⟩))
          go_ret2
          exact ⟨_, by first | rfl | (simp [errW_none, errW_some] <;> rfl) | (simp [*, errW_none, errW_some] <;> rfl), by first | exact Kd.R_nil _ _ _ _ _ | exact Kd.N_nil _ _ _ _ _ | exact Kd.V_nil _ _ _ _ _ | exact Kd.Q_nil _ _ _ _ _ | exact Kd.S_nil _ _ _ _ _, by repeat (first | (with_reducible first | exact HB.out | apply below_alloc | apply pw_below_drewN | apply below_drew1) | exact HB.out)⟩

end Go.Proofs.Ytddhommmokdlnaa.P
end

section
/- How the arguments of this seat's laws read, as the kinds of the printed words: an argument that the row reads has the cells of its kind, and its numbers, texts and lengths are in bounds. No condition. -/
namespace Go.Proofs.Ytddhommmokdlnaa.P
open Go.RowKit Go.ChangeShapes Go.WideShapes Go.Proofs.YtddhommmokdlnaaW.PrintWords Go.Proofs.YtddhommmokdlnaaW.PrintLast
set_option linter.unusedVariables false

section
variable {H : Type} {enc : TypeId × Value → H} {P : Program} {w : World} {held : Bool}

theorem list_choose {α : Type} (p : Nat → α → Prop) : ∀ n, (∀ i, i < n → ∃ y, p i y) → ∃ ys : List α, ys.length = n ∧ ∀ (i : Nat) (y : α), ys[i]? = some y → p i y := by
  intro n
  induction n with
  | zero => exact fun _ => ⟨[], rfl, fun i y h => by simp at h⟩
  | succ n ih =>
    intro h
    obtain ⟨ys, hl, hp⟩ := ih (fun i hi => h i (by omega))
    obtain ⟨z, hz⟩ := h n (by omega)
    refine ⟨ys ++ [z], by simp [hl], fun i y hy => ?_⟩
    rcases Nat.lt_or_ge i ys.length with hi | hi
    · rw [List.getElem?_append_left hi] at hy
      exact hp i y hy
    · rw [List.getElem?_append_right hi] at hy
      have h0 : i - ys.length = 0 := by
        rcases Nat.eq_zero_or_pos (i - ys.length) with h1 | h1
        · exact h1
        · rw [List.getElem?_eq_none (by simp; omega)] at hy
          cases hy
      rw [h0] at hy
      simp only [List.getElem?_cons_zero, Option.some.injEq] at hy
      subst hy
      have : i = n := by omega
      subst this
      exact hz

theorem len_cons {n : Nat} {cs : List Value} (h : cs.length = n + 1) : ∃ c t, cs = c :: t ∧ t.length = n := by
  cases cs with
  | nil => simp at h
  | cons c t => exact ⟨c, t, rfl, by simpa using h⟩

theorem opn_int {t : TypeId} {k : IntKind} (ht : P.underlying t = some (.int k)) {fuel : Nat} {cs : List Value} {x : DataW H × List MemPlace} (h : DataW.trod enc P w 0 (fun _ => true) held fuel t cs = some x) :
    ∃ y : Int, (Kd.int k).K w y cs ∧ (Lit.int k y).wf = true := by
  obtain ⟨n, hcs, _, hw⟩ := DataW.trod_int ht h
  exact ⟨n, hcs, hw⟩

theorem opn_bool {t : TypeId} (ht : P.underlying t = some .bool) {fuel : Nat} {cs : List Value} {x : DataW H × List MemPlace} (h : DataW.trod enc P w 0 (fun _ => true) held fuel t cs = some x) :
    ∃ y : Bool, Kd.bool.K w y cs ∧ True := by
  obtain ⟨b, hcs, _⟩ := DataW.trod_bool ht h
  exact ⟨b, hcs, trivial⟩

theorem opn_string {t : TypeId} (ht : P.underlying t = some .string) {fuel : Nat} {cs : List Value} {x : DataW H × List MemPlace} (h : DataW.trod enc P w 0 (fun _ => true) held fuel t cs = some x) :
    ∃ y : ByteArray, Kd.string.K w y cs ∧ y.size ≤ maxLen := by
  obtain ⟨s, hcs, _, hs⟩ := DataW.trod_string ht h
  exact ⟨s, hcs, hs⟩

theorem opn_slice {α : Type} (d : Kd α) (ok : α → Prop) {t e : TypeId} (ht : P.underlying t = some (.slice e)) (ce : P.cellsOf e = d.sz)
    (hE : ∀ {fuel : Nat} {cs : List Value} {x : DataW H × List MemPlace}, DataW.trod enc P w 0 (fun _ => true) held fuel e cs = some x → ∃ y : α, d.K w y cs ∧ ok y)
    {fuel : Nat} {cs : List Value} {x : DataW H × List MemPlace} (h : DataW.trod enc P w 0 (fun _ => true) held fuel t cs = some x) :
    ∃ ys : List α, (Kd.slice e d).K w ys cs ∧ ys.length ≤ maxLen ∧ ∀ y ∈ ys, ok y := by
  rcases Go.Deep.open_slice ht h with ⟨rfl, _⟩ | ⟨a, len, cap, m, n, D, Pl, rfl, hb, hl, hm, hmm, rfl, hx⟩
  · exact ⟨[], ⟨none, 0, rfl, Nat.le_refl _, rfl, by simp, fun h => absurd h (Nat.lt_irrefl 0)⟩, Nat.zero_le _, by simp⟩
  · simp only [if_true] at hmm
    subst hmm
    obtain ⟨ys, hyl, hy⟩ := list_choose (fun i (y : α) => (∃ cs', w.cells? 0 (a.add (i * P.cellsOf e)) (P.cellsOf e) = some cs' ∧ d.K w y cs') ∧ ok y) len (fun i hi => by
      obtain ⟨cs', h1, h2⟩ := hx i (by omega)
      obtain ⟨y, hk, ho⟩ := hE h2
      exact ⟨y, ⟨cs', h1, hk⟩, ho⟩)
    subst hyl
    refine ⟨ys, ⟨some a, m, rfl, hl, rfl, Nat.le_trans hl (by unfold maxLen at hm; exact hm), fun _ => ⟨a, rfl, fun j p hp => ?_⟩⟩, Nat.le_trans hl hm, fun y hmem => ?_⟩
    · obtain ⟨⟨cs', h1, hk⟩, _⟩ := hy j p hp
      obtain ⟨_, hlen, hcell⟩ := World.cells?_some h1
      rw [ce] at hlen hcell
      refine ⟨cs', hlen, hk, fun i u hu => ?_⟩
      have hi : i < d.sz := by
        rw [← hlen]
        exact (List.getElem?_eq_some_iff.1 hu).1
      have := hcell i hi
      rw [Go.Deep.add_add] at this
      rw [this, hu]
    · obtain ⟨i, hi⟩ := List.getElem?_of_mem hmem
      exact (hy i y hi).2
end
theorem opn_L22 {H : Type} {enc : TypeId × Value → H} {w : World} {held : Bool} {fuel : Nat} {cs : List Value} {x : DataW H × List MemPlace} (h : DataW.trod enc Try.prog w 0 (fun _ => true) held fuel 22 cs = some x) :
    ∃ y : List Int, (Kd.slice 2 (Kd.int .i64)).K w y cs ∧ y.length ≤ maxLen ∧ ∀ y0 ∈ y, (Lit.int .i64 y0).wf = true :=
  opn_slice (Kd.int .i64) (fun y0 => (Lit.int .i64 y0).wf = true) Try.underlying22 (show Try.prog.cellsOf 2 = _ by kernel_rfl) (fun h => (opn_int Try.underlying2) h) h
end Go.Proofs.Ytddhommmokdlnaa.P
end

section
/- Plain words on what holds from some number of rounds on. No program in them. -/
namespace Go.Proofs.Ytddhommmokdlnaa.P
open Go.RowKit Go.Proofs.Ytddhommmokdlnaa.P Go.Proofs.YtddhommmokdlnaaW.PrintWords Go.Proofs.YtddhommmokdlnaaW.PrintLast Go.Proofs.YtddhommmokdlnaaW.PrintMore
set_option linter.unusedVariables false
set_option linter.unusedSimpArgs false

theorem Ev.succ {α : Type} {g : Nat → Option α} {r : α} (h : Ev (fun k => g (k + 1)) r) : Ev g r := Ev.step (f := fun k => g (k + 1)) (fun _ => rfl) h
theorem Ev.ite_pos {α : Type} {c : Prop} [Decidable c] {f g : Nat → Option α} {r : α} (hc : c) (h : Ev f r) : Ev (fun k => if c then f k else g k) r := Ev.congr (fun _ => if_pos hc) h
theorem Ev.ite_neg {α : Type} {c : Prop} [Decidable c] {f g : Nat → Option α} {r : α} (hc : ¬ c) (h : Ev g r) : Ev (fun k => if c then f k else g k) r := Ev.congr (fun _ => if_neg hc) h
theorem Ev.bindc {α β : Type} {o : Option α} {f : Nat → α → Option β} {a : α} {r : β} (ho : o = some a) (h : Ev (fun k => f k a) r) : Ev (fun k => o.bind (f k)) r := Ev.congr (fun _ => by rw [ho]; rfl) h
theorem Ev.konst {α : Type} {o : Option α} {r : α} (h : o = some r) : Ev (fun _ => o) r := ⟨0, fun _ _ => h⟩
theorem Ev.both {α : Type} {g : Nat → Option α} {r q : α} (h : Ev g r) (h' : Ev g q) : r = q := by
  obtain ⟨a, ha⟩ := h
  obtain ⟨b, hb⟩ := h'
  have h1 := ha (max a b) (Nat.le_max_left _ _)
  have h2 := hb (max a b) (Nat.le_max_right _ _)
  rw [h1] at h2
  exact Option.some.inj h2
theorem Ev.cast {α : Type} {g : Nat → Option α} {r q : α} (h : Ev g r) (e : r = q) : Ev g q := e ▸ h
theorem Ev.out {α : Type} {g : Nat → Option α} {r : α} (h : Ev g r) : ∃ k, g k = some r := h.rounds

/-- A sum, a difference that needs no wrap. -/
theorem w64 {x : Int} (h0 : -9223372036854775808 ≤ x) (h1 : x ≤ 9223372036854775807) : wrap64 x = x := by unfold wrap64; omega
theorem mn_eq (a b : Int) : mn a b = min a b := by unfold mn; split <;> omega
theorem mx_eq (a b : Int) : mx a b = max a b := by unfold mx; split <;> omega
theorem wf64 {x : Int} (h : (Lit.int .i64 x).wf = true) : -9223372036854775808 ≤ x ∧ x ≤ 9223372036854775807 := by
  simp [Lit.wf, IntKind.min, IntKind.max, IntKind.signed, IntKind.bits] at h
  omega

end Go.Proofs.Ytddhommmokdlnaa.P
end

section
/- What the laws' own helpers tell of lists of whole numbers: a copy, equality, marks. Plain Lean over the printed functions. -/
namespace Go.Proofs.Ytddhommmokdlnaa.P
open Go.RowKit Go.Proofs.Ytddhommmokdlnaa.P Go.Proofs.YtddhommmokdlnaaW.PrintWords Go.Proofs.YtddhommmokdlnaaW.PrintLast Go.Proofs.YtddhommmokdlnaaW.PrintMore
set_option linter.unusedVariables false
set_option linter.unusedSimpArgs false

theorem set_at {l : List Int} {i : Nat} {v : Int} {m : List Int} (h : i < l.length) (e : l.take i = m) : (l.set i v).take (i + 1) = m ++ [v] := by
  rw [List.take_succ_eq_append_getElem (by simpa using h)]
  simp [List.take_set_of_le, e]
theorem rd_at {l : List Int} {i : Nat} (h : i < l.length) : rd l (i : Int) = l[i] := by simp [rd, h]

theorem toInt64S_l0 (l : List Int) (hl : l.length ≤ 9223372036854775807) : ∀ (d i : Nat) (m : List Int), l.length - i = d → i ≤ l.length → m.length = l.length → m.take i = l.take i → Ev (fun k => laws_toInt64S.l0 k l m i) l := by
  intro d
  induction d with
  | zero =>
    intro i m hd hi hm ht
    have : i = l.length := by omega
    subst this
    refine Ev.succ ?_
    simp only [laws_toInt64S.l0]
    refine Ev.ite_neg (by omega) ?_
    rw [List.take_of_length_le (by omega), List.take_of_length_le (Nat.le_refl _)] at ht
    rw [ht]
    exact Ev.now _
  | succ d ih =>
    intro i m hd hi hm ht
    refine Ev.succ ?_
    simp only [laws_toInt64S.l0]
    refine Ev.ite_pos (by omega) ?_
    refine Ev.ite_pos (by omega) ?_
    refine Ev.ite_pos (by omega) ?_
    rw [w64 (x := (i : Int) + 1) (by omega) (by omega), rd_at (show i < l.length by omega), Int.toNat_natCast]
    have := ih (i + 1) (m.set i l[i]) (by omega) (by omega) (by simpa using hm) (by
      rw [set_at (by omega) ht, ← List.take_succ_eq_append_getElem (by omega)])
    simpa using this
theorem toInt64S_ev (l : List Int) (h : l.length ≤ 35184372088832) : Ev (fun k => laws_toInt64S.f k l) l := by
  unfold laws_toInt64S.f
  refine Ev.ite_pos (by omega) ?_
  refine Ev.ite_pos (by omega) ?_
  exact toInt64S_l0 l (by omega) l.length 0 _ (by omega) (by omega) (by simp) (by simp)

theorem eqInt64S_l0 (a b : List Int) (hl : a.length ≤ 9223372036854775807) (hab : a.length = b.length) : ∀ (d i : Nat), a.length - i = d → i ≤ a.length → a.take i = b.take i → Ev (fun k => laws_eqInt64S.l0 k a b i) (decide (a = b)) := by
  intro d
  induction d with
  | zero =>
    intro i hd hi ht
    refine Ev.succ ?_
    simp only [laws_eqInt64S.l0]
    refine Ev.ite_neg (by omega) ?_
    rw [List.take_of_length_le (by omega), List.take_of_length_le (by omega)] at ht
    simpa [ht] using Ev.now true
  | succ d ih =>
    intro i hd hi ht
    refine Ev.succ ?_
    simp only [laws_eqInt64S.l0]
    refine Ev.ite_pos (by omega) ?_
    refine Ev.ite_pos (by omega) ?_
    refine Ev.ite_pos (by omega) ?_
    by_cases he : rd a i = rd b i
    · refine Ev.ite_pos he ?_
      rw [w64 (x := (i : Int) + 1) (by omega) (by omega)]
      rw [rd_at (show i < a.length by omega), rd_at (show i < b.length by omega)] at he
      have := ih (i + 1) (by omega) (by omega) (by
        rw [List.take_succ_eq_append_getElem (by omega), List.take_succ_eq_append_getElem (by omega), ht, he])
      simpa using this
    · refine Ev.ite_neg he ?_
      have : ¬ a = b := fun e => he (by rw [e])
      simpa [this] using Ev.now false
theorem eqInt64S_ev (a b : List Int) (hl : a.length ≤ 9223372036854775807) : Ev (fun k => laws_eqInt64S.f k a b) (decide (a = b)) := by
  unfold laws_eqInt64S.f
  by_cases h : a.length = b.length
  · refine Ev.ite_pos (by omega) ?_
    exact eqInt64S_l0 a b hl h a.length 0 (by omega) (by omega) (by simp)
  · refine Ev.ite_neg (by omega) ?_
    have : ¬ a = b := fun e => h (by rw [e])
    simpa [this] using Ev.now false
theorem eqInt64S_self (a : List Int) (hl : a.length ≤ 9223372036854775807) : Ev (fun k => laws_eqInt64S.f k a a) true := by simpa using eqInt64S_ev a a hl

/-- The marks from v on: n of them. -/
def marks : Nat → Int → List Int
  | 0, _ => []
  | n + 1, v => v :: marks n (v + 1)
theorem marks_length : ∀ n v, (marks n v).length = n
  | 0, _ => rfl
  | n + 1, v => by simp [marks, marks_length n]
theorem marks_get : ∀ n v i, i < n → (marks n v)[i]? = some (v + i)
  | 0, _, i, h => by omega
  | n + 1, v, 0, _ => by simp [marks]
  | n + 1, v, i + 1, h => by
    simp only [marks, List.getElem?_cons_succ]
    rw [marks_get n (v + 1) i (by omega)]
    congr 1
    omega
theorem markInt64S_l0 (n : Nat) (v : Int) (hn : n ≤ 4611686018427387904) (h0 : 0 ≤ v) (hv : v ≤ 4611686018427387903) : ∀ (d i : Nat) (l : List Int), n - i = d → i ≤ n → l.length = n → (∀ j, j < i → l[j]? = some (v + j)) →
    Ev (fun k => laws_markInt64S.l0 k l (v + i) i) (v + n, marks n v) := by
  intro d
  induction d with
  | zero =>
    intro i l hd hi hl hj
    have : i = n := by omega
    subst this
    refine Ev.succ ?_
    simp only [laws_markInt64S.l0]
    refine Ev.ite_neg (by omega) ?_
    have : l = marks i v := by
      refine List.ext_getElem? fun j => ?_
      rcases Nat.lt_or_ge j i with h | h
      · rw [hj j h, marks_get i v j h]
      · rw [List.getElem?_eq_none (by omega), List.getElem?_eq_none (by rw [marks_length]; omega)]
    rw [this]
    exact Ev.now _
  | succ d ih =>
    intro i l hd hi hl hj
    refine Ev.succ ?_
    simp only [laws_markInt64S.l0]
    refine Ev.ite_pos (by omega) ?_
    refine Ev.ite_pos (by omega) ?_
    rw [w64 (x := (i : Int) + 1) (by omega) (by omega), w64 (x := v + (i : Int) + 1) (by omega) (by omega), Int.toNat_natCast]
    have := ih (i + 1) (l.set i (v + i)) (by omega) (by omega) (by simpa using hl) (fun j hj' => by
      rcases Nat.lt_or_ge j i with h | h
      · rw [List.getElem?_set_ne (by omega), hj j h]
      · have : j = i := by omega
        subst this
        rw [List.getElem?_set_self (by omega)])
    simpa [Int.add_assoc] using this
theorem markInt64S_ev (l : List Int) (v : Int) (hn : l.length ≤ 4611686018427387904) (h0 : 0 ≤ v) (hv : v ≤ 4611686018427387903) : Ev (fun k => laws_markInt64S.f k l v) (v + l.length, marks l.length v) := by
  unfold laws_markInt64S.f
  have := markInt64S_l0 l.length v hn h0 hv l.length 0 l (by omega) (by omega) rfl (fun j hj => by omega)
  simpa using this
theorem heldInt64S_l0 (n : Nat) (v : Int) (hn : n ≤ 4611686018427387904) (h0 : 0 ≤ v) (hv : v ≤ 4611686018427387903) : ∀ (d i : Nat), n - i = d → i ≤ n →
    Ev (fun k => laws_heldInt64S.l0 k (marks n v) (v + i) i) (v + n) := by
  intro d
  induction d with
  | zero =>
    intro i hd hi
    have : i = n := by omega
    subst this
    refine Ev.succ ?_
    simp only [laws_heldInt64S.l0]
    refine Ev.ite_neg (by rw [marks_length]; omega) ?_
    exact Ev.now _
  | succ d ih =>
    intro i hd hi
    refine Ev.succ ?_
    simp only [laws_heldInt64S.l0]
    refine Ev.ite_pos (by rw [marks_length]; omega) ?_
    refine Ev.ite_pos (by omega) ?_
    refine Ev.ite_pos (by
      have h := marks_get n v i (by omega)
      simp only [rd, Int.toNat_natCast, List.getD_eq_getElem?_getD, h, Option.getD_some]) ?_
    rw [w64 (x := (i : Int) + 1) (by omega) (by omega), w64 (x := v + (i : Int) + 1) (by omega) (by omega)]
    have := ih (i + 1) (by omega) (by omega)
    simpa [Int.add_assoc] using this
theorem heldInt64S_ev (n : Nat) (v : Int) (hn : n ≤ 4611686018427387904) (h0 : 0 ≤ v) (hv : v ≤ 4611686018427387903) : Ev (fun k => laws_heldInt64S.f k (marks n v) v) (v + n) := by
  unfold laws_heldInt64S.f
  have := heldInt64S_l0 n v hn h0 hv n 0 (by omega) (by omega)
  simpa using this

end Go.Proofs.Ytddhommmokdlnaa.P
end

section
/- A copy of a list: the library. Plain Lean. -/
namespace Go.Proofs.Ytddhommmokdlnaa.P
open Go.RowKit Go.Proofs.Ytddhommmokdlnaa.P Go.Proofs.YtddhommmokdlnaaW.PrintWords Go.Proofs.YtddhommmokdlnaaW.PrintLast Go.Proofs.YtddhommmokdlnaaW.PrintMore
set_option linter.unusedVariables false
set_option linter.unusedSimpArgs false

theorem slices_Clone_eq (l : List Int) (h : l.length < 17592186044416) : slices_Clone_int64_int64.f l = some l := by
  unfold slices_Clone_int64_int64.f
  simp only [Option.bind_some, List.nil_append, List.length_nil, Nat.zero_add]
  rw [if_pos h]

end Go.Proofs.Ytddhommmokdlnaa.P
end

section
/- A list that is turned in its place. Plain Lean. -/
namespace Go.Proofs.Ytddhommmokdlnaa.P
open Go.RowKit Go.Proofs.Ytddhommmokdlnaa.P Go.Proofs.YtddhommmokdlnaaW.PrintWords Go.Proofs.YtddhommmokdlnaaW.PrintLast Go.Proofs.YtddhommmokdlnaaW.PrintMore
set_option linter.unusedVariables false
set_option linter.unusedSimpArgs false

theorem rd_set_ne {m : List Int} {i j : Nat} {v : Int} (h : i ≠ j) : rd (m.set i v) (j : Int) = rd m (j : Int) := by
  simp only [rd, Int.toNat_natCast, List.getD_eq_getElem?_getD]
  rw [List.getElem?_set_ne h]
theorem patR {l : List Int} {q : Int → Bool} (h : l.all q = true) {i : Nat} (hi : i < l.length) : q (rd l i) = true := by
  rw [rd_at hi]
  exact List.all_eq_true.1 h _ (List.getElem_mem _)
def patB (l : List Int) : Bool := (l.all fun n => decide (-20 ≤ n) && decide (n ≤ 20)) && (decide (1 ≤ l.length) && decide (l.length ≤ 8))
theorem patB_rd {l : List Int} (h : patB l = true) : 1 ≤ l.length ∧ l.length ≤ 8 ∧ ∀ i : Nat, i < l.length → -20 ≤ rd l i ∧ rd l i ≤ 20 := by
  simp only [patB, Bool.and_eq_true, decide_eq_true_eq] at h
  refine ⟨h.2.1, h.2.2, fun i hi => ?_⟩
  simpa using patR h.1 hi

end Go.Proofs.Ytddhommmokdlnaa.P
end

section
/- A pattern from a degree on: the program. Plain Lean. -/
namespace Go.Proofs.Ytddhommmokdlnaa.P
open Go.RowKit Go.Proofs.Ytddhommmokdlnaa.P Go.Proofs.YtddhommmokdlnaaW.PrintWords Go.Proofs.YtddhommmokdlnaaW.PrintLast Go.Proofs.YtddhommmokdlnaaW.PrintMore
set_option linter.unusedVariables false
set_option linter.unusedSimpArgs false

theorem impl_from_l0 (l : List Int) (e : Int) (he : -1000 ≤ e ∧ e ≤ 1000) (hl : l.length ≤ 1048576) (hb : ∀ i : Nat, i < l.length → -1000000000 ≤ rd l i ∧ rd l i ≤ 1000000000) : ∀ (d i : Nat) (m : List Int), l.length - i = d → i ≤ l.length → m.length = l.length → m.take i = (l.map fun n => n + e).take i → (∀ j : Nat, i ≤ j → rd m j = rd l j) → Ev (fun k => impl_from.l0 k e m (l.length : Int) i) (l.map fun n => n + e) := by
  intro d
  induction d with
  | zero =>
    intro i m hd hi hm ht hr
    have : i = l.length := by omega
    subst this
    refine Ev.succ ?_
    simp only [impl_from.l0]
    refine Ev.ite_neg (by omega) ?_
    rw [List.take_of_length_le (by omega), List.take_of_length_le (by simp)] at ht
    rw [ht]
    exact Ev.now _
  | succ d ih =>
    intro i m hd hi hm ht hr
    have hq := hb i (by omega)
    refine Ev.succ ?_
    simp only [impl_from.l0]
    refine Ev.ite_pos (by omega) (Ev.ite_pos (by omega) (Ev.ite_pos (by omega) ?_))
    rw [hr i (Nat.le_refl _), w64 (x := (i : Int) + 1) (by omega) (by omega), w64 (x := rd l i + e) (by omega) (by omega), Int.toNat_natCast]
    have := ih (i + 1) (m.set i (rd l i + e)) (by omega) (by omega) (by simpa using hm) (by
      rw [set_at (by omega) ht, List.take_succ_eq_append_getElem (by simpa using (by omega : i < l.length))]
      simp [rd_at (show i < l.length by omega)]) (fun j hj => by rw [rd_set_ne (by omega), hr j (by omega)])
    simpa using this
theorem impl_from_ev (l : List Int) (e : Int) (he : -1000 ≤ e ∧ e ≤ 1000) (hl : l.length ≤ 1048576) (hb : ∀ i : Nat, i < l.length → -1000000000 ≤ rd l i ∧ rd l i ≤ 1000000000) : Ev (fun k => impl_from.f k l e) (l.map fun n => n + e) := by
  unfold impl_from.f
  refine Ev.bindc (slices_Clone_eq l (by omega)) ?_
  simpa using impl_from_l0 l e he hl hb l.length 0 l (by omega) (by omega) rfl (by simp) (fun j _ => rfl)

end Go.Proofs.Ytddhommmokdlnaa.P
end

section
/- Patterns: the program. Plain Lean. -/
namespace Go.Proofs.Ytddhommmokdlnaa.P
open Go.RowKit Go.Proofs.Ytddhommmokdlnaa.P Go.Proofs.YtddhommmokdlnaaW.PrintWords Go.Proofs.YtddhommmokdlnaaW.PrintLast Go.Proofs.YtddhommmokdlnaaW.PrintMore
set_option linter.unusedVariables false
set_option linter.unusedSimpArgs false

theorem impl_patternOk_eq (l : List Int) : impl_patternOk.f l = some (patB l) := by
  unfold impl_patternOk.f patB
  by_cases h : (l.length : Int) ≥ 1
  · rw [if_pos h]
    by_cases g : (l.length : Int) ≤ 8
    · rw [if_pos g]
      have h' : 1 ≤ l.length := by omega
      have g' : l.length ≤ 8 := by omega
      simp [impl_allWithin.f, h', g']
    · rw [if_neg g]
      have g' : ¬ l.length ≤ 8 := by omega
      simp [g']
  · rw [if_neg h]
    have h' : ¬ 1 ≤ l.length := by omega
    simp [h']
theorem impl_mirrored_l0 (l : List Int) (hl : l.length ≤ 1048576) (hb : ∀ i : Nat, i < l.length → -1000 ≤ rd l i ∧ rd l i ≤ 1000) : ∀ (d i : Nat) (m : List Int), l.length - i = d → i ≤ l.length → m.length = l.length → m.take i = (l.map fun n => -n).take i → (∀ j : Nat, i ≤ j → rd m j = rd l j) → Ev (fun k => impl_mirrored.l0 k m (l.length : Int) i) (l.map fun n => -n) := by
  intro d
  induction d with
  | zero =>
    intro i m hd hi hm ht hr
    have : i = l.length := by omega
    subst this
    refine Ev.succ ?_
    simp only [impl_mirrored.l0]
    refine Ev.ite_neg (by omega) ?_
    rw [List.take_of_length_le (by omega), List.take_of_length_le (by simp)] at ht
    rw [ht]
    exact Ev.now _
  | succ d ih =>
    intro i m hd hi hm ht hr
    have hq := hb i (by omega)
    refine Ev.succ ?_
    simp only [impl_mirrored.l0]
    refine Ev.ite_pos (by omega) (Ev.ite_pos (by omega) (Ev.ite_pos (by omega) ?_))
    rw [hr i (Nat.le_refl _), w64 (x := (i : Int) + 1) (by omega) (by omega), w64 (x := -(rd l i)) (by omega) (by omega), Int.toNat_natCast]
    have := ih (i + 1) (m.set i (-(rd l i))) (by omega) (by omega) (by simpa using hm) (by
      rw [set_at (by omega) ht, List.take_succ_eq_append_getElem (by simpa using (by omega : i < l.length))]
      simp [rd_at (show i < l.length by omega)]) (fun j hj => by rw [rd_set_ne (by omega), hr j (by omega)])
    simpa using this
theorem impl_mirrored_ev (l : List Int) (hl : l.length ≤ 1048576) (hb : ∀ i : Nat, i < l.length → -1000 ≤ rd l i ∧ rd l i ≤ 1000) : Ev (fun k => impl_mirrored.f k l) (l.map fun n => -n) := by
  unfold impl_mirrored.f
  refine Ev.bindc (slices_Clone_eq l (by omega)) ?_
  simpa using impl_mirrored_l0 l hl hb l.length 0 l (by omega) (by omega) rfl (by simp) (fun j _ => rfl)

end Go.Proofs.Ytddhommmokdlnaa.P
end

section
/- Does a list rise: the program. Plain Lean. -/
namespace Go.Proofs.Ytddhommmokdlnaa.P
open Go.RowKit Go.Proofs.Ytddhommmokdlnaa.P Go.Proofs.YtddhommmokdlnaaW.PrintWords Go.Proofs.YtddhommmokdlnaaW.PrintLast Go.Proofs.YtddhommmokdlnaaW.PrintMore
set_option linter.unusedVariables false
set_option linter.unusedSimpArgs false

def incB (l : List Int) (i d : Nat) : Bool := (List.range' i d).all fun j => decide (rd l ((j : Int) - 1) < rd l j)
theorem impl_increasing_l0 (l : List Int) (hl : l.length ≤ 9223372036854775807) : ∀ (d i : Nat), l.length - i = d → 1 ≤ i → Ev (fun k => impl_increasing.l0 k l i) (incB l i d) := by
  intro d
  induction d with
  | zero =>
    intro i hd hi
    refine Ev.succ ?_
    simp only [impl_increasing.l0]
    refine Ev.ite_neg (by omega) ?_
    exact Ev.now _
  | succ d ih =>
    intro i hd hi
    refine Ev.succ ?_
    simp only [impl_increasing.l0]
    refine Ev.ite_pos (by omega) ?_
    refine Ev.ite_pos (by omega) ?_
    rw [w64 (x := (i : Int) - 1) (by omega) (by omega), w64 (x := (i : Int) + 1) (by omega) (by omega)]
    refine Ev.ite_pos (by omega) ?_
    refine Ev.ite_pos (by omega) ?_
    have hr : incB l i (d + 1) = (decide (rd l ((i : Int) - 1) < rd l i) && incB l (i + 1) d) := by
      simp [incB, List.range'_succ]
    rw [hr]
    by_cases hx : rd l i ≤ rd l ((i : Int) - 1)
    · refine Ev.ite_pos hx ?_
      refine Ev.cast (Ev.now false) ?_
      have : ¬ rd l ((i : Int) - 1) < rd l i := by omega
      simp [this]
    · refine Ev.ite_neg hx ?_
      have := ih (i + 1) (by omega) (by omega)
      refine Ev.cast (by simpa using this) ?_
      have : rd l ((i : Int) - 1) < rd l i := by omega
      simp [this]

end Go.Proofs.Ytddhommmokdlnaa.P
end

section
/- A number from low to high: the reference's word. Plain Lean. -/
namespace Go.Proofs.Ytddhommmokdlnaa.P
open Go.RowKit Go.Proofs.Ytddhommmokdlnaa.P Go.Proofs.YtddhommmokdlnaaW.PrintWords Go.Proofs.YtddhommmokdlnaaW.PrintLast Go.Proofs.YtddhommmokdlnaaW.PrintMore
set_option linter.unusedVariables false
set_option linter.unusedSimpArgs false

theorem spec_l00In_eq (n a b : Int) : spec_l00In.f n a b = some (decide (a ≤ n) && decide (n ≤ b)) := by
  unfold spec_l00In.f
  by_cases h : n ≥ a
  · have : a ≤ n := h
    simp [this]
  · have : ¬ a ≤ n := h
    simp [this]

end Go.Proofs.Ytddhommmokdlnaa.P
end

section
/- Does a list rise within bounds: the reference. Plain Lean. -/
namespace Go.Proofs.Ytddhommmokdlnaa.P
open Go.RowKit Go.Proofs.Ytddhommmokdlnaa.P Go.Proofs.YtddhommmokdlnaaW.PrintWords Go.Proofs.YtddhommmokdlnaaW.PrintLast Go.Proofs.YtddhommmokdlnaaW.PrintMore
set_option linter.unusedVariables false
set_option linter.unusedSimpArgs false

def rgB (l : List Int) (a b : Int) (i d : Nat) : Bool := (List.range' i d).all fun j => decide (a ≤ rd l j) && decide (rd l j ≤ b) && (decide (j = 0) || decide (rd l ((j : Int) - 1) < rd l j))
theorem spec_l00Rises_l0 (l : List Int) (a b : Int) (hl : l.length ≤ 9223372036854775807) : ∀ (d i : Nat), l.length - i = d → i ≤ l.length → Ev (fun k => spec_l00Rises.l0 k l a b i) (rgB l a b i d) := by
  intro d
  induction d with
  | zero =>
    intro i hd hi
    refine Ev.succ ?_
    simp only [spec_l00Rises.l0]
    refine Ev.ite_neg (by omega) ?_
    exact Ev.now _
  | succ d ih =>
    intro i hd hi
    refine Ev.succ ?_
    simp only [spec_l00Rises.l0]
    refine Ev.ite_pos (by omega) ?_
    refine Ev.ite_pos (by omega) ?_
    refine Ev.bindc (spec_l00In_eq _ _ _) ?_
    have hr : rgB l a b i (d + 1) = ((decide (a ≤ rd l i) && decide (rd l i ≤ b) && (decide (i = 0) || decide (rd l ((i : Int) - 1) < rd l i))) && rgB l a b (i + 1) d) := by
      simp [rgB, List.range'_succ]
    rw [hr]
    have ih' := ih (i + 1) (by omega) (by omega)
    rw [w64 (x := (i : Int) + 1) (by omega) (by omega)]
    have ih2 : Ev (fun k => spec_l00Rises.l0 k l a b ((i : Int) + 1)) (rgB l a b (i + 1) d) := by simpa using ih'
    cases hq : (decide (a ≤ rd l i) && decide (rd l i ≤ b)) with
    | true =>
      refine Ev.ite_pos rfl ?_
      by_cases h0 : i = 0
      · refine Ev.ite_neg (by omega) ?_
        refine Ev.cast ih2 ?_
        simp [h0]
      · refine Ev.ite_pos (by omega) ?_
        rw [w64 (x := (i : Int) - 1) (by omega) (by omega)]
        refine Ev.ite_pos (by omega) ?_
        refine Ev.ite_pos (by omega) ?_
        by_cases hx : rd l ((i : Int) - 1) ≥ rd l i
        · refine Ev.ite_pos hx ?_
          refine Ev.cast (Ev.now false) ?_
          have : ¬ rd l ((i : Int) - 1) < rd l i := by omega
          simp [h0, this]
        · refine Ev.ite_neg hx ?_
          refine Ev.cast ih2 ?_
          have : rd l ((i : Int) - 1) < rd l i := by omega
          simp [this]
    | false =>
      refine Ev.ite_neg (by decide) ?_
      refine Ev.cast (Ev.now false) ?_
      simp

end Go.Proofs.Ytddhommmokdlnaa.P
end

section
/- Scales. Plain Lean. -/
namespace Go.Proofs.Ytddhommmokdlnaa.P
open Go.RowKit Go.Proofs.Ytddhommmokdlnaa.P Go.Proofs.YtddhommmokdlnaaW.PrintWords Go.Proofs.YtddhommmokdlnaaW.PrintLast Go.Proofs.YtddhommmokdlnaaW.PrintMore
set_option linter.unusedVariables false
set_option linter.unusedSimpArgs false

def scaleB (l : List Int) : Bool := decide (5 ≤ l.length) && (rgB l 0 11 0 l.length && (rd l 0 == 0))

end Go.Proofs.Ytddhommmokdlnaa.P
end

section
/- Scales: the program. Plain Lean. -/
namespace Go.Proofs.Ytddhommmokdlnaa.P
open Go.RowKit Go.Proofs.Ytddhommmokdlnaa.P Go.Proofs.YtddhommmokdlnaaW.PrintWords Go.Proofs.YtddhommmokdlnaaW.PrintLast Go.Proofs.YtddhommmokdlnaaW.PrintMore
set_option linter.unusedVariables false
set_option linter.unusedSimpArgs false

theorem inc_at {l : List Int} (h : incB l 1 (l.length - 1) = true) : ∀ (d i : Nat), i + d < l.length → rd l i ≤ rd l ((i + d : Nat) : Int) := by
  have hh : ∀ j : Nat, 1 ≤ j → j < l.length → rd l ((j : Int) - 1) < rd l j := by
    intro j h1 h2
    simp only [incB, List.all_eq_true, List.mem_range'_1, decide_eq_true_eq] at h
    exact h j (by omega)
  intro d
  induction d with
  | zero => intro i _; exact Int.le_refl _
  | succ d ih =>
    intro i hi
    have h1 := ih i (by omega)
    have h2 := hh (i + d + 1) (by omega) (by omega)
    have e : (((i + d + 1 : Nat) : Int) - 1) = ((i + d : Nat) : Int) := by omega
    rw [e] at h2
    have e2 : ((i + (d + 1) : Nat) : Int) = ((i + d + 1 : Nat) : Int) := by omega
    rw [e2]
    omega
theorem scale_key (l : List Int) (h5 : 5 ≤ l.length) (h0 : rd l 0 = 0) : rgB l 0 11 0 l.length = (incB l 1 (l.length - 1) && decide (rd l ((l.length : Int) - 1) < 12)) := by
  rw [Bool.eq_iff_iff]
  constructor
  · intro hh
    simp only [rgB, List.all_eq_true, List.mem_range'_1, Bool.and_eq_true, decide_eq_true_eq, Bool.or_eq_true] at hh
    simp only [Bool.and_eq_true, decide_eq_true_eq, incB, List.all_eq_true, List.mem_range'_1]
    refine ⟨fun j hj => ?_, ?_⟩
    · rcases (hh j (by omega)).2 with h | h
      · omega
      · exact h
    · have := (hh (l.length - 1) (by omega)).1
      have e : ((l.length - 1 : Nat) : Int) = (l.length : Int) - 1 := by omega
      rw [e] at this
      omega
  · intro hh
    rw [Bool.and_eq_true, decide_eq_true_eq] at hh
    have ha := inc_at hh.1
    have hi := hh.1
    simp only [incB, List.all_eq_true, List.mem_range'_1, decide_eq_true_eq] at hi
    simp only [rgB, List.all_eq_true, List.mem_range'_1, Bool.and_eq_true, decide_eq_true_eq, Bool.or_eq_true]
    intro j hj
    have h1 := ha j 0 (by omega)
    have h2 := ha (l.length - 1 - j) j (by omega)
    have e : ((j + (l.length - 1 - j) : Nat) : Int) = (l.length : Int) - 1 := by omega
    rw [e] at h2
    have e0 : ((0 + j : Nat) : Int) = (j : Int) := by omega
    have e1 : ((0 : Nat) : Int) = 0 := rfl
    rw [e0, e1, h0] at h1
    refine ⟨⟨h1, by omega⟩, ?_⟩
    by_cases hz : j = 0
    · exact .inl hz
    · exact .inr (hi j (by omega))
theorem impl_ValidScale_ev (l : List Int) (hl : l.length ≤ 9223372036854775807) : Ev (fun k => impl_ValidScale.f k l) (scaleB l) := by
  unfold impl_ValidScale.f scaleB
  by_cases h : 5 ≤ l.length
  · refine Ev.ite_pos (by omega) (Ev.ite_pos (by omega) ?_)
    by_cases h0 : rd l 0 = 0
    · refine Ev.ite_pos h0 ?_
      refine Ev.bind (a := incB l 1 (l.length - 1)) ?_ ?_
      · unfold impl_increasing.f
        simpa using impl_increasing_l0 l hl (l.length - 1) 1 (by omega) (by omega)
      · rw [scale_key l h h0, w64 (x := (l.length : Int) - 1) (by omega) (by omega)]
        cases g : incB l 1 (l.length - 1) with
        | true =>
          refine Ev.ite_pos rfl (Ev.ite_pos (by omega) (Ev.ite_pos (by omega) ?_))
          refine Ev.cast (Ev.now _) ?_
          simp [h, h0]
        | false =>
          refine Ev.ite_neg (by decide) ?_
          simpa using Ev.now false
    · refine Ev.ite_neg h0 ?_
      refine Ev.cast (Ev.now false) ?_
      simp [h0]
  · refine Ev.ite_neg (by omega) ?_
    simpa [h] using Ev.now false

end Go.Proofs.Ytddhommmokdlnaa.P
end

section
/- Pitches with degrees in a scale. Plain Lean. -/
namespace Go.Proofs.Ytddhommmokdlnaa.P
open Go.RowKit Go.Proofs.Ytddhommmokdlnaa.P Go.Proofs.YtddhommmokdlnaaW.PrintWords Go.Proofs.YtddhommmokdlnaaW.PrintLast Go.Proofs.YtddhommmokdlnaaW.PrintMore
set_option linter.unusedVariables false
set_option linter.unusedSimpArgs false

def inD (s : List Int) (a : Int) : Bool := decide (-(s.length : Int) ≤ a) && decide (a ≤ 2 * (s.length : Int) - 1)
def toneM (s : List Int) (a : Int) : Int := 12 * (a / (s.length : Int)) + rd s (a % (s.length : Int))
theorem scaleB_rd {l : List Int} (h : scaleB l = true) : 5 ≤ l.length ∧ ∀ i : Nat, i < l.length → 0 ≤ rd l i ∧ rd l i ≤ 11 := by
  simp only [scaleB, Bool.and_eq_true, decide_eq_true_eq] at h
  refine ⟨h.1, fun i hi => ?_⟩
  have := List.all_eq_true.1 h.2.1 i (List.mem_range'_1.2 ⟨by omega, by omega⟩)
  simp only [Bool.and_eq_true, decide_eq_true_eq] at this
  exact this.1
theorem floor_facts (a n : Int) (hn : 0 < n) (h0 : -n ≤ a) (h1 : a ≤ 2 * n - 1) : 0 ≤ a % n ∧ a % n < n ∧ a = n * (a / n) + a % n ∧ -1 ≤ a / n ∧ a / n ≤ 1 := by
  refine ⟨Int.emod_nonneg _ (by omega), Int.emod_lt_of_pos _ hn, (Int.mul_ediv_add_emod a n).symm, ?_, ?_⟩
  · exact Int.le_ediv_of_mul_le hn (by omega)
  · have := Int.ediv_lt_of_lt_mul hn (show a < 2 * n by omega)
    omega
def toneR (s : List Int) (a : Int) : Int × Int := if inD s a = true then (toneM s a, 0) else (0, 2)
def finR (s out ds : List Int) : List Int × Int := if ds.all (inD s) = true then (if ((out ++ ds.map (toneM s)).length : Int) > 64 then ([], 5) else (out ++ ds.map (toneM s), 0)) else ([], 6)
theorem finR_len (s ds : List Int) : (finR s [] ds).1.length ≤ 64 := by
  unfold finR
  split
  · split
    · simp
    · simp only at *
      omega
  · simp
theorem finR_step (s out a b : List Int) : finR s out (a ++ b) = if a.all (inD s) = true then finR s (out ++ a.map (toneM s)) b else ([], 6) := by
  unfold finR
  rw [List.all_append]
  cases h : a.all (inD s) with
  | true => simp [List.append_assoc]
  | false => simp

end Go.Proofs.Ytddhommmokdlnaa.P
end

section
/- A number from low to high: the program's word. Plain Lean. -/
namespace Go.Proofs.Ytddhommmokdlnaa.P
open Go.RowKit Go.Proofs.Ytddhommmokdlnaa.P Go.Proofs.YtddhommmokdlnaaW.PrintWords Go.Proofs.YtddhommmokdlnaaW.PrintLast Go.Proofs.YtddhommmokdlnaaW.PrintMore
set_option linter.unusedVariables false
set_option linter.unusedSimpArgs false

theorem impl_within_eq (n a b : Int) : impl_within.f n a b = some (decide (a ≤ n) && decide (n ≤ b)) := by
  unfold impl_within.f
  by_cases h : n ≥ a
  · have : a ≤ n := h
    simp [this]
  · have : ¬ a ≤ n := h
    simp [this]

end Go.Proofs.Ytddhommmokdlnaa.P
end

section
/- Pitches with degrees in a scale: the program. Plain Lean. -/
namespace Go.Proofs.Ytddhommmokdlnaa.P
open Go.RowKit Go.Proofs.Ytddhommmokdlnaa.P Go.Proofs.YtddhommmokdlnaaW.PrintWords Go.Proofs.YtddhommmokdlnaaW.PrintLast Go.Proofs.YtddhommmokdlnaaW.PrintMore
set_option linter.unusedVariables false
set_option linter.unusedSimpArgs false

theorem impl_ToneAt_ev (s : List Int) (a : Int) (hs : scaleB s = true) (hl : s.length ≤ 1048576) : Ev (fun k => impl_ToneAt.f k s a) (toneR s a) := by
  have h5 := (scaleB_rd hs).1
  unfold impl_ToneAt.f toneR
  refine Ev.bind (impl_ValidScale_ev s (by omega)) (Ev.ite_pos hs ?_)
  rw [w64 (x := -(s.length : Int)) (by omega) (by omega), w64 (x := 2 * (s.length : Int)) (by omega) (by omega), w64 (x := 2 * (s.length : Int) - 1) (by omega) (by omega)]
  refine Ev.bindc (impl_within_eq _ _ _) ?_
  cases h : inD s a with
  | false =>
    have hn : ¬ ((decide (-(s.length : Int) ≤ a) && decide (a ≤ 2 * (s.length : Int) - 1)) = true) := by
      rw [show (decide (-(s.length : Int) ≤ a) && decide (a ≤ 2 * (s.length : Int) - 1)) = inD s a from rfl, h]
      decide
    exact Ev.ite_neg hn (Ev.now _)
  | true =>
    have h' := h
    simp only [inD, Bool.and_eq_true, decide_eq_true_eq] at h'
    obtain ⟨f0, f1, f2, f3, f4⟩ := floor_facts a s.length (by omega) h'.1 h'.2
    have hr := (scaleB_rd hs).2 (a % (s.length : Int)).toNat (by omega)
    rw [Int.toNat_of_nonneg f0] at hr
    have e1 : Int.tdiv (a + (s.length : Int)) (s.length : Int) = a / (s.length : Int) + 1 := by
      rw [Int.tdiv_eq_ediv_of_nonneg (by omega), Int.add_ediv_of_dvd_right (Int.dvd_refl _), Int.ediv_self (by omega)]
    have b0 : -2 * (s.length : Int) ≤ (s.length : Int) * (a / (s.length : Int)) ∧ (s.length : Int) * (a / (s.length : Int)) ≤ 2 * s.length := by omega
    rw [w64 (x := a + (s.length : Int)) (by omega) (by omega), e1, w64 (x := a / (s.length : Int) + 1) (by omega) (by omega), show a / (s.length : Int) + 1 - 1 = a / (s.length : Int) by omega, w64 (x := a / (s.length : Int)) (by omega) (by omega),
      w64 (x := (s.length : Int) * (a / (s.length : Int))) (by omega) (by omega), show a - (s.length : Int) * (a / (s.length : Int)) = a % (s.length : Int) by omega, w64 (x := a % (s.length : Int)) (by omega) (by omega), w64 (x := 12 * (a / (s.length : Int))) (by omega) (by omega), w64 (x := _ + _) (by omega) (by omega)]
    exact Ev.ite_pos (show inD s a = true from h) (Ev.ite_neg (by omega) (Ev.ite_pos f0 (Ev.ite_pos f1 (Ev.now _))))
theorem impl_tonesAt_l0 (s ds : List Int) (hs : scaleB s = true) (hl : s.length ≤ 1048576) (hd' : ds.length ≤ 1048576) : ∀ (d i : Nat) (acc : List Int), ds.length - i = d → acc.length ≤ i →
    Ev (fun k => impl_tonesAt.l0 k s acc ds (ds.length : Int) i) (finR s acc (ds.drop i)) := by
  intro d
  induction d with
  | zero =>
    intro i acc hd ha
    refine Ev.succ ?_
    simp only [impl_tonesAt.l0]
    refine Ev.ite_neg (by omega) ?_
    rw [List.drop_of_length_le (by omega)]
    unfold finR
    simp only [List.all_nil, List.map_nil, List.append_nil, if_true]
    by_cases h : (acc.length : Int) > 64
    · exact Ev.ite_pos h (Ev.cast (Ev.now _) (if_pos h).symm)
    · exact Ev.ite_neg h (Ev.cast (Ev.now _) (if_neg h).symm)
  | succ d ih =>
    intro i acc hd ha
    refine Ev.succ ?_
    simp only [impl_tonesAt.l0]
    rw [w64 (x := (i : Int) + 1) (by omega) (by omega), List.drop_eq_getElem_cons (show i < ds.length by omega), ← rd_at (show i < ds.length by omega)]
    refine Ev.ite_pos (by omega) (Ev.ite_pos (by omega) (Ev.ite_pos (by omega) (Ev.bind (impl_ToneAt_ev s _ hs hl) ?_)))
    cases h : inD s (rd ds i) with
    | true =>
      have h2 : toneR s (rd ds i) = (toneM s (rd ds i), 0) := by simp [toneR, h]
      rw [h2]
      refine Ev.ite_pos rfl (Ev.ite_pos (by omega) ?_)
      refine Ev.cast (by simpa using ih (i + 1) (acc ++ [toneM s (rd ds i)]) (by omega) (by simp; omega)) ?_
      simp [finR, h]
    | false =>
      have h2 : toneR s (rd ds i) = (0, 2) := by simp [toneR, h]
      rw [h2]
      refine Ev.ite_neg (by decide) ?_
      refine Ev.cast (Ev.now _) ?_
      simp [finR, h]
theorem impl_tonesAt_ev (s ds : List Int) (hs : scaleB s = true) (hl : s.length ≤ 1048576) (hd : ds.length ≤ 1048576) : Ev (fun k => impl_tonesAt.f k s ds) (finR s [] ds) := by
  unfold impl_tonesAt.f
  simpa using impl_tonesAt_l0 s ds hs hl hd ds.length 0 [] (by omega) (by simp)

end Go.Proofs.Ytddhommmokdlnaa.P
end

section
/- A list from a place on. Plain Lean. -/
namespace Go.Proofs.Ytddhommmokdlnaa.P
open Go.RowKit Go.Proofs.Ytddhommmokdlnaa.P Go.Proofs.YtddhommmokdlnaaW.PrintWords Go.Proofs.YtddhommmokdlnaaW.PrintLast Go.Proofs.YtddhommmokdlnaaW.PrintMore
set_option linter.unusedVariables false
set_option linter.unusedSimpArgs false

theorem all_drop_at {l : List Int} {i : Nat} (q : Int → Bool) (h : i < l.length) : (l.drop i).all q = (q (rd l i) && (l.drop (i + 1)).all q) := by
  rw [List.drop_eq_getElem_cons h, List.all_cons, rd_at h]

end Go.Proofs.Ytddhommmokdlnaa.P
end

section
/- Patterns: the reference. Plain Lean. -/
namespace Go.Proofs.Ytddhommmokdlnaa.P
open Go.RowKit Go.Proofs.Ytddhommmokdlnaa.P Go.Proofs.YtddhommmokdlnaaW.PrintWords Go.Proofs.YtddhommmokdlnaaW.PrintLast Go.Proofs.YtddhommmokdlnaaW.PrintMore
set_option linter.unusedVariables false
set_option linter.unusedSimpArgs false

theorem spec_l14Pattern_l0 (l : List Int) (hl : l.length ≤ 9223372036854775807) : ∀ (d i : Nat), l.length - i = d → i ≤ l.length → Ev (fun k => spec_l14Pattern.l0 k l i) (((l.drop i).all fun n => decide (-20 ≤ n) && decide (n ≤ 20)) && (decide (1 ≤ l.length) && decide (l.length ≤ 8))) := by
  intro d
  induction d with
  | zero =>
    intro i hd hi
    refine Ev.succ ?_
    simp only [spec_l14Pattern.l0]
    refine Ev.ite_neg (by omega) ?_
    rw [List.drop_of_length_le (by omega)]
    by_cases h : (l.length : Int) ≥ 1
    · refine Ev.ite_pos h (Ev.cast (Ev.now _) ?_)
      have h' : 1 ≤ l.length := by omega
      simp [h']
      omega
    · refine Ev.ite_neg h (Ev.cast (Ev.now _) ?_)
      have h' : ¬ 1 ≤ l.length := by omega
      simp [h']
  | succ d ih =>
    intro i hd hi
    refine Ev.succ ?_
    simp only [spec_l14Pattern.l0]
    refine Ev.ite_pos (by omega) (Ev.ite_pos (by omega) (Ev.bindc (spec_l00In_eq _ _ _) ?_))
    rw [all_drop_at _ (by omega)]
    cases hq : (decide (-20 ≤ rd l i) && decide (rd l i ≤ 20)) with
    | true =>
      refine Ev.ite_pos rfl ?_
      rw [w64 (x := (i : Int) + 1) (by omega) (by omega)]
      simpa using ih (i + 1) (by omega) (by omega)
    | false =>
      refine Ev.ite_neg (by decide) ?_
      simpa using Ev.now false
theorem spec_l14Pattern_ev (l : List Int) (hl : l.length ≤ 9223372036854775807) : Ev (fun k => spec_l14Pattern.f k l) (patB l) := by
  unfold spec_l14Pattern.f patB
  simpa using spec_l14Pattern_l0 l hl l.length 0 (by omega) (by omega)
theorem spec_l14Mirror_l0 (l : List Int) (hl : l.length ≤ 1048576) (hb : ∀ i : Nat, i < l.length → -1000 ≤ rd l i ∧ rd l i ≤ 1000) : ∀ (d i : Nat) (acc : List Int), l.length - i = d → acc.length ≤ i → Ev (fun k => spec_l14Mirror.l0 k l acc i) (acc ++ (l.drop i).map fun n => -n) := by
  intro d
  induction d with
  | zero =>
    intro i acc hd ha
    refine Ev.succ ?_
    simp only [spec_l14Mirror.l0]
    refine Ev.ite_neg (by omega) ?_
    rw [List.drop_of_length_le (by omega)]
    simpa using Ev.now _
  | succ d ih =>
    intro i acc hd ha
    have hq := hb i (by omega)
    refine Ev.succ ?_
    simp only [spec_l14Mirror.l0]
    refine Ev.ite_pos (by omega) (Ev.ite_pos (by omega) (Ev.ite_pos (by omega) ?_))
    rw [w64 (x := (i : Int) + 1) (by omega) (by omega), w64 (x := -(rd l i)) (by omega) (by omega), List.drop_eq_getElem_cons (show i < l.length by omega), ← rd_at (show i < l.length by omega)]
    simpa using ih (i + 1) (acc ++ [-(rd l i)]) (by omega) (by simp; omega)
theorem spec_l14Mirror_ev (l : List Int) (hl : l.length ≤ 1048576) (hb : ∀ i : Nat, i < l.length → -1000 ≤ rd l i ∧ rd l i ≤ 1000) : Ev (fun k => spec_l14Mirror.f k l) (l.map fun n => -n) := by
  unfold spec_l14Mirror.f
  simpa using spec_l14Mirror_l0 l hl hb l.length 0 [] (by omega) (by simp)

end Go.Proofs.Ytddhommmokdlnaa.P
end

section
/- Scales: the reference. Plain Lean. -/
namespace Go.Proofs.Ytddhommmokdlnaa.P
open Go.RowKit Go.Proofs.Ytddhommmokdlnaa.P Go.Proofs.YtddhommmokdlnaaW.PrintWords Go.Proofs.YtddhommmokdlnaaW.PrintLast Go.Proofs.YtddhommmokdlnaaW.PrintMore
set_option linter.unusedVariables false
set_option linter.unusedSimpArgs false

theorem spec_l03Scale_ev (l : List Int) (hl : l.length ≤ 9223372036854775807) : Ev (fun k => spec_l03Scale.f k l) (scaleB l) := by
  unfold spec_l03Scale.f scaleB
  by_cases h : 5 ≤ l.length
  · refine Ev.ite_pos (by omega) ?_
    refine Ev.bind (a := rgB l 0 11 0 l.length) ?_ ?_
    · unfold spec_l00Rises.f
      simpa using spec_l00Rises_l0 l 0 11 hl l.length 0 (by omega) (by omega)
    · cases g : rgB l 0 11 0 l.length with
      | true =>
        refine Ev.ite_pos rfl (Ev.ite_pos (by omega) ?_)
        simpa [h] using Ev.now _
      | false =>
        refine Ev.ite_neg (by decide) ?_
        simpa using Ev.now false
  · refine Ev.ite_neg (by omega) ?_
    simpa [h] using Ev.now false

end Go.Proofs.Ytddhommmokdlnaa.P
end

section
/- Pitches with degrees in a scale: the reference. Plain Lean. -/
namespace Go.Proofs.Ytddhommmokdlnaa.P
open Go.RowKit Go.Proofs.Ytddhommmokdlnaa.P Go.Proofs.YtddhommmokdlnaaW.PrintWords Go.Proofs.YtddhommmokdlnaaW.PrintLast Go.Proofs.YtddhommmokdlnaaW.PrintMore
set_option linter.unusedVariables false
set_option linter.unusedSimpArgs false

theorem spec_ToneAt_ev (s : List Int) (a : Int) (hs : scaleB s = true) (hl : s.length ≤ 1048576) : Ev (fun k => spec_ToneAt.f k s a) (toneR s a) := by
  have h5 := (scaleB_rd hs).1
  unfold spec_ToneAt.f toneR
  refine Ev.bind (spec_l03Scale_ev s (by omega)) (Ev.ite_pos hs ?_)
  rw [w64 (x := -(s.length : Int)) (by omega) (by omega), w64 (x := 2 * (s.length : Int)) (by omega) (by omega), w64 (x := 2 * (s.length : Int) - 1) (by omega) (by omega)]
  refine Ev.bindc (spec_l00In_eq _ _ _) ?_
  cases h : inD s a with
  | false =>
    have hn : ¬ ((decide (-(s.length : Int) ≤ a) && decide (a ≤ 2 * (s.length : Int) - 1)) = true) := by
      rw [show (decide (-(s.length : Int) ≤ a) && decide (a ≤ 2 * (s.length : Int) - 1)) = inD s a from rfl, h]
      decide
    exact Ev.ite_neg hn (Ev.now _)
  | true =>
    have h' := h
    simp only [inD, Bool.and_eq_true, decide_eq_true_eq] at h'
    obtain ⟨f0, f1, f2, f3, f4⟩ := floor_facts a s.length (by omega) h'.1 h'.2
    have hr := (scaleB_rd hs).2 (a % (s.length : Int)).toNat (by omega)
    rw [Int.toNat_of_nonneg f0] at hr
    have t0 : -(s.length : Int) < Int.tmod a s.length ∧ Int.tmod a s.length < s.length := by
      have h1 := Int.lt_tmod_of_pos a (show (0 : Int) < s.length by omega)
      have h2 := Int.tmod_lt_of_pos a (show (0 : Int) < s.length by omega)
      exact ⟨h1, h2⟩
    have e1 : Int.tmod (Int.tmod a s.length + s.length) (s.length : Int) = a % (s.length : Int) := by
      rw [Int.tmod_eq_emod_of_nonneg (by omega), Int.add_emod_right]
      have := Int.mul_tdiv_add_tmod a (s.length : Int)
      have h2 : Int.tmod a s.length = a - (s.length : Int) * (Int.tdiv a s.length) := by omega
      rw [h2, Int.sub_mul_emod_self_left]
    rw [w64 (x := Int.tmod a s.length + s.length) (by omega) (by omega), e1]
    have e2 : a - a % (s.length : Int) = (s.length : Int) * (a / (s.length : Int)) := by omega
    have b0 : -2 * (s.length : Int) ≤ (s.length : Int) * (a / (s.length : Int)) ∧ (s.length : Int) * (a / (s.length : Int)) ≤ 2 * s.length := by omega
    rw [e2, w64 (x := (s.length : Int) * (a / (s.length : Int))) (by omega) (by omega), Int.mul_tdiv_cancel_left _ (show (s.length : Int) ≠ 0 by omega), w64 (x := a / (s.length : Int)) (by omega) (by omega), w64 (x := 12 * (a / (s.length : Int))) (by omega) (by omega), w64 (x := _ + _) (by omega) (by omega)]
    exact Ev.ite_pos (show inD s a = true from h) (Ev.ite_neg (by omega) (Ev.ite_pos f0 (Ev.ite_pos f1 (Ev.now _))))
theorem spec_l14From_l0 (s p : List Int) (e : Int) (hs : scaleB s = true) (hl : s.length ≤ 1048576) (he : -1000 ≤ e ∧ e ≤ 1000) (hp : p.length ≤ 8) (hb : ∀ i : Nat, i < p.length → -1000 ≤ rd p i ∧ rd p i ≤ 1000) : ∀ (d i : Nat) (acc : List Int), p.length - i = d → acc.length ≤ 1048576 + i →
    Ev (fun k => spec_l14From.l0 k acc s p e i) (if ((p.drop i).map fun n => n + e).all (inD s) = true then (acc ++ ((p.drop i).map fun n => n + e).map (toneM s), true) else ([], false)) := by
  intro d
  induction d with
  | zero =>
    intro i acc hd ha
    refine Ev.succ ?_
    simp only [spec_l14From.l0]
    refine Ev.ite_neg (by omega) ?_
    rw [List.drop_of_length_le (by omega)]
    simpa using Ev.now _
  | succ d ih =>
    intro i acc hd ha
    have hq := hb i (by omega)
    refine Ev.succ ?_
    simp only [spec_l14From.l0]
    rw [w64 (x := e + rd p i) (by omega) (by omega), w64 (x := (i : Int) + 1) (by omega) (by omega), List.drop_eq_getElem_cons (show i < p.length by omega), ← rd_at (show i < p.length by omega)]
    refine Ev.ite_pos (by omega) (Ev.ite_pos (by omega) (Ev.bind (spec_ToneAt_ev s _ hs hl) ?_))
    rw [Int.add_comm e]
    cases h : inD s (rd p i + e) with
    | true =>
      have h2 : toneR s (rd p i + e) = (toneM s (rd p i + e), 0) := by simp [toneR, h]
      rw [h2]
      refine Ev.ite_pos rfl (Ev.ite_pos (by omega) ?_)
      refine Ev.cast (by simpa using ih (i + 1) (acc ++ [toneM s (rd p i + e)]) (by omega) (by simp; omega)) ?_
      simp [h]
    | false =>
      have h2 : toneR s (rd p i + e) = (0, 2) := by simp [toneR, h]
      rw [h2]
      refine Ev.ite_neg (by decide) ?_
      refine Ev.cast (Ev.now _) ?_
      simp [h]
theorem spec_l14From_ev (s p acc : List Int) (e : Int) (hs : scaleB s = true) (hl : s.length ≤ 1048576) (he : -1000 ≤ e ∧ e ≤ 1000) (hp : p.length ≤ 8) (hb : ∀ i : Nat, i < p.length → -1000 ≤ rd p i ∧ rd p i ≤ 1000) (ha : acc.length ≤ 1048576) :
    Ev (fun k => spec_l14From.f k acc s p e) (if (p.map fun n => n + e).all (inD s) = true then (acc ++ (p.map fun n => n + e).map (toneM s), true) else ([], false)) := by
  unfold spec_l14From.f
  simpa using spec_l14From_l0 s p e hs hl he hp hb p.length 0 acc (by omega) (by omega)
theorem spec_l14Done_no (l : List Int) : spec_l14Done.f l false = some ([], 6) := rfl
theorem spec_l14Done_yes (s l : List Int) : spec_l14Done.f l true = some (finR s l []) := by
  unfold spec_l14Done.f finR
  simp only [if_true, List.all_nil, List.map_nil, List.append_nil]
  split <;> rfl

end Go.Proofs.Ytddhommmokdlnaa.P
end

section
namespace Go.Proofs.Ytddhommmokdlnaa.P
open Go.RowKit Go.Proofs.YtddhommmokdlnaaW.PrintWords Go.Proofs.YtddhommmokdlnaaW.PrintLast Go.Proofs.YtddhommmokdlnaaW.PrintMore
attribute [local go_sem] max2_int min2_int max_two min_two max_three min_three max_four min_four   -- for this text's walks alone
set_option linter.unusedVariables false
set_option linter.unusedSimpArgs false

/-! ### impl_ToneOf: function 94 -/
def impl_ToneOf.f (a0 : Int) : Option (Int) := some (Int.tmod (wrap64 ((Int.tmod a0 12) + 12)) 12)
set_option maxHeartbeats 8000000 in
set_option maxRecDepth 100000 in
theorem impl_ToneOf.calls (a0 : Int) (r : Int) (w : World) (h : impl_ToneOf.f a0 = some r) :
    Calls Try.prog 94 #[.int .i64 a0] w fun e w' => e = .returned (.int .i64 r) ∧ Drawn0 w w' := by
  have H : (some (Int.tmod (wrap64 ((Int.tmod a0 12) + 12)) 12)) = some r := h
  clear h
  obtain rfl := Option.some.inj H
  go_enter Try.func94, Try.ntmps94
  go_wp2
  go_ret
  exact ⟨by first | rfl | (simp; done) | (simp [*]; done), by repeat (first | exact Drawn0.refl _ | apply Drawn0.step)⟩

end Go.Proofs.Ytddhommmokdlnaa.P
end

section
namespace Go.Proofs.Ytddhommmokdlnaa.P
open Go.RowKit Go.Proofs.YtddhommmokdlnaaW.PrintWords Go.Proofs.YtddhommmokdlnaaW.PrintLast Go.Proofs.YtddhommmokdlnaaW.PrintMore
attribute [local go_sem] max2_int min2_int max_two min_two max_three min_three max_four min_four   -- for this text's walks alone
set_option linter.unusedVariables false
set_option linter.unusedSimpArgs false

/-! ### impl_octaveOf: function 95 -/
def impl_octaveOf.f (a0 : Int) : Option (Int) := (impl_ToneOf.f a0).bind fun t536 => (some (wrap64 (Int.tdiv (wrap64 (a0 - t536)) 12)))
set_option maxHeartbeats 8000000 in
set_option maxRecDepth 100000 in
theorem impl_octaveOf.calls (a0 : Int) (r : Int) (w : World) (h : impl_octaveOf.f a0 = some r) :
    Calls Try.prog 95 #[.int .i64 a0] w fun e w' => e = .returned (.int .i64 r) ∧ Drawn0 w w' := by
  have H : ((impl_ToneOf.f a0).bind fun t536 => (some (wrap64 (Int.tdiv (wrap64 (a0 - t536)) 12)))) = some r := h
  clear h
  replace H := Option.bind_eq_some_iff.mp H
  obtain ⟨t536, A20, H⟩ := H
  replace H : (some (wrap64 (Int.tdiv (wrap64 (a0 - t536)) 12))) = some r := H
  have A2 := Aside0.mk A20
  clear A20
  obtain rfl := Option.some.inj H
  go_enter Try.func95, Try.ntmps95
  go_wp2_with (first | ((with_reducible refine gate_callee (f := 94) rfl ?_); refine goesL_ (some 5) rfl rfl Try.func94 (by kernel_rfl) rfl #[.int .i64 a0] rfl (by (try simp only [List.map_toArray, List.map_cons, List.map_nil]); first | done | rfl | (simp only [List.length_drop, List.length_take]; rfl)) ?_; (with_reducible refine (impl_ToneOf.calls a0 t536 _ A2.out).mono ?_); rintro e w' ⟨rfl, ⟨nd, rfl⟩⟩; refine ⟨_, rfl, ?_⟩))
  go_ret
  exact ⟨by first | rfl | (simp; done) | (simp [*]; done), by repeat (first | exact Drawn0.refl _ | apply Drawn0.step)⟩

end Go.Proofs.Ytddhommmokdlnaa.P
end

section
namespace Go.Proofs.Ytddhommmokdlnaa.P
open Go.RowKit Go.Proofs.YtddhommmokdlnaaW.PrintWords Go.Proofs.YtddhommmokdlnaaW.PrintLast Go.Proofs.YtddhommmokdlnaaW.PrintMore
attribute [local go_sem] max2_int min2_int max_two min_two max_three min_three max_four min_four   -- for this text's walks alone
set_option linter.unusedVariables false
set_option linter.unusedSimpArgs false

/-! ### impl_pitchOk: function 92 -/
def impl_pitchOk.f (a0 : Int) : Option (Bool) := (impl_within.f a0 (-12) 23).bind fun t535 => (some t535)
set_option maxHeartbeats 8000000 in
set_option maxRecDepth 100000 in
theorem impl_pitchOk.calls (a0 : Int) (r : Bool) (w : World) (h : impl_pitchOk.f a0 = some r) :
    Calls Try.prog 92 #[.int .i64 a0] w fun e w' => e = .returned (.bool r) ∧ Drawn0 w w' := by
  have H : ((impl_within.f a0 (-12) 23).bind fun t535 => (some t535)) = some r := h
  clear h
  replace H := Option.bind_eq_some_iff.mp H
  obtain ⟨t535, A20, H⟩ := H
  replace H : (some t535) = some r := H
  have A2 := Aside0.mk A20
  clear A20
  obtain rfl := Option.some.inj H
  go_enter Try.func92, Try.ntmps92
  go_wp2_with (first | ((with_reducible refine gate_callee (f := 51) rfl ?_); refine goesL_ (some 4) rfl rfl Try.func51 (by kernel_rfl) rfl #[.int .i64 a0, .int .i64 (-12), .int .i64 23] rfl (by (try simp only [List.map_toArray, List.map_cons, List.map_nil]); first | done | rfl | (simp only [List.length_drop, List.length_take]; rfl)) ?_; (with_reducible refine (impl_within.calls a0 (-12) 23 t535 _ A2.out).mono ?_); rintro e w' ⟨rfl, ⟨nd, rfl⟩⟩; refine ⟨_, rfl, ?_⟩))
  go_ret
  exact ⟨by first | rfl | (simp; done) | (simp [*]; done), by repeat (first | exact Drawn0.refl _ | apply Drawn0.step)⟩

end Go.Proofs.Ytddhommmokdlnaa.P
end

section
namespace Go.Proofs.Ytddhommmokdlnaa.P
open Go.RowKit Go.Proofs.YtddhommmokdlnaaW.PrintWords Go.Proofs.YtddhommmokdlnaaW.PrintLast Go.Proofs.YtddhommmokdlnaaW.PrintMore
attribute [local go_sem] max2_int min2_int max_two min_two max_three min_three max_four min_four   -- for this text's walks alone
set_option linter.unusedVariables false
set_option linter.unusedSimpArgs false

/-! ### slices_Index_int64_int64: function 93 -/
def slices_Index_int64_int64.l0 : Nat → List Int → Int → Int → Int → Option (Int)
  | 0, _, _, _, _ => none
  | k + 1, x0, x1, x7, x8 => if x8 < x7 then (if 0 ≤ x8 then (if x8 < (x0.length : Int) then (if x1 = (rd x0 x8) then (some x8) else (slices_Index_int64_int64.l0 k x0 x1 x7 (wrap64 (x8 + 1)))) else (none)) else (none)) else (some (-1))
def slices_Index_int64_int64.f (k : Nat) (l0 : List Int) (a1 : Int) : Option (Int) := slices_Index_int64_int64.l0 k l0 a1 (l0.length : Int) 0
theorem slices_Index_int64_int64.mono_l : ∀ k, (∀ y0 y1 y2 y3, LeO (slices_Index_int64_int64.l0 k y0 y1 y2 y3) (slices_Index_int64_int64.l0 (k + 1) y0 y1 y2 y3))
  | 0 => fun _ _ _ _ r h => by simp [slices_Index_int64_int64.l0] at h
  | k + 1 => by
    have ih0 := slices_Index_int64_int64.mono_l k
    · intro y0 y1 y2 y3
      unfold slices_Index_int64_int64.l0
      repeat' first
      | (with_reducible exact ih0 _ _ _ _)
      | (with_reducible exact LeO.refl _)
      | (with_reducible exact LeO.none _)
      | (with_reducible refine LeO.ite ?_ ?_)
      | (with_reducible refine LeO.bind ?_ (fun _ => ?_))
      | exact ih0 _ _ _ _
      | exact LeO.none _
      | refine LeO.ite ?_ ?_
      | refine LeO.bind ?_ (fun _ => ?_)
theorem slices_Index_int64_int64.mono : ∀ a0 a1 k, LeO (slices_Index_int64_int64.f k a0 a1) (slices_Index_int64_int64.f (k + 1) a0 a1) := by
  intro a0 a1 k
  have ih0 := slices_Index_int64_int64.mono_l k
  unfold slices_Index_int64_int64.f
  repeat' first
      | (with_reducible exact ih0 _ _ _ _)
      | (with_reducible exact LeO.refl _)
      | (with_reducible exact LeO.none _)
      | (with_reducible refine LeO.ite ?_ ?_)
      | (with_reducible refine LeO.bind ?_ (fun _ => ?_))
      | exact ih0 _ _ _ _
      | exact LeO.none _
      | refine LeO.ite ?_ ?_
      | refine LeO.bind ?_ (fun _ => ?_)
set_option maxHeartbeats 8000000 in
set_option maxRecDepth 100000 in
theorem slices_Index_int64_int64.calls (k : Nat) (A0 : Option Addr) (c0 : Nat) (l0 : List Int) (a1 : Int) (r : Int) (w : World) (hr0 : Kd.C (Kd.int .i64) w A0 l0.length l0) (hc0 : l0.length ≤ c0) (h : slices_Index_int64_int64.f k l0 a1 = some r) :
    Calls Try.prog 93 #[.slice A0 l0.length c0, .int .i64 a1] w fun e w' => e = .returned (.int .i64 r) ∧ Drawn0 w w' := by
  have HR0 := Aside0.mk hr0
  have HC0 := Aside0.mk hc0
  clear hr0 hc0
  have H : (slices_Index_int64_int64.l0 k l0 a1 (l0.length : Int) 0) = some r := h
  clear h
  have H' := Aside0.mk H
  clear H
  go_enter Try.func93, Try.ntmps93
  go_wp2
  go_loopg [8] k (fun kq v8 w' => ∃ (x8_1 : Int), v8 = .int .i64 x8_1 ∧ Aside0 (slices_Index_int64_int64.l0 kq l0 a1 (l0.length : Int) x8_1 = some r) ∧ Aside0 (kq ≤ k) ∧ Drawn0 w w')
  case atStart => exact ⟨(0), (by first | rfl | (simp; done) | (simp [*]; done)), H', ⟨Nat.le_refl _⟩, by repeat (first | exact Drawn0.refl _ | apply Drawn0.step)⟩
  case round =>
    clear H'
    try clear p2
    obtain ⟨x8_1, rfl, HA, HK1, ⟨m1, rfl⟩⟩ := hrel
    cases gk with
    | zero => exact absurd HA.out (by simp [slices_Index_int64_int64.l0])
    | succ k1 =>
      have H := HA.out
      clear HA
      simp only [slices_Index_int64_int64.l0] at H
      by_cases c3 : x8_1 < (l0.length : Int)
      · rw [if_pos c3] at H
        have c3b0 : decide (x8_1 < (l0.length : Int)) = true := decide_eq_true c3
        clear c3
        by_cases c4 : 0 ≤ x8_1
        · rw [if_pos c4] at H
          have c4b0 : decide (0 ≤ x8_1) = true := decide_eq_true c4
          clear c4
          by_cases c5 : x8_1 < (l0.length : Int)
          · rw [if_pos c5] at H
            have c5b0 : decide (x8_1 < (l0.length : Int)) = true := decide_eq_true c5
            clear c5
            by_cases c6 : a1 = (rd l0 x8_1)
            · rw [if_pos c6] at H
              have c6b0 : (a1 == (rd l0 x8_1)) = true := beq_iff_eq.mpr c6
              have c6b1 : (a1 != (rd l0 x8_1)) = false := bne_eq_false_iff_eq.mpr c6
              clear c6
              obtain rfl := Option.some.inj H
              have p178 : 0 ≤ (x8_1 : Int) := of_decide_eq_true (by first | (with_reducible assumption) | assumption)
              have q178 : x8_1 < (l0.length : Int) := of_decide_eq_true (by first | (with_reducible assumption) | assumption)
              obtain ⟨ad178, e178, hx178_0⟩ := Kd.at_int HR0.out x8_1 p178 q178
              cases e178
              replace p178 := eq_true p178
              replace q178 := eq_true q178
              go_wp2
              go_ret
              exact ⟨by first | rfl | (simp; done) | (simp [*]; done), by repeat (first | exact Drawn0.refl _ | apply Drawn0.step)⟩
            · rw [if_neg c6] at H
              have c6b0 : (a1 == (rd l0 x8_1)) = false := beq_eq_false_iff_ne.mpr c6
              have c6b1 : (a1 != (rd l0 x8_1)) = true := bne_iff_ne.mpr c6
              have H' := Aside0.mk H
              clear H
              have p178 : 0 ≤ (x8_1 : Int) := of_decide_eq_true (by first | (with_reducible assumption) | assumption)
              have q178 : x8_1 < (l0.length : Int) := of_decide_eq_true (by first | (with_reducible assumption) | assumption)
              obtain ⟨ad178, e178, hx178_0⟩ := Kd.at_int HR0.out x8_1 p178 q178
              cases e178
              replace p178 := eq_true p178
              replace q178 := eq_true q178
              go_wp2
              go_roundg k1
              case measure => have := HK1.out; omega
              case rel => exact ⟨(wrap64 (x8_1 + 1)), (by first | rfl | (simp; done) | (simp [*]; done)), H', ⟨by have := HK1.out; omega⟩, by repeat (first | exact Drawn0.refl _ | apply Drawn0.step)⟩
          · rw [if_neg c5] at H
            exact absurd H (by simp)
        · rw [if_neg c4] at H
          exact absurd H (by simp)
      · rw [if_neg c3] at H
        have c3b0 : decide (x8_1 < (l0.length : Int)) = false := decide_eq_false c3
        clear c3
        obtain rfl := Option.some.inj H
        go_wp2
        go_ret
        exact ⟨by first | rfl | (simp; done) | (simp [*]; done), by repeat (first | exact Drawn0.refl _ | apply Drawn0.step)⟩

end Go.Proofs.Ytddhommmokdlnaa.P
end

section
namespace Go.Proofs.Ytddhommmokdlnaa.P
open Go.RowKit Go.Proofs.YtddhommmokdlnaaW.PrintWords Go.Proofs.YtddhommmokdlnaaW.PrintLast Go.Proofs.YtddhommmokdlnaaW.PrintMore
attribute [local go_sem] max2_int min2_int max_two min_two max_three min_three max_four min_four   -- for this text's walks alone
set_option linter.unusedVariables false
set_option linter.unusedSimpArgs false

/-! ### impl_DegreeOf: function 68 -/
def impl_DegreeOf.f (k : Nat) (l0 : List Int) (a1 : Int) : Option (Int × Int) := (impl_ValidScale.f k l0).bind fun t537 => (if t537 = true then ((impl_pitchOk.f a1).bind fun t538 => (if t538 = true then ((impl_ToneOf.f a1).bind fun t539 => ((slices_Index_int64_int64.f k l0 t539).bind fun t540 => (if t540 < 0 then (some (0, 3)) else ((impl_octaveOf.f a1).bind fun t541 => (some (wrap64 ((wrap64 (t541 * (l0.length : Int))) + t540), 0)))))) else (some (0, 2)))) else (some (0, 1)))
theorem impl_DegreeOf.mono : ∀ a0 a1 k, LeO (impl_DegreeOf.f k a0 a1) (impl_DegreeOf.f (k + 1) a0 a1) := by
  intro a0 a1 k
  unfold impl_DegreeOf.f
  repeat' first
      | (with_reducible exact impl_ValidScale.mono _ _)
      | (with_reducible exact slices_Index_int64_int64.mono _ _ _)
      | (with_reducible exact LeO.refl _)
      | (with_reducible exact LeO.none _)
      | (with_reducible refine LeO.ite ?_ ?_)
      | (with_reducible refine LeO.bind ?_ (fun _ => ?_))
      | exact impl_ValidScale.mono _ _
      | exact slices_Index_int64_int64.mono _ _ _
      | exact LeO.none _
      | refine LeO.ite ?_ ?_
      | refine LeO.bind ?_ (fun _ => ?_)
set_option maxHeartbeats 8000000 in
set_option maxRecDepth 100000 in
theorem impl_DegreeOf.calls (k : Nat) (A0 : Option Addr) (c0 : Nat) (l0 : List Int) (a1 : Int) (r1 : Int) (r2 : Int) (w : World) (hr0 : Kd.C (Kd.int .i64) w A0 l0.length l0) (hc0 : l0.length ≤ c0) (h : impl_DegreeOf.f k l0 a1 = some (r1, r2)) :
    Calls Try.prog 68 #[.slice A0 l0.length c0, .int .i64 a1] w fun e w' => e = .returned (.tuple #[.int .i64 r1, .int .i64 r2]) ∧ Drawn0 w w' := by
  have HR0 := Aside0.mk hr0
  have HC0 := Aside0.mk hc0
  clear hr0 hc0
  have H : ((impl_ValidScale.f k l0).bind fun t537 => (if t537 = true then ((impl_pitchOk.f a1).bind fun t538 => (if t538 = true then ((impl_ToneOf.f a1).bind fun t539 => ((slices_Index_int64_int64.f k l0 t539).bind fun t540 => (if t540 < 0 then (some (0, 3)) else ((impl_octaveOf.f a1).bind fun t541 => (some (wrap64 ((wrap64 (t541 * (l0.length : Int))) + t540), 0)))))) else (some (0, 2)))) else (some (0, 1)))) = some (r1, r2) := h
  clear h
  replace H := Option.bind_eq_some_iff.mp H
  obtain ⟨t537, A30, H⟩ := H
  replace H : (if t537 = true then ((impl_pitchOk.f a1).bind fun t538 => (if t538 = true then ((impl_ToneOf.f a1).bind fun t539 => ((slices_Index_int64_int64.f k l0 t539).bind fun t540 => (if t540 < 0 then (some (0, 3)) else ((impl_octaveOf.f a1).bind fun t541 => (some (wrap64 ((wrap64 (t541 * (l0.length : Int))) + t540), 0)))))) else (some (0, 2)))) else (some (0, 1))) = some (r1, r2) := H
  have A3 := Aside0.mk A30
  clear A30
  by_cases c4 : t537 = true
  · subst c4
    have H1 : ((impl_pitchOk.f a1).bind fun t538 => (if t538 = true then ((impl_ToneOf.f a1).bind fun t539 => ((slices_Index_int64_int64.f k l0 t539).bind fun t540 => (if t540 < 0 then (some (0, 3)) else ((impl_octaveOf.f a1).bind fun t541 => (some (wrap64 ((wrap64 (t541 * (l0.length : Int))) + t540), 0)))))) else (some (0, 2)))) = some (r1, r2) := by rw [if_pos rfl] at H; exact H
    clear H
    have H := H1
    clear H1
    replace H := Option.bind_eq_some_iff.mp H
    obtain ⟨t538, A50, H⟩ := H
    replace H : (if t538 = true then ((impl_ToneOf.f a1).bind fun t539 => ((slices_Index_int64_int64.f k l0 t539).bind fun t540 => (if t540 < 0 then (some (0, 3)) else ((impl_octaveOf.f a1).bind fun t541 => (some (wrap64 ((wrap64 (t541 * (l0.length : Int))) + t540), 0)))))) else (some (0, 2))) = some (r1, r2) := H
    have A5 := Aside0.mk A50
    clear A50
    by_cases c6 : t538 = true
    · subst c6
      have H1 : ((impl_ToneOf.f a1).bind fun t539 => ((slices_Index_int64_int64.f k l0 t539).bind fun t540 => (if t540 < 0 then (some (0, 3)) else ((impl_octaveOf.f a1).bind fun t541 => (some (wrap64 ((wrap64 (t541 * (l0.length : Int))) + t540), 0)))))) = some (r1, r2) := by rw [if_pos rfl] at H; exact H
      clear H
      have H := H1
      clear H1
      replace H := Option.bind_eq_some_iff.mp H
      obtain ⟨t539, A70, H⟩ := H
      replace H : ((slices_Index_int64_int64.f k l0 t539).bind fun t540 => (if t540 < 0 then (some (0, 3)) else ((impl_octaveOf.f a1).bind fun t541 => (some (wrap64 ((wrap64 (t541 * (l0.length : Int))) + t540), 0))))) = some (r1, r2) := H
      have A7 := Aside0.mk A70
      clear A70
      replace H := Option.bind_eq_some_iff.mp H
      obtain ⟨t540, A80, H⟩ := H
      replace H : (if t540 < 0 then (some (0, 3)) else ((impl_octaveOf.f a1).bind fun t541 => (some (wrap64 ((wrap64 (t541 * (l0.length : Int))) + t540), 0)))) = some (r1, r2) := H
      have A8 := Aside0.mk A80
      clear A80
      by_cases c9 : t540 < 0
      · rw [if_pos c9] at H
        have c9b0 : decide (t540 < 0) = true := decide_eq_true c9
        clear c9
        simp only [Option.some.injEq, Prod.mk.injEq] at H
        obtain ⟨rfl, rfl⟩ := H
        go_enter Try.func68, Try.ntmps68
        go_wp2_with (first | ((with_reducible refine gate_callee (f := 62) rfl ?_); refine goesL_ (some 9) rfl rfl Try.func62 (by kernel_rfl) rfl #[.slice A0 l0.length c0] rfl (by (try simp only [List.map_toArray, List.map_cons, List.map_nil]); first | done | rfl | (simp only [List.length_drop, List.length_take]; rfl)) ?_; (with_reducible refine (impl_ValidScale.calls k _ _ l0 true _ ?side1 ?side2 A3.out).mono ?_); (case side1 => repeat (first | exact HR0.out | (with_reducible refine Kd.C_alloc ?_ _) | (with_reducible refine Kd.C_drewN ?_ _) | (with_reducible refine Kd.C_drew ?_))); (case side2 => exact HC0.out); rintro e w' ⟨rfl, ⟨nd, rfl⟩⟩; refine ⟨_, rfl, ?_⟩) | ((with_reducible refine gate_callee (f := 92) rfl ?_); refine goesL_ (some 13) rfl rfl Try.func92 (by kernel_rfl) rfl #[.int .i64 a1] rfl (by (try simp only [List.map_toArray, List.map_cons, List.map_nil]); first | done | rfl | (simp only [List.length_drop, List.length_take]; rfl)) ?_; (with_reducible refine (impl_pitchOk.calls a1 true _ A5.out).mono ?_); rintro e w' ⟨rfl, ⟨nd, rfl⟩⟩; refine ⟨_, rfl, ?_⟩) | ((with_reducible refine gate_callee (f := 94) rfl ?_); refine goesL_ (some 17) rfl rfl Try.func94 (by kernel_rfl) rfl #[.int .i64 a1] rfl (by (try simp only [List.map_toArray, List.map_cons, List.map_nil]); first | done | rfl | (simp only [List.length_drop, List.length_take]; rfl)) ?_; (with_reducible refine (impl_ToneOf.calls a1 t539 _ A7.out).mono ?_); rintro e w' ⟨rfl, ⟨nd, rfl⟩⟩; refine ⟨_, rfl, ?_⟩) | ((with_reducible refine gate_callee (f := 93) rfl ?_); refine goesL_ (some 18) rfl rfl Try.func93 (by kernel_rfl) rfl #[.slice A0 l0.length c0, .int .i64 t539] rfl (by (try simp only [List.map_toArray, List.map_cons, List.map_nil]); first | done | rfl | (simp only [List.length_drop, List.length_take]; rfl)) ?_; (with_reducible refine (slices_Index_int64_int64.calls k _ _ l0 t539 t540 _ ?side1 ?side2 A8.out).mono ?_); (case side1 => repeat (first | exact HR0.out | (with_reducible refine Kd.C_alloc ?_ _) | (with_reducible refine Kd.C_drewN ?_ _) | (with_reducible refine Kd.C_drew ?_))); (case side2 => exact HC0.out); rintro e w' ⟨rfl, ⟨nd, rfl⟩⟩; refine ⟨_, rfl, ?_⟩))
        go_ret2
        exact ⟨by first | rfl | (simp; done) | (simp [*]; done), by repeat (first | exact Drawn0.refl _ | apply Drawn0.step)⟩
      · rw [if_neg c9] at H
        have c9b0 : decide (t540 < 0) = false := decide_eq_false c9
        clear c9
        replace H := Option.bind_eq_some_iff.mp H
        obtain ⟨t541, A100, H⟩ := H
        replace H : (some (wrap64 ((wrap64 (t541 * (l0.length : Int))) + t540), 0)) = some (r1, r2) := H
        have A10 := Aside0.mk A100
        clear A100
        simp only [Option.some.injEq, Prod.mk.injEq] at H
        obtain ⟨rfl, rfl⟩ := H
        go_enter Try.func68, Try.ntmps68
        go_wp2_with (first | ((with_reducible refine gate_callee (f := 62) rfl ?_); refine goesL_ (some 9) rfl rfl Try.func62 (by kernel_rfl) rfl #[.slice A0 l0.length c0] rfl (by (try simp only [List.map_toArray, List.map_cons, List.map_nil]); first | done | rfl | (simp only [List.length_drop, List.length_take]; rfl)) ?_; (with_reducible refine (impl_ValidScale.calls k _ _ l0 true _ ?side1 ?side2 A3.out).mono ?_); (case side1 => repeat (first | exact HR0.out | (with_reducible refine Kd.C_alloc ?_ _) | (with_reducible refine Kd.C_drewN ?_ _) | (with_reducible refine Kd.C_drew ?_))); (case side2 => exact HC0.out); rintro e w' ⟨rfl, ⟨nd, rfl⟩⟩; refine ⟨_, rfl, ?_⟩) | ((with_reducible refine gate_callee (f := 92) rfl ?_); refine goesL_ (some 13) rfl rfl Try.func92 (by kernel_rfl) rfl #[.int .i64 a1] rfl (by (try simp only [List.map_toArray, List.map_cons, List.map_nil]); first | done | rfl | (simp only [List.length_drop, List.length_take]; rfl)) ?_; (with_reducible refine (impl_pitchOk.calls a1 true _ A5.out).mono ?_); rintro e w' ⟨rfl, ⟨nd, rfl⟩⟩; refine ⟨_, rfl, ?_⟩) | ((with_reducible refine gate_callee (f := 94) rfl ?_); refine goesL_ (some 17) rfl rfl Try.func94 (by kernel_rfl) rfl #[.int .i64 a1] rfl (by (try simp only [List.map_toArray, List.map_cons, List.map_nil]); first | done | rfl | (simp only [List.length_drop, List.length_take]; rfl)) ?_; (with_reducible refine (impl_ToneOf.calls a1 t539 _ A7.out).mono ?_); rintro e w' ⟨rfl, ⟨nd, rfl⟩⟩; refine ⟨_, rfl, ?_⟩) | ((with_reducible refine gate_callee (f := 93) rfl ?_); refine goesL_ (some 18) rfl rfl Try.func93 (by kernel_rfl) rfl #[.slice A0 l0.length c0, .int .i64 t539] rfl (by (try simp only [List.map_toArray, List.map_cons, List.map_nil]); first | done | rfl | (simp only [List.length_drop, List.length_take]; rfl)) ?_; (with_reducible refine (slices_Index_int64_int64.calls k _ _ l0 t539 t540 _ ?side1 ?side2 A8.out).mono ?_); (case side1 => repeat (first | exact HR0.out | (with_reducible refine Kd.C_alloc ?_ _) | (with_reducible refine Kd.C_drewN ?_ _) | (with_reducible refine Kd.C_drew ?_))); (case side2 => exact HC0.out); rintro e w' ⟨rfl, ⟨nd, rfl⟩⟩; refine ⟨_, rfl, ?_⟩) | ((with_reducible refine gate_callee (f := 95) rfl ?_); refine goesL_ (some 22) rfl rfl Try.func95 (by kernel_rfl) rfl #[.int .i64 a1] rfl (by (try simp only [List.map_toArray, List.map_cons, List.map_nil]); first | done | rfl | (simp only [List.length_drop, List.length_take]; rfl)) ?_; (with_reducible refine (impl_octaveOf.calls a1 t541 _ A10.out).mono ?_); rintro e w' ⟨rfl, ⟨nd, rfl⟩⟩; refine ⟨_, rfl, ?_⟩))
        go_ret2
        exact ⟨by first | rfl | (simp; done) | (simp [*]; done), by repeat (first | exact Drawn0.refl _ | apply Drawn0.step)⟩
    · replace c6 := Bool.eq_false_iff.mpr c6
      subst c6
      have H1 : (some (0, 2)) = some (r1, r2) := by rw [if_neg (show ¬ (false = true) by decide)] at H; exact H
      clear H
      have H := H1
      clear H1
      simp only [Option.some.injEq, Prod.mk.injEq] at H
      obtain ⟨rfl, rfl⟩ := H
      go_enter Try.func68, Try.ntmps68
      go_wp2_with (first | ((with_reducible refine gate_callee (f := 62) rfl ?_); refine goesL_ (some 9) rfl rfl Try.func62 (by kernel_rfl) rfl #[.slice A0 l0.length c0] rfl (by (try simp only [List.map_toArray, List.map_cons, List.map_nil]); first | done | rfl | (simp only [List.length_drop, List.length_take]; rfl)) ?_; (with_reducible refine (impl_ValidScale.calls k _ _ l0 true _ ?side1 ?side2 A3.out).mono ?_); (case side1 => repeat (first | exact HR0.out | (with_reducible refine Kd.C_alloc ?_ _) | (with_reducible refine Kd.C_drewN ?_ _) | (with_reducible refine Kd.C_drew ?_))); (case side2 => exact HC0.out); rintro e w' ⟨rfl, ⟨nd, rfl⟩⟩; refine ⟨_, rfl, ?_⟩) | ((with_reducible refine gate_callee (f := 92) rfl ?_); refine goesL_ (some 13) rfl rfl Try.func92 (by kernel_rfl) rfl #[.int .i64 a1] rfl (by (try simp only [List.map_toArray, List.map_cons, List.map_nil]); first | done | rfl | (simp only [List.length_drop, List.length_take]; rfl)) ?_; (with_reducible refine (impl_pitchOk.calls a1 false _ A5.out).mono ?_); rintro e w' ⟨rfl, ⟨nd, rfl⟩⟩; refine ⟨_, rfl, ?_⟩))
      go_ret2
      exact ⟨by first | rfl | (simp; done) | (simp [*]; done), by repeat (first | exact Drawn0.refl _ | apply Drawn0.step)⟩
  · replace c4 := Bool.eq_false_iff.mpr c4
    subst c4
    have H1 : (some (0, 1)) = some (r1, r2) := by rw [if_neg (show ¬ (false = true) by decide)] at H; exact H
    clear H
    have H := H1
    clear H1
    simp only [Option.some.injEq, Prod.mk.injEq] at H
    obtain ⟨rfl, rfl⟩ := H
    go_enter Try.func68, Try.ntmps68
    go_wp2_with (first | ((with_reducible refine gate_callee (f := 62) rfl ?_); refine goesL_ (some 9) rfl rfl Try.func62 (by kernel_rfl) rfl #[.slice A0 l0.length c0] rfl (by (try simp only [List.map_toArray, List.map_cons, List.map_nil]); first | done | rfl | (simp only [List.length_drop, List.length_take]; rfl)) ?_; (with_reducible refine (impl_ValidScale.calls k _ _ l0 false _ ?side1 ?side2 A3.out).mono ?_); (case side1 => repeat (first | exact HR0.out | (with_reducible refine Kd.C_alloc ?_ _) | (with_reducible refine Kd.C_drewN ?_ _) | (with_reducible refine Kd.C_drew ?_))); (case side2 => exact HC0.out); rintro e w' ⟨rfl, ⟨nd, rfl⟩⟩; refine ⟨_, rfl, ?_⟩))
    go_ret2
    exact ⟨by first | rfl | (simp; done) | (simp [*]; done), by repeat (first | exact Drawn0.refl _ | apply Drawn0.step)⟩

end Go.Proofs.Ytddhommmokdlnaa.P
end

section
namespace Go.Proofs.Ytddhommmokdlnaa.P
open Go.RowKit Go.Proofs.YtddhommmokdlnaaW.PrintWords Go.Proofs.YtddhommmokdlnaaW.PrintLast Go.Proofs.YtddhommmokdlnaaW.PrintMore
attribute [local go_sem] max2_int min2_int max_two min_two max_three min_three max_four min_four   -- for this text's walks alone
set_option linter.unusedVariables false
set_option linter.unusedSimpArgs false

/-! ### impl_pitchesOk: function 67 -/
def impl_pitchesOk.f (l0 : List Int) : Option (Bool) := if (l0.length : Int) ≤ 64 then ((impl_allWithin.f l0 (-12) 23).bind fun t534 => (some t534)) else (some false)
set_option maxHeartbeats 8000000 in
set_option maxRecDepth 100000 in
theorem impl_pitchesOk.calls (A0 : Option Addr) (c0 : Nat) (l0 : List Int) (r : Bool) (w : World) (hr0 : Kd.C (Kd.int .i64) w A0 l0.length l0) (hc0 : l0.length ≤ c0) (h : impl_pitchesOk.f l0 = some r) :
    Calls Try.prog 67 #[.slice A0 l0.length c0] w fun e w' => e = .returned (.bool r) ∧ Below w.heap.size w w' := by
  have HR0 := Aside0.mk hr0
  have HC0 := Aside0.mk hc0
  clear hr0 hc0
  have HB := Aside0.mk (Below.refl w.heap.size w)
  have H : (if (l0.length : Int) ≤ 64 then ((impl_allWithin.f l0 (-12) 23).bind fun t534 => (some t534)) else (some false)) = some r := h
  clear h
  by_cases c2 : (l0.length : Int) ≤ 64
  · rw [if_pos c2] at H
    have c2b0 : decide ((l0.length : Int) ≤ 64) = true := decide_eq_true c2
    have c2b1 : decide (l0.length ≤ 64) = true := decide_eq_true (by omega)
    clear c2
    replace H := Option.bind_eq_some_iff.mp H
    obtain ⟨t534, A30, H⟩ := H
    replace H : (some t534) = some r := H
    have A3 := Aside0.mk A30
    clear A30
    obtain rfl := Option.some.inj H
    go_enter Try.func67, Try.ntmps67
    go_wp2_with (first | (go_at_call 79; (with_reducible refine (impl_allWithin.calls _ _ l0 (-12) 23 t534 _ ?side1 ?side2 A3.out).mono ?_); (case side1 => repeat (first | exact HR0.out | (with_reducible refine Kd.C_alloc ?_ _) | (with_reducible refine Kd.C_drewN ?_ _) | (with_reducible refine Kd.C_drew ?_))); (case side2 => exact HC0.out); rintro e w4 ⟨rfl, hb⟩; have n0_ := Aside0.mk (below_step (by repeat (first | (with_reducible first | exact HB.out | apply below_alloc | apply pw_below_drewN | apply below_drew1) | exact HB.out)) hb); clear HB; have HB := n0_; clear n0_; (try clear hb); (try clear hb2); (try clear hk); (try clear hi)))
    go_ret
    exact ⟨by first | rfl | (simp [errW_none, errW_some] <;> rfl) | (simp [*, errW_none, errW_some] <;> rfl), by repeat (first | (with_reducible first | exact HB.out | apply below_alloc | apply pw_below_drewN | apply below_drew1) | exact HB.out)⟩
  · rw [if_neg c2] at H
    have c2b0 : decide ((l0.length : Int) ≤ 64) = false := decide_eq_false c2
    have c2b1 : decide (l0.length ≤ 64) = false := decide_eq_false (by omega)
    clear c2
    obtain rfl := Option.some.inj H
    go_enter Try.func67, Try.ntmps67
    go_wp2
    go_ret
    exact ⟨by first | rfl | (simp [errW_none, errW_some] <;> rfl) | (simp [*, errW_none, errW_some] <;> rfl), by repeat (first | (with_reducible first | exact HB.out | apply below_alloc | apply pw_below_drewN | apply below_drew1) | exact HB.out)⟩

end Go.Proofs.Ytddhommmokdlnaa.P
end
