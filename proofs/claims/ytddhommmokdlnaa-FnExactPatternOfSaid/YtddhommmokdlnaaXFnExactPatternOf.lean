/- The pure statement of FnExactPatternOf. No condition. -/
import Derived.Test.YtddhommmokdlnaaGb1
import Derived.Test.YtddhommmokdlnaaGb2
import Derived.Test.YtddhommmokdlnaaGb3
section
namespace Go.Proofs.Ytddhommmokdlnaa.P
open Go.RowKit Go.Proofs.YtddhommmokdlnaaW.PrintWords Go.Proofs.YtddhommmokdlnaaW.PrintLast Go.Proofs.YtddhommmokdlnaaW.PrintMore
attribute [local go_sem] max2_int min2_int max_two min_two max_three min_three max_four min_four   -- for this text's walks alone
set_option linter.unusedVariables false
set_option linter.unusedSimpArgs false

/-! ### laws_FnExactPatternOf: function 9 -/
mutual
def laws_FnExactPatternOf.j0 : Nat → List Int → List Int → List Int → Int → List Int → List Int → List Int → Int → Bool → Option (Bool)
  | 0, _, _, _, _, _, _, _, _, _ => none
  | k + 1, x0, x1, x5, x6, x7, x8, x9, x10, x48 => if x48 = true then (some false) else ((laws_toInt64S.f k x0).bind fun t576 => ((laws_eqInt64S.f k x7 t576).bind fun t579 => (if t579 = true then ((laws_toInt64S.f k x1).bind fun t580 => ((laws_eqInt64S.f k x8 t580).bind fun t583 => (if t583 = true then ((laws_markInt64S.f k x7 1).bind fun bt584 => ((laws_markInt64S.f k x8 bt584.1).bind fun bt586 => (if bt586.1 < 0 then (laws_FnExactPatternOf.j1 k x0 x1 x5 x6 x9 true) else ((laws_eqInt64S.f k x9 x5).bind fun t588 => (if t588 = true then (laws_FnExactPatternOf.j1 k x0 x1 x5 x6 x9 (x10 != x6)) else (laws_FnExactPatternOf.j1 k x0 x1 x5 x6 x9 true)))))) else (some false)))) else (some false))))
def laws_FnExactPatternOf.j1 : Nat → List Int → List Int → List Int → Int → List Int → Bool → Option (Bool)
  | 0, _, _, _, _, _, _ => none
  | k + 1, x0, x1, x5, x6, x9, x77 => if x77 = true then (some false) else ((laws_markInt64S.f k x9 1).bind fun bt589 => ((laws_heldInt64S.f k bt589.2 1).bind fun t591 => (if t591 < 0 then (some false) else (if t591 = bt589.1 then ((laws_toInt64S.f k x0).bind fun t592 => ((laws_toInt64S.f k x1).bind fun t595 => ((impl_PatternOf.f k t592 t595).bind fun bt598 => ((laws_eqInt64S.f k bt598.1 x5).bind fun t602 => (if t602 = true then (laws_FnExactPatternOf.j2 k bt589.2 bt589.1 (bt598.2 != x6)) else (laws_FnExactPatternOf.j2 k bt589.2 bt589.1 true)))))) else (some false)))))
def laws_FnExactPatternOf.j2 : Nat → List Int → Int → Bool → Option (Bool)
  | 0, _, _, _ => none
  | k + 1, x9, x12, x105 => if x105 = true then (some false) else ((laws_heldInt64S.f k x9 1).bind fun t603 => (if t603 < 0 then (some false) else (if t603 = x12 then (some true) else (some false))))
end
def laws_FnExactPatternOf.f (k : Nat) (l0 : List Int) (l1 : List Int) : Option (Bool) := if (l0.length : Int) > 1048576 then (some true) else (if (l1.length : Int) > 1048576 then (some true) else ((laws_toInt64S.f k l0).bind fun t555 => ((laws_toInt64S.f k l1).bind fun t558 => ((spec_PatternOf.f k t555 t558).bind fun bt561 => ((laws_toInt64S.f k l0).bind fun t565 => ((laws_toInt64S.f k l1).bind fun t568 => ((impl_PatternOf.f k t565 t568).bind fun bt571 => ((laws_eqInt64S.f k bt571.1 bt561.1).bind fun t575 => (if t575 = true then (laws_FnExactPatternOf.j0 k l0 l1 bt561.1 bt561.2 t565 t568 bt571.1 bt571.2 (bt571.2 != bt561.2)) else (laws_FnExactPatternOf.j0 k l0 l1 bt561.1 bt561.2 t565 t568 bt571.1 bt571.2 true))))))))))
theorem laws_FnExactPatternOf.mono_l : ∀ k, (∀ y0 y1 y2 y3 y4 y5 y6 y7 y8, LeO (laws_FnExactPatternOf.j0 k y0 y1 y2 y3 y4 y5 y6 y7 y8) (laws_FnExactPatternOf.j0 (k + 1) y0 y1 y2 y3 y4 y5 y6 y7 y8)) ∧ (∀ y0 y1 y2 y3 y4 y5, LeO (laws_FnExactPatternOf.j1 k y0 y1 y2 y3 y4 y5) (laws_FnExactPatternOf.j1 (k + 1) y0 y1 y2 y3 y4 y5)) ∧ (∀ y0 y1 y2, LeO (laws_FnExactPatternOf.j2 k y0 y1 y2) (laws_FnExactPatternOf.j2 (k + 1) y0 y1 y2))
  | 0 => ⟨fun _ _ _ _ _ _ _ _ _ r h => by simp [laws_FnExactPatternOf.j0] at h, fun _ _ _ _ _ _ r h => by simp [laws_FnExactPatternOf.j1] at h, fun _ _ _ r h => by simp [laws_FnExactPatternOf.j2] at h⟩
  | k + 1 => by
    obtain ⟨ih0, ih1, ih2⟩ := laws_FnExactPatternOf.mono_l k
    refine ⟨?_, ?_, ?_⟩
    · intro y0 y1 y2 y3 y4 y5 y6 y7 y8
      unfold laws_FnExactPatternOf.j0
      repeat' first
      | (with_reducible exact ih0 _ _ _ _ _ _ _ _ _)
      | (with_reducible exact ih1 _ _ _ _ _ _)
      | (with_reducible exact ih2 _ _ _)
      | (with_reducible exact impl_PatternOf.mono _ _ _)
      | (with_reducible exact laws_eqInt64S.mono _ _ _)
      | (with_reducible exact laws_heldInt64S.mono _ _ _)
      | (with_reducible exact laws_markInt64S.mono _ _ _)
      | (with_reducible exact laws_toInt64S.mono _ _)
      | (with_reducible exact spec_PatternOf.mono _ _ _)
      | (with_reducible exact LeO.refl _)
      | (with_reducible exact LeO.none _)
      | (with_reducible refine LeO.ite ?_ ?_)
      | (with_reducible refine LeO.bind ?_ (fun _ => ?_))
      | exact ih0 _ _ _ _ _ _ _ _ _
      | exact ih1 _ _ _ _ _ _
      | exact ih2 _ _ _
      | exact impl_PatternOf.mono _ _ _
      | exact laws_eqInt64S.mono _ _ _
      | exact laws_heldInt64S.mono _ _ _
      | exact laws_markInt64S.mono _ _ _
      | exact laws_toInt64S.mono _ _
      | exact spec_PatternOf.mono _ _ _
      | exact LeO.none _
      | refine LeO.ite ?_ ?_
      | refine LeO.bind ?_ (fun _ => ?_)
    · intro y0 y1 y2 y3 y4 y5
      unfold laws_FnExactPatternOf.j1
      repeat' first
      | (with_reducible exact ih0 _ _ _ _ _ _ _ _ _)
      | (with_reducible exact ih1 _ _ _ _ _ _)
      | (with_reducible exact ih2 _ _ _)
      | (with_reducible exact impl_PatternOf.mono _ _ _)
      | (with_reducible exact laws_eqInt64S.mono _ _ _)
      | (with_reducible exact laws_heldInt64S.mono _ _ _)
      | (with_reducible exact laws_markInt64S.mono _ _ _)
      | (with_reducible exact laws_toInt64S.mono _ _)
      | (with_reducible exact spec_PatternOf.mono _ _ _)
      | (with_reducible exact LeO.refl _)
      | (with_reducible exact LeO.none _)
      | (with_reducible refine LeO.ite ?_ ?_)
      | (with_reducible refine LeO.bind ?_ (fun _ => ?_))
      | exact ih0 _ _ _ _ _ _ _ _ _
      | exact ih1 _ _ _ _ _ _
      | exact ih2 _ _ _
      | exact impl_PatternOf.mono _ _ _
      | exact laws_eqInt64S.mono _ _ _
      | exact laws_heldInt64S.mono _ _ _
      | exact laws_markInt64S.mono _ _ _
      | exact laws_toInt64S.mono _ _
      | exact spec_PatternOf.mono _ _ _
      | exact LeO.none _
      | refine LeO.ite ?_ ?_
      | refine LeO.bind ?_ (fun _ => ?_)
    · intro y0 y1 y2
      unfold laws_FnExactPatternOf.j2
      repeat' first
      | (with_reducible exact ih0 _ _ _ _ _ _ _ _ _)
      | (with_reducible exact ih1 _ _ _ _ _ _)
      | (with_reducible exact ih2 _ _ _)
      | (with_reducible exact impl_PatternOf.mono _ _ _)
      | (with_reducible exact laws_eqInt64S.mono _ _ _)
      | (with_reducible exact laws_heldInt64S.mono _ _ _)
      | (with_reducible exact laws_markInt64S.mono _ _ _)
      | (with_reducible exact laws_toInt64S.mono _ _)
      | (with_reducible exact spec_PatternOf.mono _ _ _)
      | (with_reducible exact LeO.refl _)
      | (with_reducible exact LeO.none _)
      | (with_reducible refine LeO.ite ?_ ?_)
      | (with_reducible refine LeO.bind ?_ (fun _ => ?_))
      | exact ih0 _ _ _ _ _ _ _ _ _
      | exact ih1 _ _ _ _ _ _
      | exact ih2 _ _ _
      | exact impl_PatternOf.mono _ _ _
      | exact laws_eqInt64S.mono _ _ _
      | exact laws_heldInt64S.mono _ _ _
      | exact laws_markInt64S.mono _ _ _
      | exact laws_toInt64S.mono _ _
      | exact spec_PatternOf.mono _ _ _
      | exact LeO.none _
      | refine LeO.ite ?_ ?_
      | refine LeO.bind ?_ (fun _ => ?_)
theorem laws_FnExactPatternOf.mono : ∀ a0 a1 k, LeO (laws_FnExactPatternOf.f k a0 a1) (laws_FnExactPatternOf.f (k + 1) a0 a1) := by
  intro a0 a1 k
  obtain ⟨ih0, ih1, ih2⟩ := laws_FnExactPatternOf.mono_l k
  unfold laws_FnExactPatternOf.f
  repeat' first
      | (with_reducible exact ih0 _ _ _ _ _ _ _ _ _)
      | (with_reducible exact ih1 _ _ _ _ _ _)
      | (with_reducible exact ih2 _ _ _)
      | (with_reducible exact impl_PatternOf.mono _ _ _)
      | (with_reducible exact laws_eqInt64S.mono _ _ _)
      | (with_reducible exact laws_heldInt64S.mono _ _ _)
      | (with_reducible exact laws_markInt64S.mono _ _ _)
      | (with_reducible exact laws_toInt64S.mono _ _)
      | (with_reducible exact spec_PatternOf.mono _ _ _)
      | (with_reducible exact LeO.refl _)
      | (with_reducible exact LeO.none _)
      | (with_reducible refine LeO.ite ?_ ?_)
      | (with_reducible refine LeO.bind ?_ (fun _ => ?_))
      | exact ih0 _ _ _ _ _ _ _ _ _
      | exact ih1 _ _ _ _ _ _
      | exact ih2 _ _ _
      | exact impl_PatternOf.mono _ _ _
      | exact laws_eqInt64S.mono _ _ _
      | exact laws_heldInt64S.mono _ _ _
      | exact laws_markInt64S.mono _ _ _
      | exact laws_toInt64S.mono _ _
      | exact spec_PatternOf.mono _ _ _
      | exact LeO.none _
      | refine LeO.ite ?_ ?_
      | refine LeO.bind ?_ (fun _ => ?_)
set_option maxHeartbeats 8000000 in
set_option maxRecDepth 100000 in
theorem laws_FnExactPatternOf.calls (k : Nat) (A0 : Option Addr) (c0 : Nat) (l0 : List Int) (A1 : Option Addr) (c1 : Nat) (l1 : List Int) (r : Bool) (w : World) (hr0 : Kd.C (Kd.int .i64) w A0 l0.length l0) (hc0 : l0.length ≤ c0) (hr1 : Kd.C (Kd.int .i64) w A1 l1.length l1) (hc1 : l1.length ≤ c1) (hT : r = true) (h : laws_FnExactPatternOf.f k l0 l1 = some r) :
    Calls Try.prog 9 #[.slice A0 l0.length c0, .slice A1 l1.length c1] w fun e w' => e = .returned (.bool r) ∧ Below w.heap.size w w' := by
  have HR0 := Aside0.mk hr0
  have HC0 := Aside0.mk hc0
  clear hr0 hc0
  have HR1 := Aside0.mk hr1
  have HC1 := Aside0.mk hc1
  clear hr1 hc1
  have HT := Aside0.mk hT
  clear hT
  have HB := Aside0.mk (Below.refl w.heap.size w)
  have H : (if (l0.length : Int) > 1048576 then (some true) else (if (l1.length : Int) > 1048576 then (some true) else ((laws_toInt64S.f k l0).bind fun t555 => ((laws_toInt64S.f k l1).bind fun t558 => ((spec_PatternOf.f k t555 t558).bind fun bt561 => ((laws_toInt64S.f k l0).bind fun t565 => ((laws_toInt64S.f k l1).bind fun t568 => ((impl_PatternOf.f k t565 t568).bind fun bt571 => ((laws_eqInt64S.f k bt571.1 bt561.1).bind fun t575 => (if t575 = true then (laws_FnExactPatternOf.j0 k l0 l1 bt561.1 bt561.2 t565 t568 bt571.1 bt571.2 (bt571.2 != bt561.2)) else (laws_FnExactPatternOf.j0 k l0 l1 bt561.1 bt561.2 t565 t568 bt571.1 bt571.2 true))))))))))) = some r := h
  clear h
  by_cases c3 : (l0.length : Int) > 1048576
  · rw [if_pos c3] at H
    have c3b0 : decide (1048576 < (l0.length : Int)) = true := decide_eq_true c3
    have c3b1 : decide (1048576 < l0.length) = true := decide_eq_true (by omega)
    clear c3
    obtain rfl := Option.some.inj H
    go_enter Try.func9, Try.ntmps9
    go_wp2
    go_ret
    exact ⟨by first | rfl | (simp [errW_none, errW_some] <;> rfl) | (simp [*, errW_none, errW_some] <;> rfl), by repeat (first | (with_reducible first | exact HB.out | apply below_alloc | apply pw_below_drewN | apply below_drew1) | exact HB.out)⟩
  · rw [if_neg c3] at H
    have c3b0 : decide (1048576 < (l0.length : Int)) = false := decide_eq_false c3
    have c3b1 : decide (1048576 < l0.length) = false := decide_eq_false (by omega)
    clear c3
    by_cases c4 : (l1.length : Int) > 1048576
    · rw [if_pos c4] at H
      have c4b0 : decide (1048576 < (l1.length : Int)) = true := decide_eq_true c4
      have c4b1 : decide (1048576 < l1.length) = true := decide_eq_true (by omega)
      clear c4
      obtain rfl := Option.some.inj H
      go_enter Try.func9, Try.ntmps9
      go_wp2
      go_ret
      exact ⟨by first | rfl | (simp [errW_none, errW_some] <;> rfl) | (simp [*, errW_none, errW_some] <;> rfl), by repeat (first | (with_reducible first | exact HB.out | apply below_alloc | apply pw_below_drewN | apply below_drew1) | exact HB.out)⟩
    · rw [if_neg c4] at H
      have c4b0 : decide (1048576 < (l1.length : Int)) = false := decide_eq_false c4
      have c4b1 : decide (1048576 < l1.length) = false := decide_eq_false (by omega)
      clear c4
      replace H := Option.bind_eq_some_iff.mp H
      obtain ⟨t555, A50, H⟩ := H
      replace H : ((laws_toInt64S.f k l1).bind fun t558 => ((spec_PatternOf.f k t555 t558).bind fun bt561 => ((laws_toInt64S.f k l0).bind fun t565 => ((laws_toInt64S.f k l1).bind fun t568 => ((impl_PatternOf.f k t565 t568).bind fun bt571 => ((laws_eqInt64S.f k bt571.1 bt561.1).bind fun t575 => (if t575 = true then (laws_FnExactPatternOf.j0 k l0 l1 bt561.1 bt561.2 t565 t568 bt571.1 bt571.2 (bt571.2 != bt561.2)) else (laws_FnExactPatternOf.j0 k l0 l1 bt561.1 bt561.2 t565 t568 bt571.1 bt571.2 true)))))))) = some r := H
      have A5 := Aside0.mk A50
      clear A50
      replace H := Option.bind_eq_some_iff.mp H
      obtain ⟨t558, A60, H⟩ := H
      replace H : ((spec_PatternOf.f k t555 t558).bind fun bt561 => ((laws_toInt64S.f k l0).bind fun t565 => ((laws_toInt64S.f k l1).bind fun t568 => ((impl_PatternOf.f k t565 t568).bind fun bt571 => ((laws_eqInt64S.f k bt571.1 bt561.1).bind fun t575 => (if t575 = true then (laws_FnExactPatternOf.j0 k l0 l1 bt561.1 bt561.2 t565 t568 bt571.1 bt571.2 (bt571.2 != bt561.2)) else (laws_FnExactPatternOf.j0 k l0 l1 bt561.1 bt561.2 t565 t568 bt571.1 bt571.2 true))))))) = some r := H
      have A6 := Aside0.mk A60
      clear A60
      replace H := Option.bind_eq_some_iff.mp H
      obtain ⟨⟨t561, t562⟩, A70, H⟩ := H
      replace H : ((laws_toInt64S.f k l0).bind fun t565 => ((laws_toInt64S.f k l1).bind fun t568 => ((impl_PatternOf.f k t565 t568).bind fun bt571 => ((laws_eqInt64S.f k bt571.1 t561).bind fun t575 => (if t575 = true then (laws_FnExactPatternOf.j0 k l0 l1 t561 t562 t565 t568 bt571.1 bt571.2 (bt571.2 != t562)) else (laws_FnExactPatternOf.j0 k l0 l1 t561 t562 t565 t568 bt571.1 bt571.2 true)))))) = some r := H
      have A7 := Aside0.mk A70
      clear A70
      replace H := Option.bind_eq_some_iff.mp H
      obtain ⟨t565, A80, H⟩ := H
      replace H : ((laws_toInt64S.f k l1).bind fun t568 => ((impl_PatternOf.f k t565 t568).bind fun bt571 => ((laws_eqInt64S.f k bt571.1 t561).bind fun t575 => (if t575 = true then (laws_FnExactPatternOf.j0 k l0 l1 t561 t562 t565 t568 bt571.1 bt571.2 (bt571.2 != t562)) else (laws_FnExactPatternOf.j0 k l0 l1 t561 t562 t565 t568 bt571.1 bt571.2 true))))) = some r := H
      have A8 := Aside0.mk A80
      clear A80
      replace H := Option.bind_eq_some_iff.mp H
      obtain ⟨t568, A90, H⟩ := H
      replace H : ((impl_PatternOf.f k t565 t568).bind fun bt571 => ((laws_eqInt64S.f k bt571.1 t561).bind fun t575 => (if t575 = true then (laws_FnExactPatternOf.j0 k l0 l1 t561 t562 t565 t568 bt571.1 bt571.2 (bt571.2 != t562)) else (laws_FnExactPatternOf.j0 k l0 l1 t561 t562 t565 t568 bt571.1 bt571.2 true)))) = some r := H
      have A9 := Aside0.mk A90
      clear A90
      replace H := Option.bind_eq_some_iff.mp H
      obtain ⟨⟨t571, t572⟩, A100, H⟩ := H
      replace H : ((laws_eqInt64S.f k t571 t561).bind fun t575 => (if t575 = true then (laws_FnExactPatternOf.j0 k l0 l1 t561 t562 t565 t568 t571 t572 (t572 != t562)) else (laws_FnExactPatternOf.j0 k l0 l1 t561 t562 t565 t568 t571 t572 true))) = some r := H
      have A10 := Aside0.mk A100
      clear A100
      have HC11 := Aside0.mk H
      clear H
      go_enter Try.func9, Try.ntmps9
      go_upto_region 9 with (first | ((with_reducible refine gate_callee (f := 16) rfl ?_); refine goesL_ (some 24) rfl rfl Try.func16 (by kernel_rfl) rfl #[.slice A0 l0.length c0] rfl (by (try simp only [List.map_toArray, List.map_cons, List.map_nil]); first | done | rfl | (simp only [List.length_drop, List.length_take]; rfl)) ?_; (with_reducible refine (laws_toInt64S.calls k _ _ l0 t555 _ ?side1 ?side2 A5.out).mono ?_); (case side1 => repeat (first | exact HR0.out | (with_reducible refine Kd.C_alloc ?_ _) | (with_reducible refine Kd.C_drewN ?_ _) | (with_reducible refine Kd.C_drew ?_))); (case side2 => exact HC0.out); rintro e w12 ⟨v556, rfl, ho0, hb⟩; refine ⟨_, rfl, ?_⟩; have n0_ := Aside0.mk (Kd.R_lower ho0 (below_size (by repeat (first | (with_reducible first | exact HB.out | apply below_alloc | apply pw_below_drewN | apply below_drew1) | exact HB.out)))); have n1_ := Aside0.mk (below_step (by repeat (first | (with_reducible first | exact HB.out | apply below_alloc | apply pw_below_drewN | apply below_drew1) | exact HB.out)) hb); clear HB; have HO557 := n0_; have HB := n1_; clear n0_ n1_; (try clear hb); (try clear hb2); (try clear hk); (try clear hi); (try clear ho0)) | ((with_reducible refine gate_callee (f := 16) rfl ?_); refine goesL_ (some 26) rfl rfl Try.func16 (by kernel_rfl) rfl #[.slice A1 l1.length c1] rfl (by (try simp only [List.map_toArray, List.map_cons, List.map_nil]); first | done | rfl | (simp only [List.length_drop, List.length_take]; rfl)) ?_; (with_reducible refine (laws_toInt64S.calls k _ _ l1 t558 _ ?side1 ?side2 A6.out).mono ?_); (case side1 => repeat (first | exact (Kd.C_below HR1.out HB.out) | (with_reducible refine Kd.C_alloc ?_ _) | (with_reducible refine Kd.C_drewN ?_ _) | (with_reducible refine Kd.C_drew ?_))); (case side2 => exact HC1.out); rintro e w13 ⟨v559, rfl, ho0, hb⟩; refine ⟨_, rfl, ?_⟩; have n0_ := Aside0.mk (Kd.R_elder' (by (with_reducible repeat (first | apply Kd.R_alloc | apply Kd.R_drewN | apply Kd.R_drew)); exact HO557.out) (Kd.R_base ho0) hb); have n1_ := Aside0.mk (Kd.R_lower (Kd.R_new' ho0 (Kd.R_lt (by (with_reducible repeat (first | apply Kd.R_alloc | apply Kd.R_drewN | apply Kd.R_drew)); exact HO557.out))) (below_size (by repeat (first | (with_reducible first | exact HB.out | apply below_alloc | apply pw_below_drewN | apply below_drew1) | exact HB.out)))); have n2_ := Aside0.mk (below_step (by repeat (first | (with_reducible first | exact HB.out | apply below_alloc | apply pw_below_drewN | apply below_drew1) | exact HB.out)) hb); clear HO557; clear HB; have HO557 := n0_; have HO560 := n1_; have HB := n2_; clear n0_ n1_ n2_; (try clear hb); (try clear hb2); (try clear hk); (try clear hi); (try clear ho0); obtain ⟨Ao14, co14, eo14⟩ := Kd.R_slice HO557.out; subst eo14; obtain ⟨Ao15, co15, eo15⟩ := Kd.R_slice HO560.out; subst eo15) | ((with_reducible refine gate_callee (f := 31) rfl ?_); refine goesL_ (some 27) rfl rfl Try.func31 (by kernel_rfl) rfl #[.slice Ao14 t555.length co14, .slice Ao15 t558.length co15] rfl (by (try simp only [List.map_toArray, List.map_cons, List.map_nil]); first | done | rfl | (simp only [List.length_drop, List.length_take]; rfl)) ?_; (with_reducible refine (spec_PatternOf.calls k _ _ t555 _ _ t558 t561 t562 _ ?side1 ?side2 ?side3 ?side4 A7.out).mono ?_); (case side1 => repeat (first | exact (Kd.R_reads' HO557.out).2.2 | (with_reducible refine Kd.C_alloc ?_ _) | (with_reducible refine Kd.C_drewN ?_ _) | (with_reducible refine Kd.C_drew ?_))); (case side2 => exact (Kd.R_reads' HO557.out).2.1); (case side3 => repeat (first | exact (Kd.R_reads' HO560.out).2.2 | (with_reducible refine Kd.C_alloc ?_ _) | (with_reducible refine Kd.C_drewN ?_ _) | (with_reducible refine Kd.C_drew ?_))); (case side4 => exact (Kd.R_reads' HO560.out).2.1); rintro e w16 ⟨v563, rfl, ho0, hb⟩; refine ⟨_, rfl, ?_⟩; have n0_ := Aside0.mk (Kd.R_elder' (by (with_reducible repeat (first | apply Kd.R_alloc | apply Kd.R_drewN | apply Kd.R_drew)); exact HO557.out) (Kd.R_base ho0) hb); have n1_ := Aside0.mk (Kd.R_elder' (by (with_reducible repeat (first | apply Kd.R_alloc | apply Kd.R_drewN | apply Kd.R_drew)); exact HO560.out) (Kd.R_base ho0) hb); have n2_ := Aside0.mk (Kd.R_lower (Kd.R_new' (Kd.R_new' ho0 (Kd.R_lt (by (with_reducible repeat (first | apply Kd.R_alloc | apply Kd.R_drewN | apply Kd.R_drew)); exact HO557.out))) (Kd.R_lt (by (with_reducible repeat (first | apply Kd.R_alloc | apply Kd.R_drewN | apply Kd.R_drew)); exact HO560.out))) (below_size (by repeat (first | (with_reducible first | exact HB.out | apply below_alloc | apply pw_below_drewN | apply below_drew1) | exact HB.out)))); have n3_ := Aside0.mk (below_step (by repeat (first | (with_reducible first | exact HB.out | apply below_alloc | apply pw_below_drewN | apply below_drew1) | exact HB.out)) hb); clear HO557; clear HO560; clear HB; have HO557 := n0_; have HO560 := n1_; have HO564 := n2_; have HB := n3_; clear n0_ n1_ n2_ n3_; (try clear hb); (try clear hb2); (try clear hk); (try clear hi); (try clear ho0)) | ((with_reducible refine gate_callee (f := 16) rfl ?_); refine goesL_ (some 31) rfl rfl Try.func16 (by kernel_rfl) rfl #[.slice A0 l0.length c0] rfl (by (try simp only [List.map_toArray, List.map_cons, List.map_nil]); first | done | rfl | (simp only [List.length_drop, List.length_take]; rfl)) ?_; (with_reducible refine (laws_toInt64S.calls k _ _ l0 t565 _ ?side1 ?side2 A8.out).mono ?_); (case side1 => repeat (first | exact (Kd.C_below HR0.out HB.out) | (with_reducible refine Kd.C_alloc ?_ _) | (with_reducible refine Kd.C_drewN ?_ _) | (with_reducible refine Kd.C_drew ?_))); (case side2 => exact HC0.out); rintro e w17 ⟨v566, rfl, ho0, hb⟩; refine ⟨_, rfl, ?_⟩; have n0_ := Aside0.mk (Kd.R_elder' (by (with_reducible repeat (first | apply Kd.R_alloc | apply Kd.R_drewN | apply Kd.R_drew)); exact HO557.out) (Kd.R_base ho0) hb); have n1_ := Aside0.mk (Kd.R_elder' (by (with_reducible repeat (first | apply Kd.R_alloc | apply Kd.R_drewN | apply Kd.R_drew)); exact HO560.out) (Kd.R_base ho0) hb); have n2_ := Aside0.mk (Kd.R_elder' (by (with_reducible repeat (first | apply Kd.R_alloc | apply Kd.R_drewN | apply Kd.R_drew)); exact HO564.out) (Kd.R_base ho0) hb); have n3_ := Aside0.mk (Kd.R_lower (Kd.R_new' (Kd.R_new' (Kd.R_new' ho0 (Kd.R_lt (by (with_reducible repeat (first | apply Kd.R_alloc | apply Kd.R_drewN | apply Kd.R_drew)); exact HO557.out))) (Kd.R_lt (by (with_reducible repeat (first | apply Kd.R_alloc | apply Kd.R_drewN | apply Kd.R_drew)); exact HO560.out))) (Kd.R_lt (by (with_reducible repeat (first | apply Kd.R_alloc | apply Kd.R_drewN | apply Kd.R_drew)); exact HO564.out))) (below_size (by repeat (first | (with_reducible first | exact HB.out | apply below_alloc | apply pw_below_drewN | apply below_drew1) | exact HB.out)))); have n4_ := Aside0.mk (below_step (by repeat (first | (with_reducible first | exact HB.out | apply below_alloc | apply pw_below_drewN | apply below_drew1) | exact HB.out)) hb); clear HO557; clear HO560; clear HO564; clear HB; have HO557 := n0_; have HO560 := n1_; have HO564 := n2_; have HO567 := n3_; have HB := n4_; clear n0_ n1_ n2_ n3_ n4_; (try clear hb); (try clear hb2); (try clear hk); (try clear hi); (try clear ho0)) | ((with_reducible refine gate_callee (f := 16) rfl ?_); refine goesL_ (some 33) rfl rfl Try.func16 (by kernel_rfl) rfl #[.slice A1 l1.length c1] rfl (by (try simp only [List.map_toArray, List.map_cons, List.map_nil]); first | done | rfl | (simp only [List.length_drop, List.length_take]; rfl)) ?_; (with_reducible refine (laws_toInt64S.calls k _ _ l1 t568 _ ?side1 ?side2 A9.out).mono ?_); (case side1 => repeat (first | exact (Kd.C_below HR1.out HB.out) | (with_reducible refine Kd.C_alloc ?_ _) | (with_reducible refine Kd.C_drewN ?_ _) | (with_reducible refine Kd.C_drew ?_))); (case side2 => exact HC1.out); rintro e w18 ⟨v569, rfl, ho0, hb⟩; refine ⟨_, rfl, ?_⟩; have n0_ := Aside0.mk (Kd.R_elder' (by (with_reducible repeat (first | apply Kd.R_alloc | apply Kd.R_drewN | apply Kd.R_drew)); exact HO557.out) (Kd.R_base ho0) hb); have n1_ := Aside0.mk (Kd.R_elder' (by (with_reducible repeat (first | apply Kd.R_alloc | apply Kd.R_drewN | apply Kd.R_drew)); exact HO560.out) (Kd.R_base ho0) hb); have n2_ := Aside0.mk (Kd.R_elder' (by (with_reducible repeat (first | apply Kd.R_alloc | apply Kd.R_drewN | apply Kd.R_drew)); exact HO564.out) (Kd.R_base ho0) hb); have n3_ := Aside0.mk (Kd.R_elder' (by (with_reducible repeat (first | apply Kd.R_alloc | apply Kd.R_drewN | apply Kd.R_drew)); exact HO567.out) (Kd.R_base ho0) hb); have n4_ := Aside0.mk (Kd.R_lower (Kd.R_new' (Kd.R_new' (Kd.R_new' (Kd.R_new' ho0 (Kd.R_lt (by (with_reducible repeat (first | apply Kd.R_alloc | apply Kd.R_drewN | apply Kd.R_drew)); exact HO557.out))) (Kd.R_lt (by (with_reducible repeat (first | apply Kd.R_alloc | apply Kd.R_drewN | apply Kd.R_drew)); exact HO560.out))) (Kd.R_lt (by (with_reducible repeat (first | apply Kd.R_alloc | apply Kd.R_drewN | apply Kd.R_drew)); exact HO564.out))) (Kd.R_lt (by (with_reducible repeat (first | apply Kd.R_alloc | apply Kd.R_drewN | apply Kd.R_drew)); exact HO567.out))) (below_size (by repeat (first | (with_reducible first | exact HB.out | apply below_alloc | apply pw_below_drewN | apply below_drew1) | exact HB.out)))); have n5_ := Aside0.mk (below_step (by repeat (first | (with_reducible first | exact HB.out | apply below_alloc | apply pw_below_drewN | apply below_drew1) | exact HB.out)) hb); clear HO557; clear HO560; clear HO564; clear HO567; clear HB; have HO557 := n0_; have HO560 := n1_; have HO564 := n2_; have HO567 := n3_; have HO570 := n4_; have HB := n5_; clear n0_ n1_ n2_ n3_ n4_ n5_; (try clear hb); (try clear hb2); (try clear hk); (try clear hi); (try clear ho0); obtain ⟨Ao19, co19, eo19⟩ := Kd.R_slice HO567.out; subst eo19; obtain ⟨Ao20, co20, eo20⟩ := Kd.R_slice HO570.out; subst eo20) | ((with_reducible refine gate_callee (f := 32) rfl ?_); refine goesL_ (some 37) rfl rfl Try.func32 (by kernel_rfl) rfl #[.slice Ao19 t565.length co19, .slice Ao20 t568.length co20] rfl (by (try simp only [List.map_toArray, List.map_cons, List.map_nil]); first | done | rfl | (simp only [List.length_drop, List.length_take]; rfl)) ?_; (with_reducible refine (impl_PatternOf.calls k _ _ t565 _ _ t568 t571 t572 _ ?side1 ?side2 ?side3 ?side4 A10.out).mono ?_); (case side1 => repeat (first | exact (Kd.R_reads' HO567.out).2.2 | (with_reducible refine Kd.C_alloc ?_ _) | (with_reducible refine Kd.C_drewN ?_ _) | (with_reducible refine Kd.C_drew ?_))); (case side2 => exact (Kd.R_reads' HO567.out).2.1); (case side3 => repeat (first | exact (Kd.R_reads' HO570.out).2.2 | (with_reducible refine Kd.C_alloc ?_ _) | (with_reducible refine Kd.C_drewN ?_ _) | (with_reducible refine Kd.C_drew ?_))); (case side4 => exact (Kd.R_reads' HO570.out).2.1); rintro e w21 ⟨v573, rfl, ho0, hb⟩; refine ⟨_, rfl, ?_⟩; have n0_ := Aside0.mk (Kd.R_elder' (by (with_reducible repeat (first | apply Kd.R_alloc | apply Kd.R_drewN | apply Kd.R_drew)); exact HO557.out) (Kd.R_base ho0) hb); have n1_ := Aside0.mk (Kd.R_elder' (by (with_reducible repeat (first | apply Kd.R_alloc | apply Kd.R_drewN | apply Kd.R_drew)); exact HO560.out) (Kd.R_base ho0) hb); have n2_ := Aside0.mk (Kd.R_elder' (by (with_reducible repeat (first | apply Kd.R_alloc | apply Kd.R_drewN | apply Kd.R_drew)); exact HO564.out) (Kd.R_base ho0) hb); have n3_ := Aside0.mk (Kd.R_elder' (by (with_reducible repeat (first | apply Kd.R_alloc | apply Kd.R_drewN | apply Kd.R_drew)); exact HO567.out) (Kd.R_base ho0) hb); have n4_ := Aside0.mk (Kd.R_elder' (by (with_reducible repeat (first | apply Kd.R_alloc | apply Kd.R_drewN | apply Kd.R_drew)); exact HO570.out) (Kd.R_base ho0) hb); have n5_ := Aside0.mk (Kd.R_lower (Kd.R_new' (Kd.R_new' (Kd.R_new' (Kd.R_new' (Kd.R_new' ho0 (Kd.R_lt (by (with_reducible repeat (first | apply Kd.R_alloc | apply Kd.R_drewN | apply Kd.R_drew)); exact HO557.out))) (Kd.R_lt (by (with_reducible repeat (first | apply Kd.R_alloc | apply Kd.R_drewN | apply Kd.R_drew)); exact HO560.out))) (Kd.R_lt (by (with_reducible repeat (first | apply Kd.R_alloc | apply Kd.R_drewN | apply Kd.R_drew)); exact HO564.out))) (Kd.R_lt (by (with_reducible repeat (first | apply Kd.R_alloc | apply Kd.R_drewN | apply Kd.R_drew)); exact HO567.out))) (Kd.R_lt (by (with_reducible repeat (first | apply Kd.R_alloc | apply Kd.R_drewN | apply Kd.R_drew)); exact HO570.out))) (below_size (by repeat (first | (with_reducible first | exact HB.out | apply below_alloc | apply pw_below_drewN | apply below_drew1) | exact HB.out)))); have n6_ := Aside0.mk (below_step (by repeat (first | (with_reducible first | exact HB.out | apply below_alloc | apply pw_below_drewN | apply below_drew1) | exact HB.out)) hb); clear HO557; clear HO560; clear HO564; clear HO567; clear HO570; clear HB; have HO557 := n0_; have HO560 := n1_; have HO564 := n2_; have HO567 := n3_; have HO570 := n4_; have HO574 := n5_; have HB := n6_; clear n0_ n1_ n2_ n3_ n4_ n5_ n6_; (try clear hb); (try clear hb2); (try clear hk); (try clear hi); (try clear ho0)))
      (try simp only [Act.put, List.setIfInBounds_toArray, List.set_cons_zero, List.set_cons_succ])
      go_cut [48] (fun v48 wc => ∃ (kq : Nat) (x48_10 : Bool), v48 = .bool x48_10 ∧ Aside0 (laws_FnExactPatternOf.j0 kq l0 l1 t561 t562 t565 t568 t571 t572 x48_10 = some r) ∧ Aside0 (kq ≤ k) ∧ Aside0 (Kd.R (Kd.int .i64) 2 wc w.heap.size (fun k_ => some k_ ≠ ((.slice Ao19 t565.length co19) : Value).ownBlock ∧ some k_ ≠ ((.slice Ao20 t568.length co20) : Value).ownBlock ∧ some k_ ≠ (v573 : Value).ownBlock) v563 t561) ∧ Aside0 (Kd.R (Kd.int .i64) 2 wc w.heap.size (fun k_ => some k_ ≠ (v563 : Value).ownBlock ∧ some k_ ≠ ((.slice Ao20 t568.length co20) : Value).ownBlock ∧ some k_ ≠ (v573 : Value).ownBlock) (.slice Ao19 t565.length co19) t565) ∧ Aside0 (Kd.R (Kd.int .i64) 2 wc w.heap.size (fun k_ => some k_ ≠ (v563 : Value).ownBlock ∧ some k_ ≠ ((.slice Ao19 t565.length co19) : Value).ownBlock ∧ some k_ ≠ (v573 : Value).ownBlock) (.slice Ao20 t568.length co20) t568) ∧ Aside0 (Kd.R (Kd.int .i64) 2 wc w.heap.size (fun k_ => some k_ ≠ (v563 : Value).ownBlock ∧ some k_ ≠ ((.slice Ao19 t565.length co19) : Value).ownBlock ∧ some k_ ≠ ((.slice Ao20 t568.length co20) : Value).ownBlock) v573 t571) ∧ Aside0 (Below w.heap.size w wc))
      case first =>
        have H := HC11.out
        clear HC11
        replace H := Option.bind_eq_some_iff.mp H
        obtain ⟨t575, A220, H⟩ := H
        replace H : (if t575 = true then (laws_FnExactPatternOf.j0 k l0 l1 t561 t562 t565 t568 t571 t572 (t572 != t562)) else (laws_FnExactPatternOf.j0 k l0 l1 t561 t562 t565 t568 t571 t572 true)) = some r := H
        have A22 := Aside0.mk A220
        clear A220
        by_cases c23 : t575 = true
        · subst c23
          have H1 : (laws_FnExactPatternOf.j0 k l0 l1 t561 t562 t565 t568 t571 t572 (t572 != t562)) = some r := by rw [if_pos rfl] at H; exact H
          clear H
          have H := H1
          clear H1
          have H' := Aside0.mk H
          clear H
          obtain ⟨Ao24, co24, eo24⟩ := Kd.R_slice HO574.out
          subst eo24
          obtain ⟨Ao25, co25, eo25⟩ := Kd.R_slice HO564.out
          subst eo25
          go_wp2_with (first | ((with_reducible refine gate_callee (f := 18) rfl ?_); refine goesL_ (some 42) rfl rfl Try.func18 (by kernel_rfl) rfl #[.slice Ao24 t571.length co24, .slice Ao25 t561.length co25] rfl (by (try simp only [List.map_toArray, List.map_cons, List.map_nil]); first | done | rfl | (simp only [List.length_drop, List.length_take]; rfl)) ?_; (with_reducible refine (laws_eqInt64S.calls k _ _ t571 _ _ t561 true _ ?side1 ?side2 ?side3 ?side4 A22.out).mono ?_); (case side1 => repeat (first | exact (Kd.R_reads' HO574.out).2.2 | (with_reducible refine Kd.C_alloc ?_ _) | (with_reducible refine Kd.C_drewN ?_ _) | (with_reducible refine Kd.C_drew ?_))); (case side2 => exact (Kd.R_reads' HO574.out).2.1); (case side3 => repeat (first | exact (Kd.R_reads' HO564.out).2.2 | (with_reducible refine Kd.C_alloc ?_ _) | (with_reducible refine Kd.C_drewN ?_ _) | (with_reducible refine Kd.C_drew ?_))); (case side4 => exact (Kd.R_reads' HO564.out).2.1); rintro e w' ⟨rfl, ⟨nd, rfl⟩⟩; refine ⟨_, rfl, ?_⟩))
          go_meet
          case rel => exact ⟨_, ((t572 != t562)), (by first | rfl | (simp; done) | (simp [*]; done)), H', ⟨by first | omega | exact Nat.le_refl _⟩, ⟨by (with_reducible repeat (first | apply Kd.R_alloc | apply Kd.R_drewN | apply Kd.R_drew)); exact Kd.R_mono HO564.out (fun _ hk => ⟨hk.1.1.2, ⟨hk.1.2, hk.2⟩⟩)⟩, ⟨by (with_reducible repeat (first | apply Kd.R_alloc | apply Kd.R_drewN | apply Kd.R_drew)); exact Kd.R_mono HO567.out (fun _ hk => ⟨hk.1.1.2, ⟨hk.1.2, hk.2⟩⟩)⟩, ⟨by (with_reducible repeat (first | apply Kd.R_alloc | apply Kd.R_drewN | apply Kd.R_drew)); exact Kd.R_mono HO570.out (fun _ hk => ⟨hk.1.1.2, ⟨hk.1.2, hk.2⟩⟩)⟩, ⟨by (with_reducible repeat (first | apply Kd.R_alloc | apply Kd.R_drewN | apply Kd.R_drew)); exact Kd.R_mono HO574.out (fun _ hk => ⟨hk.1.1.2, ⟨hk.1.2, hk.2⟩⟩)⟩, ⟨by repeat (first | (with_reducible first | exact HB.out | apply below_alloc | apply pw_below_drewN | apply below_drew1) | exact HB.out)⟩⟩
        · replace c23 := Bool.eq_false_iff.mpr c23
          subst c23
          have H1 : (laws_FnExactPatternOf.j0 k l0 l1 t561 t562 t565 t568 t571 t572 true) = some r := by rw [if_neg (show ¬ (false = true) by decide)] at H; exact H
          clear H
          have H := H1
          clear H1
          have H' := Aside0.mk H
          clear H
          obtain ⟨Ao26, co26, eo26⟩ := Kd.R_slice HO574.out
          subst eo26
          obtain ⟨Ao27, co27, eo27⟩ := Kd.R_slice HO564.out
          subst eo27
          go_wp2_with (first | ((with_reducible refine gate_callee (f := 18) rfl ?_); refine goesL_ (some 42) rfl rfl Try.func18 (by kernel_rfl) rfl #[.slice Ao26 t571.length co26, .slice Ao27 t561.length co27] rfl (by (try simp only [List.map_toArray, List.map_cons, List.map_nil]); first | done | rfl | (simp only [List.length_drop, List.length_take]; rfl)) ?_; (with_reducible refine (laws_eqInt64S.calls k _ _ t571 _ _ t561 false _ ?side1 ?side2 ?side3 ?side4 A22.out).mono ?_); (case side1 => repeat (first | exact (Kd.R_reads' HO574.out).2.2 | (with_reducible refine Kd.C_alloc ?_ _) | (with_reducible refine Kd.C_drewN ?_ _) | (with_reducible refine Kd.C_drew ?_))); (case side2 => exact (Kd.R_reads' HO574.out).2.1); (case side3 => repeat (first | exact (Kd.R_reads' HO564.out).2.2 | (with_reducible refine Kd.C_alloc ?_ _) | (with_reducible refine Kd.C_drewN ?_ _) | (with_reducible refine Kd.C_drew ?_))); (case side4 => exact (Kd.R_reads' HO564.out).2.1); rintro e w' ⟨rfl, ⟨nd, rfl⟩⟩; refine ⟨_, rfl, ?_⟩))
          go_meet
          case rel => exact ⟨_, (true), (by first | rfl | (simp; done) | (simp [*]; done)), H', ⟨by first | omega | exact Nat.le_refl _⟩, ⟨by (with_reducible repeat (first | apply Kd.R_alloc | apply Kd.R_drewN | apply Kd.R_drew)); exact Kd.R_mono HO564.out (fun _ hk => ⟨hk.1.1.2, ⟨hk.1.2, hk.2⟩⟩)⟩, ⟨by (with_reducible repeat (first | apply Kd.R_alloc | apply Kd.R_drewN | apply Kd.R_drew)); exact Kd.R_mono HO567.out (fun _ hk => ⟨hk.1.1.2, ⟨hk.1.2, hk.2⟩⟩)⟩, ⟨by (with_reducible repeat (first | apply Kd.R_alloc | apply Kd.R_drewN | apply Kd.R_drew)); exact Kd.R_mono HO570.out (fun _ hk => ⟨hk.1.1.2, ⟨hk.1.2, hk.2⟩⟩)⟩, ⟨by (with_reducible repeat (first | apply Kd.R_alloc | apply Kd.R_drewN | apply Kd.R_drew)); exact Kd.R_mono HO574.out (fun _ hk => ⟨hk.1.1.2, ⟨hk.1.2, hk.2⟩⟩)⟩, ⟨by repeat (first | (with_reducible first | exact HB.out | apply below_alloc | apply pw_below_drewN | apply below_drew1) | exact HB.out)⟩⟩
      case rest =>
        clear HC11
        try clear c1
        try clear c2
        try clear p2
        try clear c3
        try clear c3b0
        try clear c3b1
        try clear c4
        try clear c4b0
        try clear c4b1
        try clear c9
        try clear c16
        try clear c18
        try clear c23
        obtain ⟨kq, x48_10, rfl, HA, HJ10, HO_5, HO_7, HO_8, HO_9, HB⟩ := hcut
        cases kq with
        | zero => exact absurd HA.out (by simp [laws_FnExactPatternOf.j0])
        | succ kj10 =>
          have H := HA.out
          clear HA
          simp only [laws_FnExactPatternOf.j0] at H
          by_cases c28 : x48_10 = true
          · subst c28
            have H1 : (some false) = some r := by rw [if_pos rfl] at H; exact H
            clear H
            have H := H1
            clear H1
            exact absurd ((Option.some.inj H).trans HT.out) (by decide)
          · replace c28 := Bool.eq_false_iff.mpr c28
            subst c28
            have H1 : ((laws_toInt64S.f kj10 l0).bind fun t576 => ((laws_eqInt64S.f kj10 t565 t576).bind fun t579 => (if t579 = true then ((laws_toInt64S.f kj10 l1).bind fun t580 => ((laws_eqInt64S.f kj10 t568 t580).bind fun t583 => (if t583 = true then ((laws_markInt64S.f kj10 t565 1).bind fun bt584 => ((laws_markInt64S.f kj10 t568 bt584.1).bind fun bt586 => (if bt586.1 < 0 then (laws_FnExactPatternOf.j1 kj10 l0 l1 t561 t562 t571 true) else ((laws_eqInt64S.f kj10 t571 t561).bind fun t588 => (if t588 = true then (laws_FnExactPatternOf.j1 kj10 l0 l1 t561 t562 t571 (t572 != t562)) else (laws_FnExactPatternOf.j1 kj10 l0 l1 t561 t562 t571 true)))))) else (some false)))) else (some false)))) = some r := by rw [if_neg (show ¬ (false = true) by decide)] at H; exact H
            clear H
            have H := H1
            clear H1
            replace H := Option.bind_eq_some_iff.mp H
            obtain ⟨t576, A290, H⟩ := H
            replace H : ((laws_eqInt64S.f kj10 t565 t576).bind fun t579 => (if t579 = true then ((laws_toInt64S.f kj10 l1).bind fun t580 => ((laws_eqInt64S.f kj10 t568 t580).bind fun t583 => (if t583 = true then ((laws_markInt64S.f kj10 t565 1).bind fun bt584 => ((laws_markInt64S.f kj10 t568 bt584.1).bind fun bt586 => (if bt586.1 < 0 then (laws_FnExactPatternOf.j1 kj10 l0 l1 t561 t562 t571 true) else ((laws_eqInt64S.f kj10 t571 t561).bind fun t588 => (if t588 = true then (laws_FnExactPatternOf.j1 kj10 l0 l1 t561 t562 t571 (t572 != t562)) else (laws_FnExactPatternOf.j1 kj10 l0 l1 t561 t562 t571 true)))))) else (some false)))) else (some false))) = some r := H
            have A29 := Aside0.mk A290
            clear A290
            replace H := Option.bind_eq_some_iff.mp H
            obtain ⟨t579, A300, H⟩ := H
            replace H : (if t579 = true then ((laws_toInt64S.f kj10 l1).bind fun t580 => ((laws_eqInt64S.f kj10 t568 t580).bind fun t583 => (if t583 = true then ((laws_markInt64S.f kj10 t565 1).bind fun bt584 => ((laws_markInt64S.f kj10 t568 bt584.1).bind fun bt586 => (if bt586.1 < 0 then (laws_FnExactPatternOf.j1 kj10 l0 l1 t561 t562 t571 true) else ((laws_eqInt64S.f kj10 t571 t561).bind fun t588 => (if t588 = true then (laws_FnExactPatternOf.j1 kj10 l0 l1 t561 t562 t571 (t572 != t562)) else (laws_FnExactPatternOf.j1 kj10 l0 l1 t561 t562 t571 true)))))) else (some false)))) else (some false)) = some r := H
            have A30 := Aside0.mk A300
            clear A300
            by_cases c31 : t579 = true
            · subst c31
              have H1 : ((laws_toInt64S.f kj10 l1).bind fun t580 => ((laws_eqInt64S.f kj10 t568 t580).bind fun t583 => (if t583 = true then ((laws_markInt64S.f kj10 t565 1).bind fun bt584 => ((laws_markInt64S.f kj10 t568 bt584.1).bind fun bt586 => (if bt586.1 < 0 then (laws_FnExactPatternOf.j1 kj10 l0 l1 t561 t562 t571 true) else ((laws_eqInt64S.f kj10 t571 t561).bind fun t588 => (if t588 = true then (laws_FnExactPatternOf.j1 kj10 l0 l1 t561 t562 t571 (t572 != t562)) else (laws_FnExactPatternOf.j1 kj10 l0 l1 t561 t562 t571 true)))))) else (some false)))) = some r := by rw [if_pos rfl] at H; exact H
              clear H
              have H := H1
              clear H1
              replace H := Option.bind_eq_some_iff.mp H
              obtain ⟨t580, A320, H⟩ := H
              replace H : ((laws_eqInt64S.f kj10 t568 t580).bind fun t583 => (if t583 = true then ((laws_markInt64S.f kj10 t565 1).bind fun bt584 => ((laws_markInt64S.f kj10 t568 bt584.1).bind fun bt586 => (if bt586.1 < 0 then (laws_FnExactPatternOf.j1 kj10 l0 l1 t561 t562 t571 true) else ((laws_eqInt64S.f kj10 t571 t561).bind fun t588 => (if t588 = true then (laws_FnExactPatternOf.j1 kj10 l0 l1 t561 t562 t571 (t572 != t562)) else (laws_FnExactPatternOf.j1 kj10 l0 l1 t561 t562 t571 true)))))) else (some false))) = some r := H
              have A32 := Aside0.mk A320
              clear A320
              replace H := Option.bind_eq_some_iff.mp H
              obtain ⟨t583, A330, H⟩ := H
              replace H : (if t583 = true then ((laws_markInt64S.f kj10 t565 1).bind fun bt584 => ((laws_markInt64S.f kj10 t568 bt584.1).bind fun bt586 => (if bt586.1 < 0 then (laws_FnExactPatternOf.j1 kj10 l0 l1 t561 t562 t571 true) else ((laws_eqInt64S.f kj10 t571 t561).bind fun t588 => (if t588 = true then (laws_FnExactPatternOf.j1 kj10 l0 l1 t561 t562 t571 (t572 != t562)) else (laws_FnExactPatternOf.j1 kj10 l0 l1 t561 t562 t571 true)))))) else (some false)) = some r := H
              have A33 := Aside0.mk A330
              clear A330
              by_cases c34 : t583 = true
              · subst c34
                have H1 : ((laws_markInt64S.f kj10 t565 1).bind fun bt584 => ((laws_markInt64S.f kj10 t568 bt584.1).bind fun bt586 => (if bt586.1 < 0 then (laws_FnExactPatternOf.j1 kj10 l0 l1 t561 t562 t571 true) else ((laws_eqInt64S.f kj10 t571 t561).bind fun t588 => (if t588 = true then (laws_FnExactPatternOf.j1 kj10 l0 l1 t561 t562 t571 (t572 != t562)) else (laws_FnExactPatternOf.j1 kj10 l0 l1 t561 t562 t571 true)))))) = some r := by rw [if_pos rfl] at H; exact H
                clear H
                have H := H1
                clear H1
                replace H := Option.bind_eq_some_iff.mp H
                obtain ⟨⟨t584, t585⟩, A350, H⟩ := H
                replace H : ((laws_markInt64S.f kj10 t568 t584).bind fun bt586 => (if bt586.1 < 0 then (laws_FnExactPatternOf.j1 kj10 l0 l1 t561 t562 t571 true) else ((laws_eqInt64S.f kj10 t571 t561).bind fun t588 => (if t588 = true then (laws_FnExactPatternOf.j1 kj10 l0 l1 t561 t562 t571 (t572 != t562)) else (laws_FnExactPatternOf.j1 kj10 l0 l1 t561 t562 t571 true))))) = some r := H
                have A35 := Aside0.mk A350
                clear A350
                replace H := Option.bind_eq_some_iff.mp H
                obtain ⟨⟨t586, t587⟩, A360, H⟩ := H
                replace H : (if t586 < 0 then (laws_FnExactPatternOf.j1 kj10 l0 l1 t561 t562 t571 true) else ((laws_eqInt64S.f kj10 t571 t561).bind fun t588 => (if t588 = true then (laws_FnExactPatternOf.j1 kj10 l0 l1 t561 t562 t571 (t572 != t562)) else (laws_FnExactPatternOf.j1 kj10 l0 l1 t561 t562 t571 true)))) = some r := H
                have A36 := Aside0.mk A360
                clear A360
                have HC37 := Aside0.mk H
                clear H
                go_upto_region 18 with (first | ((with_reducible refine gate_callee (f := 16) rfl ?_); refine goesL_ (some 51) rfl rfl Try.func16 (by kernel_rfl) rfl #[.slice A0 l0.length c0] rfl (by (try simp only [List.map_toArray, List.map_cons, List.map_nil]); first | done | rfl | (simp only [List.length_drop, List.length_take]; rfl)) ?_; (with_reducible refine (laws_toInt64S.calls kj10 _ _ l0 t576 _ ?side1 ?side2 A29.out).mono ?_); (case side1 => repeat (first | exact (Kd.C_below HR0.out HB.out) | (with_reducible refine Kd.C_alloc ?_ _) | (with_reducible refine Kd.C_drewN ?_ _) | (with_reducible refine Kd.C_drew ?_))); (case side2 => exact HC0.out); rintro e w38 ⟨v577, rfl, ho0, hb⟩; refine ⟨_, rfl, ?_⟩; have n0_ := Aside0.mk (Kd.R_elder' (by (with_reducible repeat (first | apply Kd.R_alloc | apply Kd.R_drewN | apply Kd.R_drew)); exact HO_5.out) (Kd.R_base ho0) hb); have n1_ := Aside0.mk (Kd.R_elder' (by (with_reducible repeat (first | apply Kd.R_alloc | apply Kd.R_drewN | apply Kd.R_drew)); exact HO_7.out) (Kd.R_base ho0) hb); have n2_ := Aside0.mk (Kd.R_elder' (by (with_reducible repeat (first | apply Kd.R_alloc | apply Kd.R_drewN | apply Kd.R_drew)); exact HO_8.out) (Kd.R_base ho0) hb); have n3_ := Aside0.mk (Kd.R_elder' (by (with_reducible repeat (first | apply Kd.R_alloc | apply Kd.R_drewN | apply Kd.R_drew)); exact HO_9.out) (Kd.R_base ho0) hb); have n4_ := Aside0.mk (Kd.R_lower (Kd.R_new' (Kd.R_new' (Kd.R_new' (Kd.R_new' ho0 (Kd.R_lt (by (with_reducible repeat (first | apply Kd.R_alloc | apply Kd.R_drewN | apply Kd.R_drew)); exact HO_5.out))) (Kd.R_lt (by (with_reducible repeat (first | apply Kd.R_alloc | apply Kd.R_drewN | apply Kd.R_drew)); exact HO_7.out))) (Kd.R_lt (by (with_reducible repeat (first | apply Kd.R_alloc | apply Kd.R_drewN | apply Kd.R_drew)); exact HO_8.out))) (Kd.R_lt (by (with_reducible repeat (first | apply Kd.R_alloc | apply Kd.R_drewN | apply Kd.R_drew)); exact HO_9.out))) (below_size (by repeat (first | (with_reducible first | exact HB.out | apply below_alloc | apply pw_below_drewN | apply below_drew1) | exact HB.out)))); have n5_ := Aside0.mk (below_step (by repeat (first | (with_reducible first | exact HB.out | apply below_alloc | apply pw_below_drewN | apply below_drew1) | exact HB.out)) hb); clear HO_5; clear HO_7; clear HO_8; clear HO_9; clear HB; have HO_5 := n0_; have HO_7 := n1_; have HO_8 := n2_; have HO_9 := n3_; have HO578 := n4_; have HB := n5_; clear n0_ n1_ n2_ n3_ n4_ n5_; (try clear hb); (try clear hb2); (try clear hk); (try clear hi); (try clear ho0); obtain ⟨Ao39, co39, eo39⟩ := Kd.R_slice HO578.out; subst eo39) | ((with_reducible refine gate_callee (f := 18) rfl ?_); refine goesL_ (some 52) rfl rfl Try.func18 (by kernel_rfl) rfl #[.slice Ao19 t565.length co19, .slice Ao39 t576.length co39] rfl (by (try simp only [List.map_toArray, List.map_cons, List.map_nil]); first | done | rfl | (simp only [List.length_drop, List.length_take]; rfl)) ?_; (with_reducible refine (laws_eqInt64S.calls kj10 _ _ t565 _ _ t576 true _ ?side1 ?side2 ?side3 ?side4 A30.out).mono ?_); (case side1 => repeat (first | exact (Kd.R_reads' HO_7.out).2.2 | (with_reducible refine Kd.C_alloc ?_ _) | (with_reducible refine Kd.C_drewN ?_ _) | (with_reducible refine Kd.C_drew ?_))); (case side2 => exact (Kd.R_reads' HO_7.out).2.1); (case side3 => repeat (first | exact (Kd.R_reads' HO578.out).2.2 | (with_reducible refine Kd.C_alloc ?_ _) | (with_reducible refine Kd.C_drewN ?_ _) | (with_reducible refine Kd.C_drew ?_))); (case side4 => exact (Kd.R_reads' HO578.out).2.1); rintro e w' ⟨rfl, ⟨nd, rfl⟩⟩; refine ⟨_, rfl, ?_⟩) | ((with_reducible refine gate_callee (f := 16) rfl ?_); refine goesL_ (some 56) rfl rfl Try.func16 (by kernel_rfl) rfl #[.slice A1 l1.length c1] rfl (by (try simp only [List.map_toArray, List.map_cons, List.map_nil]); first | done | rfl | (simp only [List.length_drop, List.length_take]; rfl)) ?_; (with_reducible refine (laws_toInt64S.calls kj10 _ _ l1 t580 _ ?side1 ?side2 A32.out).mono ?_); (case side1 => repeat (first | exact (Kd.C_below HR1.out (by repeat (first | (with_reducible first | exact HB.out | apply below_alloc | apply pw_below_drewN | apply below_drew1) | exact HB.out))) | (with_reducible refine Kd.C_alloc ?_ _) | (with_reducible refine Kd.C_drewN ?_ _) | (with_reducible refine Kd.C_drew ?_))); (case side2 => exact HC1.out); rintro e w40 ⟨v581, rfl, ho0, hb⟩; refine ⟨_, rfl, ?_⟩; have n0_ := Aside0.mk (Kd.R_elder' (by (with_reducible repeat (first | apply Kd.R_alloc | apply Kd.R_drewN | apply Kd.R_drew)); exact HO_5.out) (Kd.R_base ho0) hb); have n1_ := Aside0.mk (Kd.R_elder' (by (with_reducible repeat (first | apply Kd.R_alloc | apply Kd.R_drewN | apply Kd.R_drew)); exact HO_7.out) (Kd.R_base ho0) hb); have n2_ := Aside0.mk (Kd.R_elder' (by (with_reducible repeat (first | apply Kd.R_alloc | apply Kd.R_drewN | apply Kd.R_drew)); exact HO_8.out) (Kd.R_base ho0) hb); have n3_ := Aside0.mk (Kd.R_elder' (by (with_reducible repeat (first | apply Kd.R_alloc | apply Kd.R_drewN | apply Kd.R_drew)); exact HO_9.out) (Kd.R_base ho0) hb); have n4_ := Aside0.mk (Kd.R_elder' (by (with_reducible repeat (first | apply Kd.R_alloc | apply Kd.R_drewN | apply Kd.R_drew)); exact HO578.out) (Kd.R_base ho0) hb); have n5_ := Aside0.mk (Kd.R_lower (Kd.R_new' (Kd.R_new' (Kd.R_new' (Kd.R_new' (Kd.R_new' ho0 (Kd.R_lt (by (with_reducible repeat (first | apply Kd.R_alloc | apply Kd.R_drewN | apply Kd.R_drew)); exact HO_5.out))) (Kd.R_lt (by (with_reducible repeat (first | apply Kd.R_alloc | apply Kd.R_drewN | apply Kd.R_drew)); exact HO_7.out))) (Kd.R_lt (by (with_reducible repeat (first | apply Kd.R_alloc | apply Kd.R_drewN | apply Kd.R_drew)); exact HO_8.out))) (Kd.R_lt (by (with_reducible repeat (first | apply Kd.R_alloc | apply Kd.R_drewN | apply Kd.R_drew)); exact HO_9.out))) (Kd.R_lt (by (with_reducible repeat (first | apply Kd.R_alloc | apply Kd.R_drewN | apply Kd.R_drew)); exact HO578.out))) (below_size (by repeat (first | (with_reducible first | exact HB.out | apply below_alloc | apply pw_below_drewN | apply below_drew1) | exact HB.out)))); have n6_ := Aside0.mk (below_step (by repeat (first | (with_reducible first | exact HB.out | apply below_alloc | apply pw_below_drewN | apply below_drew1) | exact HB.out)) hb); clear HO_5; clear HO_7; clear HO_8; clear HO_9; clear HO578; clear HB; have HO_5 := n0_; have HO_7 := n1_; have HO_8 := n2_; have HO_9 := n3_; have HO578 := n4_; have HO582 := n5_; have HB := n6_; clear n0_ n1_ n2_ n3_ n4_ n5_ n6_; (try clear hb); (try clear hb2); (try clear hk); (try clear hi); (try clear ho0); obtain ⟨Ao41, co41, eo41⟩ := Kd.R_slice HO582.out; subst eo41) | ((with_reducible refine gate_callee (f := 18) rfl ?_); refine goesL_ (some 57) rfl rfl Try.func18 (by kernel_rfl) rfl #[.slice Ao20 t568.length co20, .slice Ao41 t580.length co41] rfl (by (try simp only [List.map_toArray, List.map_cons, List.map_nil]); first | done | rfl | (simp only [List.length_drop, List.length_take]; rfl)) ?_; (with_reducible refine (laws_eqInt64S.calls kj10 _ _ t568 _ _ t580 true _ ?side1 ?side2 ?side3 ?side4 A33.out).mono ?_); (case side1 => repeat (first | exact (Kd.R_reads' HO_8.out).2.2 | (with_reducible refine Kd.C_alloc ?_ _) | (with_reducible refine Kd.C_drewN ?_ _) | (with_reducible refine Kd.C_drew ?_))); (case side2 => exact (Kd.R_reads' HO_8.out).2.1); (case side3 => repeat (first | exact (Kd.R_reads' HO582.out).2.2 | (with_reducible refine Kd.C_alloc ?_ _) | (with_reducible refine Kd.C_drewN ?_ _) | (with_reducible refine Kd.C_drew ?_))); (case side4 => exact (Kd.R_reads' HO582.out).2.1); rintro e w' ⟨rfl, ⟨nd, rfl⟩⟩; refine ⟨_, rfl, ?_⟩) | ((with_reducible refine gate_callee (f := 19) rfl ?_); refine goesL_ (some 61) rfl rfl Try.func19 (by kernel_rfl) rfl #[.slice Ao19 t565.length co19, .int .i64 1] rfl (by (try simp only [List.map_toArray, List.map_cons, List.map_nil]); first | done | rfl | (simp only [List.length_drop, List.length_take]; rfl)) ?_; (with_reducible refine (laws_markInt64S.calls kj10 (fun k_ => some k_ = (.slice Ao19 t565.length co19 : Value).ownBlock) (.slice Ao19 t565.length co19) t565 1 t584 t585 w _ ?side1 ?side2 A35.out).mono ?_); (case side1 => repeat (first | (with_reducible first | exact HB.out | apply below_alloc | apply pw_below_drewN | apply below_drew1) | exact HB.out)); (case side2 => exact Kd.R_tight rfl HO_7.out); rintro e w42 ⟨rfl, hy0, hb, hkp⟩; refine ⟨_, rfl, ?_⟩; have n0_ := Aside0.mk (Kd.R_mono (ok' := fun k_ => some k_ ≠ (.slice Ao19 t565.length co19 : Value).ownBlock ∧ some k_ ≠ (.slice Ao20 t568.length co20 : Value).ownBlock ∧ some k_ ≠ (v573 : Value).ownBlock ∧ some k_ ≠ (.slice Ao39 t576.length co39 : Value).ownBlock ∧ some k_ ≠ (.slice Ao41 t580.length co41 : Value).ownBlock) (Kd.R_keptB (HO_5.out) hkp (fun k_ hk_ hs_ => (hk_.1.1.1) hs_)) (fun k_ hk_ => ⟨hk_.1.1.1.1, hk_.1.1.1.2.1, hk_.1.1.1.2.2, hk_.1.1.2, hk_.1.2⟩)); have n1_ := Aside0.mk (Kd.R_reok rfl hy0 (fun k_ e_ => HO_7.out.1 k_ e_)); have n2_ := Aside0.mk (Kd.R_mono (ok' := fun k_ => some k_ ≠ (v563 : Value).ownBlock ∧ some k_ ≠ (.slice Ao19 t565.length co19 : Value).ownBlock ∧ some k_ ≠ (v573 : Value).ownBlock ∧ some k_ ≠ (.slice Ao39 t576.length co39 : Value).ownBlock ∧ some k_ ≠ (.slice Ao41 t580.length co41 : Value).ownBlock) (Kd.R_keptB (HO_8.out) hkp (fun k_ hk_ hs_ => (hk_.1.1.2.1) hs_)) (fun k_ hk_ => ⟨hk_.1.1.1.1, hk_.1.1.1.2.1, hk_.1.1.1.2.2, hk_.1.1.2, hk_.1.2⟩)); have n3_ := Aside0.mk (Kd.R_mono (ok' := fun k_ => some k_ ≠ (v563 : Value).ownBlock ∧ some k_ ≠ (.slice Ao19 t565.length co19 : Value).ownBlock ∧ some k_ ≠ (.slice Ao20 t568.length co20 : Value).ownBlock ∧ some k_ ≠ (.slice Ao39 t576.length co39 : Value).ownBlock ∧ some k_ ≠ (.slice Ao41 t580.length co41 : Value).ownBlock) (Kd.R_keptB (HO_9.out) hkp (fun k_ hk_ hs_ => (hk_.1.1.2.1) hs_)) (fun k_ hk_ => ⟨hk_.1.1.1.1, hk_.1.1.1.2.1, hk_.1.1.1.2.2, hk_.1.1.2, hk_.1.2⟩)); have n4_ := Aside0.mk (Kd.R_mono (ok' := fun k_ => some k_ ≠ (v563 : Value).ownBlock ∧ some k_ ≠ (.slice Ao19 t565.length co19 : Value).ownBlock ∧ some k_ ≠ (.slice Ao20 t568.length co20 : Value).ownBlock ∧ some k_ ≠ (v573 : Value).ownBlock ∧ some k_ ≠ (.slice Ao41 t580.length co41 : Value).ownBlock) (Kd.R_keptB (HO578.out) hkp (fun k_ hk_ hs_ => (hk_.1.1.1.2) hs_)) (fun k_ hk_ => ⟨hk_.1.1.1.1.1.2, hk_.1.1.1.1.2, hk_.1.1.1.2, hk_.1.1.2, hk_.1.2⟩)); have n5_ := Aside0.mk (Kd.R_mono (ok' := fun k_ => some k_ ≠ (v563 : Value).ownBlock ∧ some k_ ≠ (.slice Ao19 t565.length co19 : Value).ownBlock ∧ some k_ ≠ (.slice Ao20 t568.length co20 : Value).ownBlock ∧ some k_ ≠ (v573 : Value).ownBlock ∧ some k_ ≠ (.slice Ao39 t576.length co39 : Value).ownBlock) (Kd.R_keptB (HO582.out) hkp (fun k_ hk_ hs_ => (hk_.1.1.1.2) hs_)) (fun k_ hk_ => ⟨hk_.1.1.1.1.1.2, hk_.1.1.1.1.2, hk_.1.1.1.2, hk_.1.1.2, hk_.1.2⟩)); have n6_ := Aside0.mk (hb); clear HO_5; clear HO_7; clear HO_8; clear HO_9; clear HO578; clear HO582; clear HB; have HO_5 := n0_; have HO_7 := n1_; have HO_8 := n2_; have HO_9 := n3_; have HO578 := n4_; have HO582 := n5_; have HB := n6_; clear n0_ n1_ n2_ n3_ n4_ n5_ n6_; (try clear hb); (try clear hkp); (try clear hy0)) | ((with_reducible refine gate_callee (f := 19) rfl ?_); refine goesL_ (some 64) rfl rfl Try.func19 (by kernel_rfl) rfl #[.slice Ao20 t568.length co20, .int .i64 t584] rfl (by (try simp only [List.map_toArray, List.map_cons, List.map_nil]); first | done | rfl | (simp only [List.length_drop, List.length_take]; rfl)) ?_; (with_reducible refine (laws_markInt64S.calls kj10 (fun k_ => some k_ = (.slice Ao20 t568.length co20 : Value).ownBlock) (.slice Ao20 t568.length co20) t568 t584 t586 t587 w _ ?side1 ?side2 A36.out).mono ?_); (case side1 => repeat (first | (with_reducible first | exact HB.out | apply below_alloc | apply pw_below_drewN | apply below_drew1) | exact HB.out)); (case side2 => exact Kd.R_tight rfl HO_8.out); rintro e w43 ⟨rfl, hy0, hb, hkp⟩; refine ⟨_, rfl, ?_⟩; have n0_ := Aside0.mk (Kd.R_mono (ok' := fun k_ => some k_ ≠ (.slice Ao19 t565.length co19 : Value).ownBlock ∧ some k_ ≠ (.slice Ao20 t568.length co20 : Value).ownBlock ∧ some k_ ≠ (v573 : Value).ownBlock ∧ some k_ ≠ (.slice Ao39 t576.length co39 : Value).ownBlock ∧ some k_ ≠ (.slice Ao41 t580.length co41 : Value).ownBlock) (Kd.R_keptB (HO_5.out) hkp (fun k_ hk_ hs_ => (hk_.2.1) hs_)) (fun k_ hk_ => ⟨hk_.1.1, hk_.1.2.1, hk_.1.2.2.1, hk_.1.2.2.2.1, hk_.1.2.2.2.2⟩)); have n1_ := Aside0.mk (Kd.R_mono (ok' := fun k_ => some k_ ≠ (v563 : Value).ownBlock ∧ some k_ ≠ (.slice Ao20 t568.length co20 : Value).ownBlock ∧ some k_ ≠ (v573 : Value).ownBlock ∧ some k_ ≠ (.slice Ao39 t576.length co39 : Value).ownBlock ∧ some k_ ≠ (.slice Ao41 t580.length co41 : Value).ownBlock) (Kd.R_keptB (HO_7.out) hkp (fun k_ hk_ hs_ => (hk_.1.1.2.1) hs_)) (fun k_ hk_ => ⟨hk_.1.1.1.1, hk_.1.1.1.2.1, hk_.1.1.1.2.2, hk_.1.1.2, hk_.1.2⟩)); have n2_ := Aside0.mk (Kd.R_reok rfl hy0 (fun k_ e_ => HO_8.out.1 k_ e_)); have n3_ := Aside0.mk (Kd.R_mono (ok' := fun k_ => some k_ ≠ (v563 : Value).ownBlock ∧ some k_ ≠ (.slice Ao19 t565.length co19 : Value).ownBlock ∧ some k_ ≠ (.slice Ao20 t568.length co20 : Value).ownBlock ∧ some k_ ≠ (.slice Ao39 t576.length co39 : Value).ownBlock ∧ some k_ ≠ (.slice Ao41 t580.length co41 : Value).ownBlock) (Kd.R_keptB (HO_9.out) hkp (fun k_ hk_ hs_ => (hk_.2.2.1) hs_)) (fun k_ hk_ => ⟨hk_.1.1, hk_.1.2.1, hk_.1.2.2.1, hk_.1.2.2.2.1, hk_.1.2.2.2.2⟩)); have n4_ := Aside0.mk (Kd.R_mono (ok' := fun k_ => some k_ ≠ (v563 : Value).ownBlock ∧ some k_ ≠ (.slice Ao19 t565.length co19 : Value).ownBlock ∧ some k_ ≠ (.slice Ao20 t568.length co20 : Value).ownBlock ∧ some k_ ≠ (v573 : Value).ownBlock ∧ some k_ ≠ (.slice Ao41 t580.length co41 : Value).ownBlock) (Kd.R_keptB (HO578.out) hkp (fun k_ hk_ hs_ => (hk_.2.2.1) hs_)) (fun k_ hk_ => ⟨hk_.1.1, hk_.1.2.1, hk_.1.2.2.1, hk_.1.2.2.2.1, hk_.1.2.2.2.2⟩)); have n5_ := Aside0.mk (Kd.R_mono (ok' := fun k_ => some k_ ≠ (v563 : Value).ownBlock ∧ some k_ ≠ (.slice Ao19 t565.length co19 : Value).ownBlock ∧ some k_ ≠ (.slice Ao20 t568.length co20 : Value).ownBlock ∧ some k_ ≠ (v573 : Value).ownBlock ∧ some k_ ≠ (.slice Ao39 t576.length co39 : Value).ownBlock) (Kd.R_keptB (HO582.out) hkp (fun k_ hk_ hs_ => (hk_.2.2.1) hs_)) (fun k_ hk_ => ⟨hk_.1.1, hk_.1.2.1, hk_.1.2.2.1, hk_.1.2.2.2.1, hk_.1.2.2.2.2⟩)); have n6_ := Aside0.mk (hb); clear HO_5; clear HO_7; clear HO_8; clear HO_9; clear HO578; clear HO582; clear HB; have HO_5 := n0_; have HO_7 := n1_; have HO_8 := n2_; have HO_9 := n3_; have HO578 := n4_; have HO582 := n5_; have HB := n6_; clear n0_ n1_ n2_ n3_ n4_ n5_ n6_; (try clear hb); (try clear hkp); (try clear hy0)))
                (try simp only [Act.put, List.setIfInBounds_toArray, List.set_cons_zero, List.set_cons_succ])
                go_cut [77] (fun v77 wc => ∃ (kq : Nat) (x77_36 : Bool), v77 = .bool x77_36 ∧ Aside0 (laws_FnExactPatternOf.j1 kq l0 l1 t561 t562 t571 x77_36 = some r) ∧ Aside0 (kq ≤ kj10) ∧ Aside0 (Kd.R (Kd.int .i64) 2 wc w.heap.size (fun k_ => some k_ ≠ (v573 : Value).ownBlock) v563 t561) ∧ Aside0 (Kd.R (Kd.int .i64) 2 wc w.heap.size (fun k_ => some k_ ≠ (v563 : Value).ownBlock) v573 t571) ∧ Aside0 (Below w.heap.size w wc))
                case first =>
                  have H := HC37.out
                  clear HC37
                  by_cases c44 : t586 < 0
                  · rw [if_pos c44] at H
                    have c44b0 : decide (t586 < 0) = true := decide_eq_true c44
                    clear c44
                    (first | rw [c44b0] | (simp only [i64_w, i32_w]; rw [c44b0]) | skip)
                    have H' := Aside0.mk H
                    clear H
                    go_wp2
                    go_meet
                    case rel => exact ⟨_, (true), (by first | rfl | (simp; done) | (simp [*]; done)), H', ⟨by have := HJ10.out; first | omega | exact Nat.le_refl _⟩, ⟨by (with_reducible repeat (first | apply Kd.R_alloc | apply Kd.R_drewN | apply Kd.R_drew)); exact Kd.R_mono HO_5.out (fun _ hk => hk.2.2.1)⟩, ⟨by (with_reducible repeat (first | apply Kd.R_alloc | apply Kd.R_drewN | apply Kd.R_drew)); exact Kd.R_mono HO_9.out (fun _ hk => hk.1)⟩, ⟨by repeat (first | (with_reducible first | exact HB.out | apply below_alloc | apply pw_below_drewN | apply below_drew1) | exact HB.out)⟩⟩
                  · rw [if_neg c44] at H
                    have c44b0 : decide (t586 < 0) = false := decide_eq_false c44
                    clear c44
                    (first | rw [c44b0] | (simp only [i64_w, i32_w]; rw [c44b0]) | skip)
                    replace H := Option.bind_eq_some_iff.mp H
                    obtain ⟨t588, A450, H⟩ := H
                    replace H : (if t588 = true then (laws_FnExactPatternOf.j1 kj10 l0 l1 t561 t562 t571 (t572 != t562)) else (laws_FnExactPatternOf.j1 kj10 l0 l1 t561 t562 t571 true)) = some r := H
                    have A45 := Aside0.mk A450
                    clear A450
                    by_cases c46 : t588 = true
                    · subst c46
                      have H1 : (laws_FnExactPatternOf.j1 kj10 l0 l1 t561 t562 t571 (t572 != t562)) = some r := by rw [if_pos rfl] at H; exact H
                      clear H
                      have H := H1
                      clear H1
                      have H' := Aside0.mk H
                      clear H
                      obtain ⟨Ao47, co47, eo47⟩ := Kd.R_slice HO_9.out
                      subst eo47
                      obtain ⟨Ao48, co48, eo48⟩ := Kd.R_slice HO_5.out
                      subst eo48
                      go_wp2_with (first | (go_at_call 18; (with_reducible refine (laws_eqInt64S.calls kj10 _ _ t571 _ _ t561 true _ ?side1 ?side2 ?side3 ?side4 A45.out).mono ?_); (case side1 => repeat (first | exact (Kd.R_reads' HO_9.out).2.2 | (with_reducible refine Kd.C_alloc ?_ _) | (with_reducible refine Kd.C_drewN ?_ _) | (with_reducible refine Kd.C_drew ?_))); (case side2 => exact (Kd.R_reads' HO_9.out).2.1); (case side3 => repeat (first | exact (Kd.R_reads' HO_5.out).2.2 | (with_reducible refine Kd.C_alloc ?_ _) | (with_reducible refine Kd.C_drewN ?_ _) | (with_reducible refine Kd.C_drew ?_))); (case side4 => exact (Kd.R_reads' HO_5.out).2.1); rintro e w' ⟨rfl, ⟨nd, rfl⟩⟩))
                      go_meet
                      case rel => exact ⟨_, ((t572 != t562)), (by first | rfl | (simp; done) | (simp [*]; done)), H', ⟨by have := HJ10.out; first | omega | exact Nat.le_refl _⟩, ⟨by (with_reducible repeat (first | apply Kd.R_alloc | apply Kd.R_drewN | apply Kd.R_drew)); exact Kd.R_mono HO_5.out (fun _ hk => hk.2.2.1)⟩, ⟨by (with_reducible repeat (first | apply Kd.R_alloc | apply Kd.R_drewN | apply Kd.R_drew)); exact Kd.R_mono HO_9.out (fun _ hk => hk.1)⟩, ⟨by repeat (first | (with_reducible first | exact HB.out | apply below_alloc | apply pw_below_drewN | apply below_drew1) | exact HB.out)⟩⟩
                    · replace c46 := Bool.eq_false_iff.mpr c46
                      subst c46
                      have H1 : (laws_FnExactPatternOf.j1 kj10 l0 l1 t561 t562 t571 true) = some r := by rw [if_neg (show ¬ (false = true) by decide)] at H; exact H
                      clear H
                      have H := H1
                      clear H1
                      have H' := Aside0.mk H
                      clear H
                      obtain ⟨Ao49, co49, eo49⟩ := Kd.R_slice HO_9.out
                      subst eo49
                      obtain ⟨Ao50, co50, eo50⟩ := Kd.R_slice HO_5.out
                      subst eo50
                      go_wp2_with (first | (go_at_call 18; (with_reducible refine (laws_eqInt64S.calls kj10 _ _ t571 _ _ t561 false _ ?side1 ?side2 ?side3 ?side4 A45.out).mono ?_); (case side1 => repeat (first | exact (Kd.R_reads' HO_9.out).2.2 | (with_reducible refine Kd.C_alloc ?_ _) | (with_reducible refine Kd.C_drewN ?_ _) | (with_reducible refine Kd.C_drew ?_))); (case side2 => exact (Kd.R_reads' HO_9.out).2.1); (case side3 => repeat (first | exact (Kd.R_reads' HO_5.out).2.2 | (with_reducible refine Kd.C_alloc ?_ _) | (with_reducible refine Kd.C_drewN ?_ _) | (with_reducible refine Kd.C_drew ?_))); (case side4 => exact (Kd.R_reads' HO_5.out).2.1); rintro e w' ⟨rfl, ⟨nd, rfl⟩⟩))
                      go_meet
                      case rel => exact ⟨_, (true), (by first | rfl | (simp; done) | (simp [*]; done)), H', ⟨by have := HJ10.out; first | omega | exact Nat.le_refl _⟩, ⟨by (with_reducible repeat (first | apply Kd.R_alloc | apply Kd.R_drewN | apply Kd.R_drew)); exact Kd.R_mono HO_5.out (fun _ hk => hk.2.2.1)⟩, ⟨by (with_reducible repeat (first | apply Kd.R_alloc | apply Kd.R_drewN | apply Kd.R_drew)); exact Kd.R_mono HO_9.out (fun _ hk => hk.1)⟩, ⟨by repeat (first | (with_reducible first | exact HB.out | apply below_alloc | apply pw_below_drewN | apply below_drew1) | exact HB.out)⟩⟩
                case rest =>
                  clear HC37
                  try clear c1
                  try clear c2
                  try clear p2
                  try clear c3
                  try clear c3b0
                  try clear c3b1
                  try clear c4
                  try clear c4b0
                  try clear c4b1
                  try clear c9
                  try clear c16
                  try clear c18
                  try clear c19
                  try clear c23
                  try clear c28
                  try clear c31
                  try clear c32
                  try clear c34
                  try clear c44
                  try clear c44b0
                  try clear c46
                  try clear p2
                  obtain ⟨kq, x77_36, rfl, HA, HJ36, HO_5, HO_9, HB⟩ := hcut
                  cases kq with
                  | zero => exact absurd HA.out (by simp [laws_FnExactPatternOf.j1])
                  | succ kj36 =>
                    have H := HA.out
                    clear HA
                    simp only [laws_FnExactPatternOf.j1] at H
                    by_cases c51 : x77_36 = true
                    · subst c51
                      have H1 : (some false) = some r := by rw [if_pos rfl] at H; exact H
                      clear H
                      have H := H1
                      clear H1
                      exact absurd ((Option.some.inj H).trans HT.out) (by decide)
                    · replace c51 := Bool.eq_false_iff.mpr c51
                      subst c51
                      have H1 : ((laws_markInt64S.f kj36 t571 1).bind fun bt589 => ((laws_heldInt64S.f kj36 bt589.2 1).bind fun t591 => (if t591 < 0 then (some false) else (if t591 = bt589.1 then ((laws_toInt64S.f kj36 l0).bind fun t592 => ((laws_toInt64S.f kj36 l1).bind fun t595 => ((impl_PatternOf.f kj36 t592 t595).bind fun bt598 => ((laws_eqInt64S.f kj36 bt598.1 t561).bind fun t602 => (if t602 = true then (laws_FnExactPatternOf.j2 kj36 bt589.2 bt589.1 (bt598.2 != t562)) else (laws_FnExactPatternOf.j2 kj36 bt589.2 bt589.1 true)))))) else (some false))))) = some r := by rw [if_neg (show ¬ (false = true) by decide)] at H; exact H
                      clear H
                      have H := H1
                      clear H1
                      replace H := Option.bind_eq_some_iff.mp H
                      obtain ⟨⟨t589, t590⟩, A520, H⟩ := H
                      replace H : ((laws_heldInt64S.f kj36 t590 1).bind fun t591 => (if t591 < 0 then (some false) else (if t591 = t589 then ((laws_toInt64S.f kj36 l0).bind fun t592 => ((laws_toInt64S.f kj36 l1).bind fun t595 => ((impl_PatternOf.f kj36 t592 t595).bind fun bt598 => ((laws_eqInt64S.f kj36 bt598.1 t561).bind fun t602 => (if t602 = true then (laws_FnExactPatternOf.j2 kj36 t590 t589 (bt598.2 != t562)) else (laws_FnExactPatternOf.j2 kj36 t590 t589 true)))))) else (some false)))) = some r := H
                      have A52 := Aside0.mk A520
                      clear A520
                      replace H := Option.bind_eq_some_iff.mp H
                      obtain ⟨t591, A530, H⟩ := H
                      replace H : (if t591 < 0 then (some false) else (if t591 = t589 then ((laws_toInt64S.f kj36 l0).bind fun t592 => ((laws_toInt64S.f kj36 l1).bind fun t595 => ((impl_PatternOf.f kj36 t592 t595).bind fun bt598 => ((laws_eqInt64S.f kj36 bt598.1 t561).bind fun t602 => (if t602 = true then (laws_FnExactPatternOf.j2 kj36 t590 t589 (bt598.2 != t562)) else (laws_FnExactPatternOf.j2 kj36 t590 t589 true)))))) else (some false))) = some r := H
                      have A53 := Aside0.mk A530
                      clear A530
                      by_cases c54 : t591 < 0
                      · rw [if_pos c54] at H
                        have c54b0 : decide (t591 < 0) = true := decide_eq_true c54
                        clear c54
                        exact absurd ((Option.some.inj H).trans HT.out) (by decide)
                      · rw [if_neg c54] at H
                        have c54b0 : decide (t591 < 0) = false := decide_eq_false c54
                        clear c54
                        by_cases c55 : t591 = t589
                        · rw [if_pos c55] at H
                          have c55b0 : (t591 == t589) = true := beq_iff_eq.mpr c55
                          have c55b1 : (t591 != t589) = false := bne_eq_false_iff_eq.mpr c55
                          clear c55
                          replace H := Option.bind_eq_some_iff.mp H
                          obtain ⟨t592, A560, H⟩ := H
                          replace H : ((laws_toInt64S.f kj36 l1).bind fun t595 => ((impl_PatternOf.f kj36 t592 t595).bind fun bt598 => ((laws_eqInt64S.f kj36 bt598.1 t561).bind fun t602 => (if t602 = true then (laws_FnExactPatternOf.j2 kj36 t590 t589 (bt598.2 != t562)) else (laws_FnExactPatternOf.j2 kj36 t590 t589 true))))) = some r := H
                          have A56 := Aside0.mk A560
                          clear A560
                          replace H := Option.bind_eq_some_iff.mp H
                          obtain ⟨t595, A570, H⟩ := H
                          replace H : ((impl_PatternOf.f kj36 t592 t595).bind fun bt598 => ((laws_eqInt64S.f kj36 bt598.1 t561).bind fun t602 => (if t602 = true then (laws_FnExactPatternOf.j2 kj36 t590 t589 (bt598.2 != t562)) else (laws_FnExactPatternOf.j2 kj36 t590 t589 true)))) = some r := H
                          have A57 := Aside0.mk A570
                          clear A570
                          replace H := Option.bind_eq_some_iff.mp H
                          obtain ⟨⟨t598, t599⟩, A580, H⟩ := H
                          replace H : ((laws_eqInt64S.f kj36 t598 t561).bind fun t602 => (if t602 = true then (laws_FnExactPatternOf.j2 kj36 t590 t589 (t599 != t562)) else (laws_FnExactPatternOf.j2 kj36 t590 t589 true))) = some r := H
                          have A58 := Aside0.mk A580
                          clear A580
                          have HC59 := Aside0.mk H
                          clear H
                          obtain ⟨Ao60, co60, eo60⟩ := Kd.R_slice HO_9.out
                          subst eo60
                          go_upto_region 29 with (first | ((with_reducible refine gate_callee (f := 19) rfl ?_); refine goesL_ (some 80) rfl rfl Try.func19 (by kernel_rfl) rfl #[.slice Ao60 t571.length co60, .int .i64 1] rfl (by (try simp only [List.map_toArray, List.map_cons, List.map_nil]); first | done | rfl | (simp only [List.length_drop, List.length_take]; rfl)) ?_; (with_reducible refine (laws_markInt64S.calls kj36 (fun k_ => some k_ = (.slice Ao60 t571.length co60 : Value).ownBlock) (.slice Ao60 t571.length co60) t571 1 t589 t590 w _ ?side1 ?side2 A52.out).mono ?_); (case side1 => repeat (first | (with_reducible first | exact HB.out | apply below_alloc | apply pw_below_drewN | apply below_drew1) | exact HB.out)); (case side2 => exact Kd.R_tight rfl HO_9.out); rintro e w61 ⟨rfl, hy0, hb, hkp⟩; refine ⟨_, rfl, ?_⟩; have n0_ := Aside0.mk (Kd.R_mono (ok' := fun k_ => some k_ ≠ (.slice Ao60 t571.length co60 : Value).ownBlock) (Kd.R_keptB (HO_5.out) hkp (fun k_ hk_ hs_ => (hk_) hs_)) (fun k_ hk_ => hk_.1)); have n1_ := Aside0.mk (Kd.R_reok rfl hy0 (fun k_ e_ => HO_9.out.1 k_ e_)); have n2_ := Aside0.mk (hb); clear HO_5; clear HO_9; clear HB; have HO_5 := n0_; have HO_9 := n1_; have HB := n2_; clear n0_ n1_ n2_; (try clear hb); (try clear hkp); (try clear hy0)) | ((with_reducible refine gate_callee (f := 20) rfl ?_); refine goesL_ (some 83) rfl rfl Try.func20 (by kernel_rfl) rfl #[.slice Ao60 t590.length co60, .int .i64 1] rfl (by (try simp only [List.map_toArray, List.map_cons, List.map_nil]); first | done | (rw [show t590.length = t571.length from (Kd.R_reads' HO_9.out).1.symm] <;> rfl) | rfl | (simp only [List.length_drop, List.length_take]; rfl)) ?_; (with_reducible refine (laws_heldInt64S.calls kj36 _ _ t590 1 t591 _ ?side1 ?side2 A53.out).mono ?_); (case side1 => repeat (first | exact (Kd.R_reads' HO_9.out).2.2 | (with_reducible refine Kd.C_alloc ?_ _) | (with_reducible refine Kd.C_drewN ?_ _) | (with_reducible refine Kd.C_drew ?_))); (case side2 => rw [show t590.length = t571.length from (Kd.R_reads' HO_9.out).1.symm]; exact (Kd.R_reads' HO_9.out).2.1); rintro e w' ⟨rfl, ⟨nd, rfl⟩⟩; refine ⟨_, rfl, ?_⟩) | ((with_reducible refine gate_callee (f := 16) rfl ?_); refine goesL_ (some 91) rfl rfl Try.func16 (by kernel_rfl) rfl #[.slice A0 l0.length c0] rfl (by (try simp only [List.map_toArray, List.map_cons, List.map_nil]); first | done | rfl | (simp only [List.length_drop, List.length_take]; rfl)) ?_; (with_reducible refine (laws_toInt64S.calls kj36 _ _ l0 t592 _ ?side1 ?side2 A56.out).mono ?_); (case side1 => repeat (first | exact (Kd.C_below HR0.out (by repeat (first | (with_reducible first | exact HB.out | apply below_alloc | apply pw_below_drewN | apply below_drew1) | exact HB.out))) | (with_reducible refine Kd.C_alloc ?_ _) | (with_reducible refine Kd.C_drewN ?_ _) | (with_reducible refine Kd.C_drew ?_))); (case side2 => exact HC0.out); rintro e w62 ⟨v593, rfl, ho0, hb⟩; refine ⟨_, rfl, ?_⟩; have n0_ := Aside0.mk (Kd.R_elder' (by (with_reducible repeat (first | apply Kd.R_alloc | apply Kd.R_drewN | apply Kd.R_drew)); exact HO_5.out) (Kd.R_base ho0) hb); have n1_ := Aside0.mk (Kd.R_elder' (by (with_reducible repeat (first | apply Kd.R_alloc | apply Kd.R_drewN | apply Kd.R_drew)); exact HO_9.out) (Kd.R_base ho0) hb); have n2_ := Aside0.mk (Kd.R_lower (Kd.R_new' (Kd.R_new' ho0 (Kd.R_lt (by (with_reducible repeat (first | apply Kd.R_alloc | apply Kd.R_drewN | apply Kd.R_drew)); exact HO_5.out))) (Kd.R_lt (by (with_reducible repeat (first | apply Kd.R_alloc | apply Kd.R_drewN | apply Kd.R_drew)); exact HO_9.out))) (below_size (by repeat (first | (with_reducible first | exact HB.out | apply below_alloc | apply pw_below_drewN | apply below_drew1) | exact HB.out)))); have n3_ := Aside0.mk (below_step (by repeat (first | (with_reducible first | exact HB.out | apply below_alloc | apply pw_below_drewN | apply below_drew1) | exact HB.out)) hb); clear HO_5; clear HO_9; clear HB; have HO_5 := n0_; have HO_9 := n1_; have HO594 := n2_; have HB := n3_; clear n0_ n1_ n2_ n3_; (try clear hb); (try clear hb2); (try clear hk); (try clear hi); (try clear ho0)) | ((with_reducible refine gate_callee (f := 16) rfl ?_); refine goesL_ (some 93) rfl rfl Try.func16 (by kernel_rfl) rfl #[.slice A1 l1.length c1] rfl (by (try simp only [List.map_toArray, List.map_cons, List.map_nil]); first | done | rfl | (simp only [List.length_drop, List.length_take]; rfl)) ?_; (with_reducible refine (laws_toInt64S.calls kj36 _ _ l1 t595 _ ?side1 ?side2 A57.out).mono ?_); (case side1 => repeat (first | exact (Kd.C_below HR1.out HB.out) | (with_reducible refine Kd.C_alloc ?_ _) | (with_reducible refine Kd.C_drewN ?_ _) | (with_reducible refine Kd.C_drew ?_))); (case side2 => exact HC1.out); rintro e w63 ⟨v596, rfl, ho0, hb⟩; refine ⟨_, rfl, ?_⟩; have n0_ := Aside0.mk (Kd.R_elder' (by (with_reducible repeat (first | apply Kd.R_alloc | apply Kd.R_drewN | apply Kd.R_drew)); exact HO_5.out) (Kd.R_base ho0) hb); have n1_ := Aside0.mk (Kd.R_elder' (by (with_reducible repeat (first | apply Kd.R_alloc | apply Kd.R_drewN | apply Kd.R_drew)); exact HO_9.out) (Kd.R_base ho0) hb); have n2_ := Aside0.mk (Kd.R_elder' (by (with_reducible repeat (first | apply Kd.R_alloc | apply Kd.R_drewN | apply Kd.R_drew)); exact HO594.out) (Kd.R_base ho0) hb); have n3_ := Aside0.mk (Kd.R_lower (Kd.R_new' (Kd.R_new' (Kd.R_new' ho0 (Kd.R_lt (by (with_reducible repeat (first | apply Kd.R_alloc | apply Kd.R_drewN | apply Kd.R_drew)); exact HO_5.out))) (Kd.R_lt (by (with_reducible repeat (first | apply Kd.R_alloc | apply Kd.R_drewN | apply Kd.R_drew)); exact HO_9.out))) (Kd.R_lt (by (with_reducible repeat (first | apply Kd.R_alloc | apply Kd.R_drewN | apply Kd.R_drew)); exact HO594.out))) (below_size (by repeat (first | (with_reducible first | exact HB.out | apply below_alloc | apply pw_below_drewN | apply below_drew1) | exact HB.out)))); have n4_ := Aside0.mk (below_step (by repeat (first | (with_reducible first | exact HB.out | apply below_alloc | apply pw_below_drewN | apply below_drew1) | exact HB.out)) hb); clear HO_5; clear HO_9; clear HO594; clear HB; have HO_5 := n0_; have HO_9 := n1_; have HO594 := n2_; have HO597 := n3_; have HB := n4_; clear n0_ n1_ n2_ n3_ n4_; (try clear hb); (try clear hb2); (try clear hk); (try clear hi); (try clear ho0); obtain ⟨Ao64, co64, eo64⟩ := Kd.R_slice HO594.out; subst eo64; obtain ⟨Ao65, co65, eo65⟩ := Kd.R_slice HO597.out; subst eo65) | ((with_reducible refine gate_callee (f := 32) rfl ?_); refine goesL_ (some 94) rfl rfl Try.func32 (by kernel_rfl) rfl #[.slice Ao64 t592.length co64, .slice Ao65 t595.length co65] rfl (by (try simp only [List.map_toArray, List.map_cons, List.map_nil]); first | done | rfl | (simp only [List.length_drop, List.length_take]; rfl)) ?_; (with_reducible refine (impl_PatternOf.calls kj36 _ _ t592 _ _ t595 t598 t599 _ ?side1 ?side2 ?side3 ?side4 A58.out).mono ?_); (case side1 => repeat (first | exact (Kd.R_reads' HO594.out).2.2 | (with_reducible refine Kd.C_alloc ?_ _) | (with_reducible refine Kd.C_drewN ?_ _) | (with_reducible refine Kd.C_drew ?_))); (case side2 => exact (Kd.R_reads' HO594.out).2.1); (case side3 => repeat (first | exact (Kd.R_reads' HO597.out).2.2 | (with_reducible refine Kd.C_alloc ?_ _) | (with_reducible refine Kd.C_drewN ?_ _) | (with_reducible refine Kd.C_drew ?_))); (case side4 => exact (Kd.R_reads' HO597.out).2.1); rintro e w66 ⟨v600, rfl, ho0, hb⟩; refine ⟨_, rfl, ?_⟩; have n0_ := Aside0.mk (Kd.R_elder' (by (with_reducible repeat (first | apply Kd.R_alloc | apply Kd.R_drewN | apply Kd.R_drew)); exact HO_5.out) (Kd.R_base ho0) hb); have n1_ := Aside0.mk (Kd.R_elder' (by (with_reducible repeat (first | apply Kd.R_alloc | apply Kd.R_drewN | apply Kd.R_drew)); exact HO_9.out) (Kd.R_base ho0) hb); have n2_ := Aside0.mk (Kd.R_elder' (by (with_reducible repeat (first | apply Kd.R_alloc | apply Kd.R_drewN | apply Kd.R_drew)); exact HO594.out) (Kd.R_base ho0) hb); have n3_ := Aside0.mk (Kd.R_elder' (by (with_reducible repeat (first | apply Kd.R_alloc | apply Kd.R_drewN | apply Kd.R_drew)); exact HO597.out) (Kd.R_base ho0) hb); have n4_ := Aside0.mk (Kd.R_lower (Kd.R_new' (Kd.R_new' (Kd.R_new' (Kd.R_new' ho0 (Kd.R_lt (by (with_reducible repeat (first | apply Kd.R_alloc | apply Kd.R_drewN | apply Kd.R_drew)); exact HO_5.out))) (Kd.R_lt (by (with_reducible repeat (first | apply Kd.R_alloc | apply Kd.R_drewN | apply Kd.R_drew)); exact HO_9.out))) (Kd.R_lt (by (with_reducible repeat (first | apply Kd.R_alloc | apply Kd.R_drewN | apply Kd.R_drew)); exact HO594.out))) (Kd.R_lt (by (with_reducible repeat (first | apply Kd.R_alloc | apply Kd.R_drewN | apply Kd.R_drew)); exact HO597.out))) (below_size (by repeat (first | (with_reducible first | exact HB.out | apply below_alloc | apply pw_below_drewN | apply below_drew1) | exact HB.out)))); have n5_ := Aside0.mk (below_step (by repeat (first | (with_reducible first | exact HB.out | apply below_alloc | apply pw_below_drewN | apply below_drew1) | exact HB.out)) hb); clear HO_5; clear HO_9; clear HO594; clear HO597; clear HB; have HO_5 := n0_; have HO_9 := n1_; have HO594 := n2_; have HO597 := n3_; have HO601 := n4_; have HB := n5_; clear n0_ n1_ n2_ n3_ n4_ n5_; (try clear hb); (try clear hb2); (try clear hk); (try clear hi); (try clear ho0)))
                          (try simp only [Act.put, List.setIfInBounds_toArray, List.set_cons_zero, List.set_cons_succ])
                          go_cut [105] (fun v105 wc => ∃ (kq : Nat) (x105_58 : Bool), v105 = .bool x105_58 ∧ Aside0 (laws_FnExactPatternOf.j2 kq t590 t589 x105_58 = some r) ∧ Aside0 (kq ≤ kj36) ∧ Aside0 (Kd.R (Kd.int .i64) 2 wc w.heap.size (fun _ => True) (.slice Ao60 t571.length co60) t590) ∧ Aside0 (Below w.heap.size w wc))
                          case first =>
                            have H := HC59.out
                            clear HC59
                            replace H := Option.bind_eq_some_iff.mp H
                            obtain ⟨t602, A670, H⟩ := H
                            replace H : (if t602 = true then (laws_FnExactPatternOf.j2 kj36 t590 t589 (t599 != t562)) else (laws_FnExactPatternOf.j2 kj36 t590 t589 true)) = some r := H
                            have A67 := Aside0.mk A670
                            clear A670
                            by_cases c68 : t602 = true
                            · subst c68
                              have H1 : (laws_FnExactPatternOf.j2 kj36 t590 t589 (t599 != t562)) = some r := by rw [if_pos rfl] at H; exact H
                              clear H
                              have H := H1
                              clear H1
                              have H' := Aside0.mk H
                              clear H
                              obtain ⟨Ao69, co69, eo69⟩ := Kd.R_slice HO601.out
                              subst eo69
                              obtain ⟨Ao70, co70, eo70⟩ := Kd.R_slice HO_5.out
                              subst eo70
                              go_wp2_with (first | ((with_reducible refine gate_callee (f := 18) rfl ?_); refine goesL_ (some 99) rfl rfl Try.func18 (by kernel_rfl) rfl #[.slice Ao69 t598.length co69, .slice Ao70 t561.length co70] rfl (by (try simp only [List.map_toArray, List.map_cons, List.map_nil]); first | done | rfl | (simp only [List.length_drop, List.length_take]; rfl)) ?_; (with_reducible refine (laws_eqInt64S.calls kj36 _ _ t598 _ _ t561 true _ ?side1 ?side2 ?side3 ?side4 A67.out).mono ?_); (case side1 => repeat (first | exact (Kd.R_reads' HO601.out).2.2 | (with_reducible refine Kd.C_alloc ?_ _) | (with_reducible refine Kd.C_drewN ?_ _) | (with_reducible refine Kd.C_drew ?_))); (case side2 => exact (Kd.R_reads' HO601.out).2.1); (case side3 => repeat (first | exact (Kd.R_reads' HO_5.out).2.2 | (with_reducible refine Kd.C_alloc ?_ _) | (with_reducible refine Kd.C_drewN ?_ _) | (with_reducible refine Kd.C_drew ?_))); (case side4 => exact (Kd.R_reads' HO_5.out).2.1); rintro e w' ⟨rfl, ⟨nd, rfl⟩⟩; refine ⟨_, rfl, ?_⟩))
                              go_meet
                              case rel => exact ⟨_, ((t599 != t562)), (by first | rfl | (simp; done) | (simp [*]; done)), H', ⟨by have := HJ10.out; have := HJ36.out; first | omega | exact Nat.le_refl _⟩, ⟨by (with_reducible repeat (first | apply Kd.R_alloc | apply Kd.R_drewN | apply Kd.R_drew)); exact Kd.R_mono HO_9.out (fun _ hk => trivial)⟩, ⟨by repeat (first | (with_reducible first | exact HB.out | apply below_alloc | apply pw_below_drewN | apply below_drew1) | exact HB.out)⟩⟩
                            · replace c68 := Bool.eq_false_iff.mpr c68
                              subst c68
                              have H1 : (laws_FnExactPatternOf.j2 kj36 t590 t589 true) = some r := by rw [if_neg (show ¬ (false = true) by decide)] at H; exact H
                              clear H
                              have H := H1
                              clear H1
                              have H' := Aside0.mk H
                              clear H
                              obtain ⟨Ao71, co71, eo71⟩ := Kd.R_slice HO601.out
                              subst eo71
                              obtain ⟨Ao72, co72, eo72⟩ := Kd.R_slice HO_5.out
                              subst eo72
                              go_wp2_with (first | ((with_reducible refine gate_callee (f := 18) rfl ?_); refine goesL_ (some 99) rfl rfl Try.func18 (by kernel_rfl) rfl #[.slice Ao71 t598.length co71, .slice Ao72 t561.length co72] rfl (by (try simp only [List.map_toArray, List.map_cons, List.map_nil]); first | done | rfl | (simp only [List.length_drop, List.length_take]; rfl)) ?_; (with_reducible refine (laws_eqInt64S.calls kj36 _ _ t598 _ _ t561 false _ ?side1 ?side2 ?side3 ?side4 A67.out).mono ?_); (case side1 => repeat (first | exact (Kd.R_reads' HO601.out).2.2 | (with_reducible refine Kd.C_alloc ?_ _) | (with_reducible refine Kd.C_drewN ?_ _) | (with_reducible refine Kd.C_drew ?_))); (case side2 => exact (Kd.R_reads' HO601.out).2.1); (case side3 => repeat (first | exact (Kd.R_reads' HO_5.out).2.2 | (with_reducible refine Kd.C_alloc ?_ _) | (with_reducible refine Kd.C_drewN ?_ _) | (with_reducible refine Kd.C_drew ?_))); (case side4 => exact (Kd.R_reads' HO_5.out).2.1); rintro e w' ⟨rfl, ⟨nd, rfl⟩⟩; refine ⟨_, rfl, ?_⟩))
                              go_meet
                              case rel => exact ⟨_, (true), (by first | rfl | (simp; done) | (simp [*]; done)), H', ⟨by have := HJ10.out; have := HJ36.out; first | omega | exact Nat.le_refl _⟩, ⟨by (with_reducible repeat (first | apply Kd.R_alloc | apply Kd.R_drewN | apply Kd.R_drew)); exact Kd.R_mono HO_9.out (fun _ hk => trivial)⟩, ⟨by repeat (first | (with_reducible first | exact HB.out | apply below_alloc | apply pw_below_drewN | apply below_drew1) | exact HB.out)⟩⟩
                          case rest =>
                            clear HC59
                            try clear c1
                            try clear c2
                            try clear p2
                            try clear c3
                            try clear c3b0
                            try clear c3b1
                            try clear c4
                            try clear c4b0
                            try clear c4b1
                            try clear c5
                            try clear c6
                            try clear c9
                            try clear c16
                            try clear c18
                            try clear c19
                            try clear c20
                            try clear c23
                            try clear c28
                            try clear c31
                            try clear c32
                            try clear c34
                            try clear c44
                            try clear c44b0
                            try clear c46
                            try clear c51
                            try clear c54
                            try clear c54b0
                            try clear c55
                            try clear c55b0
                            try clear c55b1
                            try clear c68
                            try clear p2
                            obtain ⟨kq, x105_58, rfl, HA, HJ58, HO_9, HB⟩ := hcut
                            have hl9_58 := (Kd.R_reads' HO_9.out).1
                            rw [hl9_58] at HO_9
                            (try simp only [hl9_58])
                            cases kq with
                            | zero => exact absurd HA.out (by simp [laws_FnExactPatternOf.j2])
                            | succ kj58 =>
                              have H := HA.out
                              clear HA
                              simp only [laws_FnExactPatternOf.j2] at H
                              by_cases c73 : x105_58 = true
                              · subst c73
                                have H1 : (some false) = some r := by rw [if_pos rfl] at H; exact H
                                clear H
                                have H := H1
                                clear H1
                                exact absurd ((Option.some.inj H).trans HT.out) (by decide)
                              · replace c73 := Bool.eq_false_iff.mpr c73
                                subst c73
                                have H1 : ((laws_heldInt64S.f kj58 t590 1).bind fun t603 => (if t603 < 0 then (some false) else (if t603 = t589 then (some true) else (some false)))) = some r := by rw [if_neg (show ¬ (false = true) by decide)] at H; exact H
                                clear H
                                have H := H1
                                clear H1
                                replace H := Option.bind_eq_some_iff.mp H
                                obtain ⟨t603, A740, H⟩ := H
                                replace H : (if t603 < 0 then (some false) else (if t603 = t589 then (some true) else (some false))) = some r := H
                                have A74 := Aside0.mk A740
                                clear A740
                                by_cases c75 : t603 < 0
                                · rw [if_pos c75] at H
                                  have c75b0 : decide (t603 < 0) = true := decide_eq_true c75
                                  have c75b2 := c75b0; (try simp only [hl9_58] at c75b2)
                                  clear c75
                                  exact absurd ((Option.some.inj H).trans HT.out) (by decide)
                                · rw [if_neg c75] at H
                                  have c75b0 : decide (t603 < 0) = false := decide_eq_false c75
                                  have c75b2 := c75b0; (try simp only [hl9_58] at c75b2)
                                  clear c75
                                  by_cases c76 : t603 = t589
                                  · rw [if_pos c76] at H
                                    have c76b0 : (t603 == t589) = true := beq_iff_eq.mpr c76
                                    have c76b1 : (t603 != t589) = false := bne_eq_false_iff_eq.mpr c76
                                    clear c76
                                    obtain rfl := Option.some.inj H
                                    go_wp2_with (first | ((with_reducible refine gate_callee (f := 20) rfl ?_); refine goesL_ (some 108) rfl rfl Try.func20 (by kernel_rfl) rfl #[.slice Ao60 t590.length co60, .int .i64 1] rfl (by (try simp only [List.map_toArray, List.map_cons, List.map_nil]); first | done | rfl | (simp only [List.length_drop, List.length_take]; rfl)) ?_; (with_reducible refine (laws_heldInt64S.calls kj58 _ _ t590 1 t603 _ ?side1 ?side2 A74.out).mono ?_); (case side1 => repeat (first | exact (Kd.R_reads' HO_9.out).2.2 | (with_reducible refine Kd.C_alloc ?_ _) | (with_reducible refine Kd.C_drewN ?_ _) | (with_reducible refine Kd.C_drew ?_))); (case side2 => exact (Kd.R_reads' HO_9.out).2.1); rintro e w' ⟨rfl, ⟨nd, rfl⟩⟩; refine ⟨_, rfl, ?_⟩))
                                    go_ret
                                    exact ⟨by first | rfl | (simp [errW_none, errW_some] <;> rfl) | (simp [*, errW_none, errW_some] <;> rfl), by repeat (first | (with_reducible first | exact HB.out | apply below_alloc | apply pw_below_drewN | apply below_drew1) | exact HB.out)⟩
                                  · rw [if_neg c76] at H
                                    have c76b0 : (t603 == t589) = false := beq_eq_false_iff_ne.mpr c76
                                    have c76b1 : (t603 != t589) = true := bne_iff_ne.mpr c76
                                    exact absurd ((Option.some.inj H).trans HT.out) (by decide)
                        · rw [if_neg c55] at H
                          have c55b0 : (t591 == t589) = false := beq_eq_false_iff_ne.mpr c55
                          have c55b1 : (t591 != t589) = true := bne_iff_ne.mpr c55
                          exact absurd ((Option.some.inj H).trans HT.out) (by decide)
              · replace c34 := Bool.eq_false_iff.mpr c34
                subst c34
                have H1 : (some false) = some r := by rw [if_neg (show ¬ (false = true) by decide)] at H; exact H
                clear H
                have H := H1
                clear H1
                exact absurd ((Option.some.inj H).trans HT.out) (by decide)
            · replace c31 := Bool.eq_false_iff.mpr c31
              subst c31
              have H1 : (some false) = some r := by rw [if_neg (show ¬ (false = true) by decide)] at H; exact H
              clear H
              have H := H1
              clear H1
              exact absurd ((Option.some.inj H).trans HT.out) (by decide)

/-- THE ONE PURE STATEMENT of laws_FnExactPatternOf. -/
def laws_FnExactPatternOf.Pure : Prop := ∀ (l0 : List Int) (l1 : List Int), (l0.length ≤ maxLen ∧ ∀ y0 ∈ l0, (Lit.int .i64 y0).wf = true) → (l1.length ≤ maxLen ∧ ∀ y0 ∈ l1, (Lit.int .i64 y0).wf = true) → ∃ k, laws_FnExactPatternOf.f k l0 l1 = some true
theorem laws_FnExactPatternOf.walk (P : laws_FnExactPatternOf.Pure) (A0 : Option Addr) (c0 : Nat) (l0 : List Int) (A1 : Option Addr) (c1 : Nat) (l1 : List Int) (w : World) (hr0 : Kd.C (Kd.int .i64) w A0 l0.length l0) (hc0 : l0.length ≤ c0) (hr1 : Kd.C (Kd.int .i64) w A1 l1.length l1) (hc1 : l1.length ≤ c1) (w0 : (l0.length ≤ maxLen ∧ ∀ y0 ∈ l0, (Lit.int .i64 y0).wf = true)) (w1 : (l1.length ≤ maxLen ∧ ∀ y0 ∈ l1, (Lit.int .i64 y0).wf = true)) :
    Calls Try.prog 9 #[.slice A0 l0.length c0, .slice A1 l1.length c1] w fun e w' => e = .returned (.bool true) ∧ Below w.heap.size w w' := by
  obtain ⟨k, h⟩ := P l0 l1 w0 w1
  refine (laws_FnExactPatternOf.calls k _ _ l0 _ _ l1 true w hr0 hc0 hr1 hc1 rfl h).mono ?_
  rintro e w' ⟨rfl, hd⟩
  exact ⟨rfl, hd⟩

end Go.Proofs.Ytddhommmokdlnaa.P
end

section
namespace Go.Proofs.Ytddhommmokdlnaa.Pure
open Go.RowKit Go.Proofs.Ytddhommmokdlnaa.P Go.Proofs.YtddhommmokdlnaaW.PrintWords Go.Proofs.YtddhommmokdlnaaW.PrintLast Go.Proofs.YtddhommmokdlnaaW.PrintMore
set_option linter.unusedVariables false
set_option linter.unusedSimpArgs false

theorem spec_l03At_l0 (s : List Int) (t : Int) (hl : s.length ≤ 1048576) : ∀ (d i : Nat), s.length - i = d → Ev (fun k => spec_l03At.l0 k s t i) (idxM s t d i) := by
  intro d
  induction d with
  | zero =>
    intro i hd
    refine Ev.succ ?_
    simp only [spec_l03At.l0]
    exact Ev.ite_neg (by omega) (Ev.now _)
  | succ d ih =>
    intro i hd
    refine Ev.succ ?_
    simp only [spec_l03At.l0]
    rw [w64 (x := (i : Int) + 1) (by omega) (by omega)]
    refine Ev.ite_pos (by omega) (Ev.ite_pos (by omega) ?_)
    simp only [idxM]
    by_cases h : rd s i = t
    · rw [if_pos h]
      exact Ev.ite_pos h (Ev.now _)
    · rw [if_neg h]
      exact Ev.ite_neg h (by simpa using ih (i + 1) (by omega))
def tn (a : Int) : Int := Int.tmod (wrap64 ((Int.tmod a 12) + 12)) 12
def degR (s : List Int) (a : Int) : Int × Int := if inP a = true then (if idxM s (tn a) s.length 0 < 0 then (0, 3) else (wrap64 ((wrap64 ((wrap64 (Int.tdiv (wrap64 (a - tn a)) 12)) * (s.length : Int))) + idxM s (tn a) s.length 0), 0)) else (0, 2)
theorem spec_DegreeOf_ev (s : List Int) (a : Int) (hs : scaleB s = true) (hl : s.length ≤ 1048576) : Ev (fun k => spec_DegreeOf.f k s a) (degR s a) := by
  unfold spec_DegreeOf.f degR
  refine Ev.bind (spec_l03Scale_ev s (by omega)) (Ev.ite_pos hs (Ev.bindc (spec_l03Pitch_eq _) ?_))
  cases h : inP a with
  | false => exact Ev.ite_neg (by decide) (Ev.now _)
  | true =>
    refine Ev.ite_pos rfl (Ev.bindc (show spec_l03Tone.f a = some (tn a) from rfl) (Ev.bind (a := idxM s (tn a) s.length 0) (by unfold spec_l03At.f; simpa using spec_l03At_l0 s (tn a) hl s.length 0 (by omega)) ?_))
    by_cases g : idxM s (tn a) s.length 0 < 0
    · exact Ev.ite_pos g (Ev.cast (Ev.now _) (by rw [if_pos rfl, if_pos g]))
    · exact Ev.ite_neg g (Ev.bindc (show spec_l03Floor.f a = some _ from rfl) (Ev.cast (Ev.now _) (by rw [if_pos rfl, if_neg g]; rfl)))
theorem impl_DegreeOf_ev (s : List Int) (a : Int) (hs : scaleB s = true) (hl : s.length ≤ 1048576) : Ev (fun k => impl_DegreeOf.f k s a) (degR s a) := by
  unfold impl_DegreeOf.f degR
  refine Ev.bind (impl_ValidScale_ev s (by omega)) (Ev.ite_pos hs (Ev.bindc (impl_pitchOk_eq _) ?_))
  cases h : inP a with
  | false => exact Ev.ite_neg (by decide) (Ev.now _)
  | true =>
    refine Ev.ite_pos rfl (Ev.bindc (show impl_ToneOf.f a = some (tn a) from rfl) (Ev.bind (a := idxM s (tn a) s.length 0) (by unfold slices_Index_int64_int64.f; simpa using slices_Index_l0 s (tn a) hl s.length 0 (by omega)) ?_))
    by_cases g : idxM s (tn a) s.length 0 < 0
    · exact Ev.ite_pos g (Ev.cast (Ev.now _) (by rw [if_pos rfl, if_pos g]))
    · exact Ev.ite_neg g (Ev.bindc (show impl_octaveOf.f a = some _ from rfl) (Ev.cast (Ev.now _) (by rw [if_pos rfl, if_neg g]; rfl)))
theorem degR_bound (s : List Int) (a : Int) (hl : s.length ≤ 12) : -1000 ≤ (degR s a).1 ∧ (degR s a).1 ≤ 1000 := by
  unfold degR
  cases h : inP a with
  | false => simp
  | true =>
    have hb := idxM_bound s (tn a) s.length 0
    by_cases g : idxM s (tn a) s.length 0 < 0
    · simp [g]
    · rw [if_pos rfl, if_neg g]
      simp [inP] at h
      have ht : 0 ≤ tn a ∧ tn a ≤ 11 := by
        unfold tn
        have h1 := Int.lt_tmod_of_pos a (show (0 : Int) < 12 by omega)
        have h2 := Int.tmod_lt_of_pos a (show (0 : Int) < 12 by omega)
        rw [w64 (by omega) (by omega), Int.tmod_eq_emod_of_nonneg (by omega)]
        omega
      rw [w64 (x := a - tn a) (by omega) (by omega)]
      obtain ⟨o, ho⟩ : ∃ o, o = Int.tdiv (a - tn a) 12 := ⟨_, rfl⟩
      have hob : -3 ≤ o ∧ o ≤ 3 := by
        have := Int.mul_tdiv_add_tmod (a - tn a) 12
        have h1 := Int.lt_tmod_of_pos (a - tn a) (show (0 : Int) < 12 by omega)
        have h2 := Int.tmod_lt_of_pos (a - tn a) (show (0 : Int) < 12 by omega)
        omega
      rw [← ho, w64 (x := o) (by omega) (by omega)]
      have hm : -36 ≤ o * (s.length : Int) ∧ o * (s.length : Int) ≤ 36 := by
        have : o = -3 ∨ o = -2 ∨ o = -1 ∨ o = 0 ∨ o = 1 ∨ o = 2 ∨ o = 3 := by omega
        rcases this with rfl | rfl | rfl | rfl | rfl | rfl | rfl <;> omega
      rw [w64 (x := o * (s.length : Int)) (by omega) (by omega), w64 (x := _ + _) (by omega) (by omega)]
      simp only
      omega
theorem scale_at {l : List Int} (h : scaleB l = true) : ∀ i : Nat, i < l.length → (i : Int) ≤ rd l i := by
  have h' := h
  simp only [scaleB, Bool.and_eq_true, decide_eq_true_eq] at h'
  have hh := h'.2.1
  simp only [rgB, List.all_eq_true, List.mem_range'_1, Bool.and_eq_true, decide_eq_true_eq, Bool.or_eq_true] at hh
  intro i
  induction i with
  | zero => intro hi; have := (hh 0 (by omega)).1.1; simpa using this
  | succ i ih =>
    intro hi
    have h1 := ih (by omega)
    rcases (hh (i + 1) (by omega)).2 with h2 | h2
    · omega
    · rw [show (((i + 1 : Nat) : Int) - 1) = (i : Int) by omega] at h2
      omega
theorem scale_len {l : List Int} (h : scaleB l = true) : l.length ≤ 12 := by
  have h1 := scaleB_rd h
  have h2 := scale_at h (l.length - 1) (by omega)
  have h3 := h1.2 (l.length - 1) (by omega)
  omega
def degs (s ps : List Int) : List Int := ps.map fun a => (degR s a).1
def okD (s : List Int) (a : Int) : Bool := decide ((degR s a).2 = 0)
def r20 (n : Int) : Bool := decide (-20 ≤ n) && decide (n ≤ 20)
theorem impl_PatternOf_l0 (s ps : List Int) (hs : scaleB s = true) (h1 : 1 ≤ ps.length) (h8 : ps.length ≤ 8) : ∀ (d i : Nat) (acc : List Int), ps.length - i = d → acc.length = i → i ≤ ps.length → (∀ j : Nat, j < acc.length → -1000 ≤ rd acc j ∧ rd acc j ≤ 1000) →
    Ev (fun k => impl_PatternOf.l0 k s acc ps (ps.length : Int) i) (if (ps.drop i).all (okD s) = true then (if ((acc ++ degs s (ps.drop i)).map fun n => n + -(rd (acc ++ degs s (ps.drop i)) 0)).all r20 = true then ((acc ++ degs s (ps.drop i)).map fun n => n + -(rd (acc ++ degs s (ps.drop i)) 0), 0) else ([], 6)) else ([], 6)) := by
  have hsl := scale_len hs
  intro d
  induction d with
  | zero =>
    intro i acc hd ha hi hb
    refine Ev.succ ?_
    simp only [impl_PatternOf.l0]
    have h0 := hb 0 (by omega)
    rw [List.drop_of_length_le (by omega), w64 (x := -(rd acc 0)) (by simpa using (by omega : -9223372036854775808 ≤ -(rd acc ((0 : Nat) : Int)))) (by simpa using (by omega : -(rd acc ((0 : Nat) : Int)) ≤ 9223372036854775807))]
    simp only [degs, List.map_nil, List.append_nil, List.all_nil, if_true]
    refine Ev.ite_neg (by omega) (Ev.ite_pos (by omega) (Ev.bind (impl_from_ev acc _ (by simpa using (by omega : -1000 ≤ -(rd acc ((0 : Nat) : Int)) ∧ -(rd acc ((0 : Nat) : Int)) ≤ 1000)) (by omega) (fun j hj => by have := hb j hj; omega)) (Ev.bindc (impl_patternOk_eq _) ?_)))
    have hpb : patB (acc.map fun n => n + -(rd acc 0)) = (acc.map fun n => n + -(rd acc 0)).all r20 := by
      unfold patB
      have a1 : 1 ≤ acc.length := by omega
      have a2 : acc.length ≤ 8 := by omega
      simp only [List.length_map, a1, a2, decide_true, Bool.and_true]
      rfl
    rw [hpb]
    cases hq : (acc.map fun n => n + -(rd acc 0)).all r20 with
    | true => exact Ev.ite_pos rfl (Ev.now _)
    | false => exact Ev.ite_neg (by decide) (Ev.now _)
  | succ d ih =>
    intro i acc hd ha hi hb
    refine Ev.succ ?_
    simp only [impl_PatternOf.l0]
    rw [w64 (x := (i : Int) + 1) (by omega) (by omega), List.drop_eq_getElem_cons (show i < ps.length by omega), ← rd_at (show i < ps.length by omega)]
    refine Ev.ite_pos (by omega) (Ev.ite_pos (by omega) (Ev.ite_pos (by omega) (Ev.bind (impl_DegreeOf_ev s _ hs (by omega)) ?_)))
    by_cases hz : (degR s (rd ps i)).2 = 0
    · refine Ev.ite_pos hz (Ev.ite_pos (by omega) ?_)
      have hdb := degR_bound s (rd ps i) hsl
      have e1 : (rd ps i :: ps.drop (i + 1)).all (okD s) = (ps.drop (i + 1)).all (okD s) := by simp only [List.all_cons, okD, hz, decide_true, Bool.true_and]
      have e2 : acc ++ degs s (rd ps i :: ps.drop (i + 1)) = acc ++ [(degR s (rd ps i)).1] ++ degs s (ps.drop (i + 1)) := by simp only [degs, List.map_cons, List.append_assoc, List.singleton_append]
      have this := ih (i + 1) (acc ++ [(degR s (rd ps i)).1]) (by omega) (by simp; omega) (by omega) (fun j hj => by
        rcases Nat.lt_or_ge j acc.length with h | h
        · have := hb j h
          rw [rd_at hj, List.getElem_append_left h, ← rd_at h]
          exact this
        · have e : j = acc.length := by
            simp at hj
            omega
          rw [rd_at hj]
          subst e
          simpa using hdb)
      rw [show ((i + 1 : Nat) : Int) = (i : Int) + 1 from rfl] at this
      rw [e1, e2]
      exact this
    · refine Ev.ite_neg hz (Ev.cast (Ev.now _) ?_)
      simp [okD, hz]
theorem spec_PatternOf_l0 (s ps : List Int) (hs : scaleB s = true) (h1 : 1 ≤ ps.length) (h8 : ps.length ≤ 8) : ∀ (d i : Nat) (out : List Int) (f0 : Int), ps.length - i = d → out.length = i → 0 < i → i ≤ ps.length → -1000 ≤ f0 → f0 ≤ 1000 →
    Ev (fun k => spec_PatternOf.l0 k s ps out f0 i) (if (ps.drop i).all (okD s) = true then (if ((degs s (ps.drop i)).map fun n => n + -f0).all r20 = true then (out ++ (degs s (ps.drop i)).map fun n => n + -f0, 0) else ([], 6)) else ([], 6)) := by
  have hsl := scale_len hs
  intro d
  induction d with
  | zero =>
    intro i out f0 hd ha hp hi b0 b1
    refine Ev.succ ?_
    simp only [spec_PatternOf.l0]
    rw [List.drop_of_length_le (by omega)]
    simp only [degs, List.map_nil, List.append_nil, List.all_nil, if_true]
    exact Ev.ite_neg (by omega) (Ev.now _)
  | succ d ih =>
    intro i out f0 hd ha hp hi b0 b1
    refine Ev.succ ?_
    simp only [spec_PatternOf.l0]
    rw [w64 (x := (i : Int) + 1) (by omega) (by omega), List.drop_eq_getElem_cons (show i < ps.length by omega), ← rd_at (show i < ps.length by omega)]
    refine Ev.ite_pos (by omega) (Ev.ite_pos (by omega) (Ev.bind (spec_DegreeOf_ev s _ hs (by omega)) ?_))
    have hdb := degR_bound s (rd ps i) hsl
    by_cases hz : (degR s (rd ps i)).2 = 0
    · refine Ev.ite_pos hz (Ev.ite_neg (by omega) ?_)
      rw [w64 (x := (degR s (rd ps i)).1 - f0) (by omega) (by omega)]
      refine Ev.bindc (spec_l00In_eq _ _ _) ?_
      have he : (degR s (rd ps i)).1 + -f0 = (degR s (rd ps i)).1 - f0 := by omega
      cases hq : (decide (-20 ≤ (degR s (rd ps i)).1 - f0) && decide ((degR s (rd ps i)).1 - f0 ≤ 20)) with
      | true =>
        refine Ev.ite_pos rfl (Ev.ite_pos (by omega) ?_)
        have hr : r20 ((degR s (rd ps i)).1 - f0) = true := hq
        have e1 : (rd ps i :: ps.drop (i + 1)).all (okD s) = (ps.drop (i + 1)).all (okD s) := by simp only [List.all_cons, okD, hz, decide_true, Bool.true_and]
        have e3 : (degs s (rd ps i :: ps.drop (i + 1))).map (fun n => n + -f0) = ((degR s (rd ps i)).1 - f0) :: (degs s (ps.drop (i + 1))).map (fun n => n + -f0) := by simp only [degs, List.map_cons, he]
        have this := ih (i + 1) (out ++ [(degR s (rd ps i)).1 - f0]) f0 (by omega) (by simp; omega) (by omega) (by omega) b0 b1
        rw [show ((i + 1 : Nat) : Int) = (i : Int) + 1 from rfl] at this
        rw [List.append_assoc, List.singleton_append] at this
        rw [e1, e3, List.all_cons, hr, Bool.true_and]
        exact this
      | false =>
        refine Ev.ite_neg (by decide) (Ev.cast (Ev.now _) ?_)
        have hr : r20 ((degR s (rd ps i)).1 - f0) = false := hq
        have e3 : (degs s (rd ps i :: ps.drop (i + 1))).map (fun n => n + -f0) = ((degR s (rd ps i)).1 - f0) :: (degs s (ps.drop (i + 1))).map (fun n => n + -f0) := by simp only [degs, List.map_cons, he]
        have e1 : (rd ps i :: ps.drop (i + 1)).all (okD s) = (ps.drop (i + 1)).all (okD s) := by simp only [List.all_cons, okD, hz, decide_true, Bool.true_and]
        rw [e1, e3, List.all_cons, hr, Bool.false_and]
        simp
    · refine Ev.ite_neg hz (Ev.cast (Ev.now _) ?_)
      simp [okD, hz]
def patOfR (s ps : List Int) : List Int × Int := if ps.all (okD s) = true then (if ((degs s ps).map fun n => n + -(rd (degs s ps) 0)).all r20 = true then ((degs s ps).map fun n => n + -(rd (degs s ps) 0), 0) else ([], 6)) else ([], 6)
theorem spec_PatternOf_start (s ps : List Int) (hs : scaleB s = true) (h1 : 1 ≤ ps.length) (h8 : ps.length ≤ 8) : Ev (fun k => spec_PatternOf.l0 k s ps [] 0 0) (patOfR s ps) := by
  have hsl := scale_len hs
  obtain ⟨a, t, rfl⟩ : ∃ a t, ps = a :: t := by
    cases ps with
    | nil => simp at h1
    | cons a t => exact ⟨a, t, rfl⟩
  refine Ev.succ ?_
  simp only [spec_PatternOf.l0]
  have e0 : rd (a :: t) 0 = a := rfl
  rw [e0]
  refine Ev.ite_pos (by simp) (Ev.ite_pos (by decide) (Ev.bind (spec_DegreeOf_ev s a hs (by omega)) ?_))
  have hdb := degR_bound s a hsl
  by_cases hz : (degR s a).2 = 0
  · refine Ev.ite_pos hz (Ev.ite_pos (by decide) (Ev.bindc (spec_l00In_eq _ _ _) (Ev.ite_pos (by decide) (Ev.ite_pos (by simp) ?_))))
    rw [w64 (x := (0 : Int) + 1) (by omega) (by omega)]
    have this : Ev (fun k => spec_PatternOf.l0 k s (a :: t) [0] (degR s a).1 1) (if t.all (okD s) = true then (if ((degs s t).map fun n => n + -(degR s a).1).all r20 = true then ([0] ++ (degs s t).map fun n => n + -(degR s a).1, 0) else ([], 6)) else ([], 6)) := spec_PatternOf_l0 s (a :: t) hs h1 h8 ((a :: t).length - 1) 1 [0] (degR s a).1 (by omega) rfl (by omega) (by omega) hdb.1 hdb.2
    have e1 : (a :: t).all (okD s) = t.all (okD s) := by simp only [List.all_cons, okD, hz, decide_true, Bool.true_and]
    have e2 : rd (degs s (a :: t)) 0 = (degR s a).1 := rfl
    have e3 : (degs s (a :: t)).map (fun n => n + -(degR s a).1) = 0 :: (degs s t).map (fun n => n + -(degR s a).1) := by
      simp only [degs, List.map_cons]
      rw [show (degR s a).1 + -(degR s a).1 = 0 by omega]
    unfold patOfR
    rw [e1, e2, e3, List.all_cons, show r20 0 = true from rfl, Bool.true_and]
    exact this
  · refine Ev.ite_neg hz (Ev.cast (Ev.now _) ?_)
    simp [patOfR, okD, hz]
theorem patOfR_len (s ps : List Int) (h8 : ps.length ≤ 8) : (patOfR s ps).1.length ≤ 8 := by
  unfold patOfR
  split
  · split
    · simpa [degs] using h8
    · simp
  · simp
theorem bothPatternOf (s ps : List Int) (hl : s.length ≤ 1048576) (hp : ps.length ≤ 1048576) : ∃ r c, r.length ≤ 1048576 ∧ Ev (fun k => spec_PatternOf.f k s ps) (r, c) ∧ Ev (fun k => impl_PatternOf.f k s ps) (r, c) := by
  unfold spec_PatternOf.f impl_PatternOf.f
  cases hs : scaleB s with
  | false => exact ⟨[], 1, by simp, Ev.bind (spec_l03Scale_ev s (by omega)) (Ev.ite_neg (by rw [hs]; decide) (Ev.now _)), Ev.bind (impl_ValidScale_ev s (by omega)) (Ev.ite_neg (by rw [hs]; decide) (Ev.now _))⟩
  | true =>
    have jt : Ev (fun k => spec_PatternOf.j0 k s ps true) ([], 7) := by
      refine Ev.succ ?_
      simp only [spec_PatternOf.j0]
      exact Ev.ite_pos (by decide) (Ev.now _)
    by_cases h1 : (ps.length : Int) < 1
    · refine ⟨[], 7, by simp, Ev.bind (spec_l03Scale_ev s (by omega)) (Ev.ite_pos hs (Ev.bind (spec_l05Pitches_ev ps (by omega)) ?_)), Ev.bind (impl_ValidScale_ev s (by omega)) (Ev.ite_pos hs (Ev.ite_pos h1 (Ev.now _)))⟩
      cases pitchesB ps with
      | true => exact Ev.ite_pos rfl (Ev.ite_pos h1 jt)
      | false => exact Ev.ite_neg (by decide) jt
    · by_cases h8 : (ps.length : Int) > 8
      · refine ⟨[], 7, by simp, Ev.bind (spec_l03Scale_ev s (by omega)) (Ev.ite_pos hs (Ev.bind (spec_l05Pitches_ev ps (by omega)) ?_)), Ev.bind (impl_ValidScale_ev s (by omega)) (Ev.ite_pos hs (Ev.ite_neg h1 (Ev.ite_pos h8 (Ev.now _))))⟩
        cases pitchesB ps with
        | true =>
          refine Ev.ite_pos rfl (Ev.ite_neg h1 ?_)
          rw [show decide ((ps.length : Int) > 8) = true by simpa using h8]
          exact jt
        | false => exact Ev.ite_neg (by decide) jt
      · cases hq : pitchesB ps with
        | false => exact ⟨[], 7, by simp, Ev.bind (spec_l03Scale_ev s (by omega)) (Ev.ite_pos hs (Ev.bind (spec_l05Pitches_ev ps (by omega)) (Ev.ite_neg (by rw [hq]; decide) jt))), Ev.bind (impl_ValidScale_ev s (by omega)) (Ev.ite_pos hs (Ev.ite_neg h1 (Ev.ite_neg h8 (Ev.bindc (impl_pitchesOk_eq ps) (Ev.ite_neg (by rw [hq]; decide) (Ev.now _))))))⟩
        | true =>
          refine ⟨(patOfR s ps).1, (patOfR s ps).2, by have := patOfR_len s ps (by omega); omega, Ev.bind (spec_l03Scale_ev s (by omega)) (Ev.ite_pos hs (Ev.bind (spec_l05Pitches_ev ps (by omega)) (Ev.ite_pos hq (Ev.ite_neg h1 (Ev.succ ?_))))), Ev.bind (impl_ValidScale_ev s (by omega)) (Ev.ite_pos hs (Ev.ite_neg h1 (Ev.ite_neg h8 (Ev.bindc (impl_pitchesOk_eq ps) (Ev.ite_pos hq ?_)))))⟩
          · simp only [spec_PatternOf.j0]
            exact Ev.ite_neg (by simpa using h8) (spec_PatternOf_start s ps hs (by omega) (by omega))
          · simpa [patOfR] using impl_PatternOf_l0 s ps hs (by omega) (by omega) ps.length 0 [] (by omega) rfl (by omega) (by simp)
theorem FnExactPatternOf : laws_FnExactPatternOf.Pure := by
  intro s p ⟨hs, _⟩ ⟨hp, _⟩
  refine Ev.out (r := true) ?_
  unfold laws_FnExactPatternOf.f
  by_cases gs : (s.length : Int) > 1048576
  · exact Ev.ite_pos gs (Ev.now _)
  refine Ev.ite_neg gs ?_
  by_cases gp : (p.length : Int) > 1048576
  · exact Ev.ite_pos gp (Ev.now _)
  refine Ev.ite_neg gp ?_
  have ts := toInt64S_ev s (by omega)
  have ls : s.length ≤ 1048576 := by omega
  have tp := toInt64S_ev p (by omega)
  have lp : p.length ≤ 1048576 := by omega
  obtain ⟨r, c, lr, es, ei⟩ := bothPatternOf s p ls lp
  refine Ev.bind ts ?_
  refine Ev.bind tp ?_
  refine Ev.bind es ?_
  refine Ev.bind ts ?_
  refine Ev.bind tp ?_
  refine Ev.bind ei ?_
  refine Ev.bind (eqInt64S_self r (by omega)) ?_
  refine Ev.ite_pos rfl ?_
  refine Ev.succ ?_
  simp only [laws_FnExactPatternOf.j0]
  refine Ev.ite_neg (by simp) ?_
  refine Ev.bind ts ?_
  refine Ev.bind (eqInt64S_self s (by omega)) ?_
  refine Ev.ite_pos rfl ?_
  refine Ev.bind tp ?_
  refine Ev.bind (eqInt64S_self p (by omega)) ?_
  refine Ev.ite_pos rfl ?_
  refine Ev.bind (markInt64S_ev s (1 : Int) (by omega) (by omega) (by omega)) ?_
  refine Ev.bind (markInt64S_ev p ((1 : Int) + (s.length : Int)) (by omega) (by omega) (by omega)) ?_
  refine Ev.ite_neg (show ¬ ((((1 : Int) + (s.length : Int)) + (p.length : Int)) < 0) by omega) ?_
  refine Ev.bind (eqInt64S_self r (by omega)) ?_
  refine Ev.ite_pos rfl ?_
  refine Ev.succ ?_
  simp only [laws_FnExactPatternOf.j1]
  refine Ev.ite_neg (by simp) ?_
  refine Ev.bind (markInt64S_ev r 1 (by omega) (by omega) (by omega)) ?_
  refine Ev.bind (heldInt64S_ev r.length 1 (by omega) (by omega) (by omega)) ?_
  refine Ev.ite_neg (by omega) ?_
  refine Ev.ite_pos rfl ?_
  refine Ev.bind ts ?_
  refine Ev.bind tp ?_
  refine Ev.bind ei ?_
  refine Ev.bind (eqInt64S_self r (by omega)) ?_
  refine Ev.ite_pos rfl ?_
  refine Ev.succ ?_
  simp only [laws_FnExactPatternOf.j2]
  refine Ev.ite_neg (by simp) ?_
  refine Ev.bind (heldInt64S_ev r.length 1 (by omega) (by omega) (by omega)) ?_
  refine Ev.ite_neg (by omega) ?_
  exact Ev.ite_pos rfl (Ev.now _)

end Go.Proofs.Ytddhommmokdlnaa.Pure
end
