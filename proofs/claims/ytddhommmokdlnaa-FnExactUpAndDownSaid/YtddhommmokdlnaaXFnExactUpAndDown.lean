/- The pure statement of FnExactUpAndDown. No condition. -/
import Derived.Test.YtddhommmokdlnaaGb1
import Derived.Test.YtddhommmokdlnaaGb2
section
namespace Go.Proofs.Ytddhommmokdlnaa.P
open Go.RowKit Go.Proofs.YtddhommmokdlnaaW.PrintWords Go.Proofs.YtddhommmokdlnaaW.PrintLast Go.Proofs.YtddhommmokdlnaaW.PrintMore
attribute [local go_sem] max2_int min2_int max_two min_two max_three min_three max_four min_four   -- for this text's walks alone
set_option linter.unusedVariables false
set_option linter.unusedSimpArgs false

/-! ### laws_FnExactUpAndDown: function 8 -/
mutual
def laws_FnExactUpAndDown.j0 : Nat → List Int → List Int → Int → List Int → Int → List Int → List Int → List Int → Int → Bool → Option (Bool)
  | 0, _, _, _, _, _, _, _, _, _, _ => none
  | k + 1, x0, x1, x2, x7, x8, x9, x10, x11, x12, x52 => if x52 = true then (some false) else ((laws_toInt64S.f k x0).bind fun t481 => ((laws_eqInt64S.f k x9 t481).bind fun t484 => (if t484 = true then ((laws_toInt64S.f k x1).bind fun t485 => ((laws_eqInt64S.f k x10 t485).bind fun t488 => (if t488 = true then ((laws_markInt64S.f k x9 1).bind fun bt489 => ((laws_markInt64S.f k x10 bt489.1).bind fun bt491 => (if bt491.1 < 0 then (laws_FnExactUpAndDown.j1 k x0 x1 x2 x7 x8 x11 true) else ((laws_eqInt64S.f k x11 x7).bind fun t493 => (if t493 = true then (laws_FnExactUpAndDown.j1 k x0 x1 x2 x7 x8 x11 (x12 != x8)) else (laws_FnExactUpAndDown.j1 k x0 x1 x2 x7 x8 x11 true)))))) else (some false)))) else (some false))))
def laws_FnExactUpAndDown.j1 : Nat → List Int → List Int → Int → List Int → Int → List Int → Bool → Option (Bool)
  | 0, _, _, _, _, _, _, _ => none
  | k + 1, x0, x1, x2, x7, x8, x11, x81 => if x81 = true then (some false) else ((laws_markInt64S.f k x11 1).bind fun bt494 => ((laws_heldInt64S.f k bt494.2 1).bind fun t496 => (if t496 < 0 then (some false) else (if t496 = bt494.1 then ((laws_toInt64S.f k x0).bind fun t497 => ((laws_toInt64S.f k x1).bind fun t500 => ((impl_UpAndDown.f k t497 t500 x2).bind fun bt503 => ((laws_eqInt64S.f k bt503.1 x7).bind fun t507 => (if t507 = true then (laws_FnExactUpAndDown.j2 k bt494.2 bt494.1 (bt503.2 != x8)) else (laws_FnExactUpAndDown.j2 k bt494.2 bt494.1 true)))))) else (some false)))))
def laws_FnExactUpAndDown.j2 : Nat → List Int → Int → Bool → Option (Bool)
  | 0, _, _, _ => none
  | k + 1, x11, x14, x110 => if x110 = true then (some false) else ((laws_heldInt64S.f k x11 1).bind fun t508 => (if t508 < 0 then (some false) else (if t508 = x14 then (some true) else (some false))))
end
def laws_FnExactUpAndDown.f (k : Nat) (l0 : List Int) (l1 : List Int) (a2 : Int) : Option (Bool) := if (l0.length : Int) > 1048576 then (some true) else (if (l1.length : Int) > 1048576 then (some true) else ((laws_toInt64S.f k l0).bind fun t460 => ((laws_toInt64S.f k l1).bind fun t463 => ((spec_UpAndDown.f k t460 t463 a2).bind fun bt466 => ((laws_toInt64S.f k l0).bind fun t470 => ((laws_toInt64S.f k l1).bind fun t473 => ((impl_UpAndDown.f k t470 t473 a2).bind fun bt476 => ((laws_eqInt64S.f k bt476.1 bt466.1).bind fun t480 => (if t480 = true then (laws_FnExactUpAndDown.j0 k l0 l1 a2 bt466.1 bt466.2 t470 t473 bt476.1 bt476.2 (bt476.2 != bt466.2)) else (laws_FnExactUpAndDown.j0 k l0 l1 a2 bt466.1 bt466.2 t470 t473 bt476.1 bt476.2 true))))))))))
theorem laws_FnExactUpAndDown.mono_l : ∀ k, (∀ y0 y1 y2 y3 y4 y5 y6 y7 y8 y9, LeO (laws_FnExactUpAndDown.j0 k y0 y1 y2 y3 y4 y5 y6 y7 y8 y9) (laws_FnExactUpAndDown.j0 (k + 1) y0 y1 y2 y3 y4 y5 y6 y7 y8 y9)) ∧ (∀ y0 y1 y2 y3 y4 y5 y6, LeO (laws_FnExactUpAndDown.j1 k y0 y1 y2 y3 y4 y5 y6) (laws_FnExactUpAndDown.j1 (k + 1) y0 y1 y2 y3 y4 y5 y6)) ∧ (∀ y0 y1 y2, LeO (laws_FnExactUpAndDown.j2 k y0 y1 y2) (laws_FnExactUpAndDown.j2 (k + 1) y0 y1 y2))
  | 0 => ⟨fun _ _ _ _ _ _ _ _ _ _ r h => by simp [laws_FnExactUpAndDown.j0] at h, fun _ _ _ _ _ _ _ r h => by simp [laws_FnExactUpAndDown.j1] at h, fun _ _ _ r h => by simp [laws_FnExactUpAndDown.j2] at h⟩
  | k + 1 => by
    obtain ⟨ih0, ih1, ih2⟩ := laws_FnExactUpAndDown.mono_l k
    refine ⟨?_, ?_, ?_⟩
    · intro y0 y1 y2 y3 y4 y5 y6 y7 y8 y9
      unfold laws_FnExactUpAndDown.j0
      repeat' first
      | (with_reducible exact ih0 _ _ _ _ _ _ _ _ _ _)
      | (with_reducible exact ih1 _ _ _ _ _ _ _)
      | (with_reducible exact ih2 _ _ _)
      | (with_reducible exact impl_UpAndDown.mono _ _ _ _)
      | (with_reducible exact laws_eqInt64S.mono _ _ _)
      | (with_reducible exact laws_heldInt64S.mono _ _ _)
      | (with_reducible exact laws_markInt64S.mono _ _ _)
      | (with_reducible exact laws_toInt64S.mono _ _)
      | (with_reducible exact spec_UpAndDown.mono _ _ _ _)
      | (with_reducible exact LeO.refl _)
      | (with_reducible exact LeO.none _)
      | (with_reducible refine LeO.ite ?_ ?_)
      | (with_reducible refine LeO.bind ?_ (fun _ => ?_))
      | exact ih0 _ _ _ _ _ _ _ _ _ _
      | exact ih1 _ _ _ _ _ _ _
      | exact ih2 _ _ _
      | exact impl_UpAndDown.mono _ _ _ _
      | exact laws_eqInt64S.mono _ _ _
      | exact laws_heldInt64S.mono _ _ _
      | exact laws_markInt64S.mono _ _ _
      | exact laws_toInt64S.mono _ _
      | exact spec_UpAndDown.mono _ _ _ _
      | exact LeO.none _
      | refine LeO.ite ?_ ?_
      | refine LeO.bind ?_ (fun _ => ?_)
    · intro y0 y1 y2 y3 y4 y5 y6
      unfold laws_FnExactUpAndDown.j1
      repeat' first
      | (with_reducible exact ih0 _ _ _ _ _ _ _ _ _ _)
      | (with_reducible exact ih1 _ _ _ _ _ _ _)
      | (with_reducible exact ih2 _ _ _)
      | (with_reducible exact impl_UpAndDown.mono _ _ _ _)
      | (with_reducible exact laws_eqInt64S.mono _ _ _)
      | (with_reducible exact laws_heldInt64S.mono _ _ _)
      | (with_reducible exact laws_markInt64S.mono _ _ _)
      | (with_reducible exact laws_toInt64S.mono _ _)
      | (with_reducible exact spec_UpAndDown.mono _ _ _ _)
      | (with_reducible exact LeO.refl _)
      | (with_reducible exact LeO.none _)
      | (with_reducible refine LeO.ite ?_ ?_)
      | (with_reducible refine LeO.bind ?_ (fun _ => ?_))
      | exact ih0 _ _ _ _ _ _ _ _ _ _
      | exact ih1 _ _ _ _ _ _ _
      | exact ih2 _ _ _
      | exact impl_UpAndDown.mono _ _ _ _
      | exact laws_eqInt64S.mono _ _ _
      | exact laws_heldInt64S.mono _ _ _
      | exact laws_markInt64S.mono _ _ _
      | exact laws_toInt64S.mono _ _
      | exact spec_UpAndDown.mono _ _ _ _
      | exact LeO.none _
      | refine LeO.ite ?_ ?_
      | refine LeO.bind ?_ (fun _ => ?_)
    · intro y0 y1 y2
      unfold laws_FnExactUpAndDown.j2
      repeat' first
      | (with_reducible exact ih0 _ _ _ _ _ _ _ _ _ _)
      | (with_reducible exact ih1 _ _ _ _ _ _ _)
      | (with_reducible exact ih2 _ _ _)
      | (with_reducible exact impl_UpAndDown.mono _ _ _ _)
      | (with_reducible exact laws_eqInt64S.mono _ _ _)
      | (with_reducible exact laws_heldInt64S.mono _ _ _)
      | (with_reducible exact laws_markInt64S.mono _ _ _)
      | (with_reducible exact laws_toInt64S.mono _ _)
      | (with_reducible exact spec_UpAndDown.mono _ _ _ _)
      | (with_reducible exact LeO.refl _)
      | (with_reducible exact LeO.none _)
      | (with_reducible refine LeO.ite ?_ ?_)
      | (with_reducible refine LeO.bind ?_ (fun _ => ?_))
      | exact ih0 _ _ _ _ _ _ _ _ _ _
      | exact ih1 _ _ _ _ _ _ _
      | exact ih2 _ _ _
      | exact impl_UpAndDown.mono _ _ _ _
      | exact laws_eqInt64S.mono _ _ _
      | exact laws_heldInt64S.mono _ _ _
      | exact laws_markInt64S.mono _ _ _
      | exact laws_toInt64S.mono _ _
      | exact spec_UpAndDown.mono _ _ _ _
      | exact LeO.none _
      | refine LeO.ite ?_ ?_
      | refine LeO.bind ?_ (fun _ => ?_)
theorem laws_FnExactUpAndDown.mono : ∀ a0 a1 a2 k, LeO (laws_FnExactUpAndDown.f k a0 a1 a2) (laws_FnExactUpAndDown.f (k + 1) a0 a1 a2) := by
  intro a0 a1 a2 k
  obtain ⟨ih0, ih1, ih2⟩ := laws_FnExactUpAndDown.mono_l k
  unfold laws_FnExactUpAndDown.f
  repeat' first
      | (with_reducible exact ih0 _ _ _ _ _ _ _ _ _ _)
      | (with_reducible exact ih1 _ _ _ _ _ _ _)
      | (with_reducible exact ih2 _ _ _)
      | (with_reducible exact impl_UpAndDown.mono _ _ _ _)
      | (with_reducible exact laws_eqInt64S.mono _ _ _)
      | (with_reducible exact laws_heldInt64S.mono _ _ _)
      | (with_reducible exact laws_markInt64S.mono _ _ _)
      | (with_reducible exact laws_toInt64S.mono _ _)
      | (with_reducible exact spec_UpAndDown.mono _ _ _ _)
      | (with_reducible exact LeO.refl _)
      | (with_reducible exact LeO.none _)
      | (with_reducible refine LeO.ite ?_ ?_)
      | (with_reducible refine LeO.bind ?_ (fun _ => ?_))
      | exact ih0 _ _ _ _ _ _ _ _ _ _
      | exact ih1 _ _ _ _ _ _ _
      | exact ih2 _ _ _
      | exact impl_UpAndDown.mono _ _ _ _
      | exact laws_eqInt64S.mono _ _ _
      | exact laws_heldInt64S.mono _ _ _
      | exact laws_markInt64S.mono _ _ _
      | exact laws_toInt64S.mono _ _
      | exact spec_UpAndDown.mono _ _ _ _
      | exact LeO.none _
      | refine LeO.ite ?_ ?_
      | refine LeO.bind ?_ (fun _ => ?_)
set_option maxHeartbeats 8000000 in
set_option maxRecDepth 100000 in
theorem laws_FnExactUpAndDown.calls (k : Nat) (A0 : Option Addr) (c0 : Nat) (l0 : List Int) (A1 : Option Addr) (c1 : Nat) (l1 : List Int) (a2 : Int) (r : Bool) (w : World) (hr0 : Kd.C (Kd.int .i64) w A0 l0.length l0) (hc0 : l0.length ≤ c0) (hr1 : Kd.C (Kd.int .i64) w A1 l1.length l1) (hc1 : l1.length ≤ c1) (hT : r = true) (h : laws_FnExactUpAndDown.f k l0 l1 a2 = some r) :
    Calls Try.prog 8 #[.slice A0 l0.length c0, .slice A1 l1.length c1, .int .i64 a2] w fun e w' => e = .returned (.bool r) ∧ Below w.heap.size w w' := by
  have HR0 := Aside0.mk hr0
  have HC0 := Aside0.mk hc0
  clear hr0 hc0
  have HR1 := Aside0.mk hr1
  have HC1 := Aside0.mk hc1
  clear hr1 hc1
  have HT := Aside0.mk hT
  clear hT
  have HB := Aside0.mk (Below.refl w.heap.size w)
  have H : (if (l0.length : Int) > 1048576 then (some true) else (if (l1.length : Int) > 1048576 then (some true) else ((laws_toInt64S.f k l0).bind fun t460 => ((laws_toInt64S.f k l1).bind fun t463 => ((spec_UpAndDown.f k t460 t463 a2).bind fun bt466 => ((laws_toInt64S.f k l0).bind fun t470 => ((laws_toInt64S.f k l1).bind fun t473 => ((impl_UpAndDown.f k t470 t473 a2).bind fun bt476 => ((laws_eqInt64S.f k bt476.1 bt466.1).bind fun t480 => (if t480 = true then (laws_FnExactUpAndDown.j0 k l0 l1 a2 bt466.1 bt466.2 t470 t473 bt476.1 bt476.2 (bt476.2 != bt466.2)) else (laws_FnExactUpAndDown.j0 k l0 l1 a2 bt466.1 bt466.2 t470 t473 bt476.1 bt476.2 true))))))))))) = some r := h
  clear h
  by_cases c4 : (l0.length : Int) > 1048576
  · rw [if_pos c4] at H
    have c4b0 : decide (1048576 < (l0.length : Int)) = true := decide_eq_true c4
    have c4b1 : decide (1048576 < l0.length) = true := decide_eq_true (by omega)
    clear c4
    obtain rfl := Option.some.inj H
    go_enter Try.func8, Try.ntmps8
    go_wp2
    go_ret
    exact ⟨by first | rfl | (simp [errW_none, errW_some] <;> rfl) | (simp [*, errW_none, errW_some] <;> rfl), by repeat (first | (with_reducible first | exact HB.out | apply below_alloc | apply pw_below_drewN | apply below_drew1) | exact HB.out)⟩
  · rw [if_neg c4] at H
    have c4b0 : decide (1048576 < (l0.length : Int)) = false := decide_eq_false c4
    have c4b1 : decide (1048576 < l0.length) = false := decide_eq_false (by omega)
    clear c4
    by_cases c5 : (l1.length : Int) > 1048576
    · rw [if_pos c5] at H
      have c5b0 : decide (1048576 < (l1.length : Int)) = true := decide_eq_true c5
      have c5b1 : decide (1048576 < l1.length) = true := decide_eq_true (by omega)
      clear c5
      obtain rfl := Option.some.inj H
      go_enter Try.func8, Try.ntmps8
      go_wp2
      go_ret
      exact ⟨by first | rfl | (simp [errW_none, errW_some] <;> rfl) | (simp [*, errW_none, errW_some] <;> rfl), by repeat (first | (with_reducible first | exact HB.out | apply below_alloc | apply pw_below_drewN | apply below_drew1) | exact HB.out)⟩
    · rw [if_neg c5] at H
      have c5b0 : decide (1048576 < (l1.length : Int)) = false := decide_eq_false c5
      have c5b1 : decide (1048576 < l1.length) = false := decide_eq_false (by omega)
      clear c5
      replace H := Option.bind_eq_some_iff.mp H
      obtain ⟨t460, A60, H⟩ := H
      replace H : ((laws_toInt64S.f k l1).bind fun t463 => ((spec_UpAndDown.f k t460 t463 a2).bind fun bt466 => ((laws_toInt64S.f k l0).bind fun t470 => ((laws_toInt64S.f k l1).bind fun t473 => ((impl_UpAndDown.f k t470 t473 a2).bind fun bt476 => ((laws_eqInt64S.f k bt476.1 bt466.1).bind fun t480 => (if t480 = true then (laws_FnExactUpAndDown.j0 k l0 l1 a2 bt466.1 bt466.2 t470 t473 bt476.1 bt476.2 (bt476.2 != bt466.2)) else (laws_FnExactUpAndDown.j0 k l0 l1 a2 bt466.1 bt466.2 t470 t473 bt476.1 bt476.2 true)))))))) = some r := H
      have A6 := Aside0.mk A60
      clear A60
      replace H := Option.bind_eq_some_iff.mp H
      obtain ⟨t463, A70, H⟩ := H
      replace H : ((spec_UpAndDown.f k t460 t463 a2).bind fun bt466 => ((laws_toInt64S.f k l0).bind fun t470 => ((laws_toInt64S.f k l1).bind fun t473 => ((impl_UpAndDown.f k t470 t473 a2).bind fun bt476 => ((laws_eqInt64S.f k bt476.1 bt466.1).bind fun t480 => (if t480 = true then (laws_FnExactUpAndDown.j0 k l0 l1 a2 bt466.1 bt466.2 t470 t473 bt476.1 bt476.2 (bt476.2 != bt466.2)) else (laws_FnExactUpAndDown.j0 k l0 l1 a2 bt466.1 bt466.2 t470 t473 bt476.1 bt476.2 true))))))) = some r := H
      have A7 := Aside0.mk A70
      clear A70
      replace H := Option.bind_eq_some_iff.mp H
      obtain ⟨⟨t466, t467⟩, A80, H⟩ := H
      replace H : ((laws_toInt64S.f k l0).bind fun t470 => ((laws_toInt64S.f k l1).bind fun t473 => ((impl_UpAndDown.f k t470 t473 a2).bind fun bt476 => ((laws_eqInt64S.f k bt476.1 t466).bind fun t480 => (if t480 = true then (laws_FnExactUpAndDown.j0 k l0 l1 a2 t466 t467 t470 t473 bt476.1 bt476.2 (bt476.2 != t467)) else (laws_FnExactUpAndDown.j0 k l0 l1 a2 t466 t467 t470 t473 bt476.1 bt476.2 true)))))) = some r := H
      have A8 := Aside0.mk A80
      clear A80
      replace H := Option.bind_eq_some_iff.mp H
      obtain ⟨t470, A90, H⟩ := H
      replace H : ((laws_toInt64S.f k l1).bind fun t473 => ((impl_UpAndDown.f k t470 t473 a2).bind fun bt476 => ((laws_eqInt64S.f k bt476.1 t466).bind fun t480 => (if t480 = true then (laws_FnExactUpAndDown.j0 k l0 l1 a2 t466 t467 t470 t473 bt476.1 bt476.2 (bt476.2 != t467)) else (laws_FnExactUpAndDown.j0 k l0 l1 a2 t466 t467 t470 t473 bt476.1 bt476.2 true))))) = some r := H
      have A9 := Aside0.mk A90
      clear A90
      replace H := Option.bind_eq_some_iff.mp H
      obtain ⟨t473, A100, H⟩ := H
      replace H : ((impl_UpAndDown.f k t470 t473 a2).bind fun bt476 => ((laws_eqInt64S.f k bt476.1 t466).bind fun t480 => (if t480 = true then (laws_FnExactUpAndDown.j0 k l0 l1 a2 t466 t467 t470 t473 bt476.1 bt476.2 (bt476.2 != t467)) else (laws_FnExactUpAndDown.j0 k l0 l1 a2 t466 t467 t470 t473 bt476.1 bt476.2 true)))) = some r := H
      have A10 := Aside0.mk A100
      clear A100
      replace H := Option.bind_eq_some_iff.mp H
      obtain ⟨⟨t476, t477⟩, A110, H⟩ := H
      replace H : ((laws_eqInt64S.f k t476 t466).bind fun t480 => (if t480 = true then (laws_FnExactUpAndDown.j0 k l0 l1 a2 t466 t467 t470 t473 t476 t477 (t477 != t467)) else (laws_FnExactUpAndDown.j0 k l0 l1 a2 t466 t467 t470 t473 t476 t477 true))) = some r := H
      have A11 := Aside0.mk A110
      clear A110
      have HC12 := Aside0.mk H
      clear H
      go_enter Try.func8, Try.ntmps8
      go_upto_region 9 with (first | ((with_reducible refine gate_callee (f := 16) rfl ?_); refine goesL_ (some 26) rfl rfl Try.func16 (by kernel_rfl) rfl #[.slice A0 l0.length c0] rfl (by (try simp only [List.map_toArray, List.map_cons, List.map_nil]); first | done | rfl | (simp only [List.length_drop, List.length_take]; rfl)) ?_; (with_reducible refine (laws_toInt64S.calls k _ _ l0 t460 _ ?side1 ?side2 A6.out).mono ?_); (case side1 => repeat (first | exact HR0.out | (with_reducible refine Kd.C_alloc ?_ _) | (with_reducible refine Kd.C_drewN ?_ _) | (with_reducible refine Kd.C_drew ?_))); (case side2 => exact HC0.out); rintro e w13 ⟨v461, rfl, ho0, hb⟩; refine ⟨_, rfl, ?_⟩; have n0_ := Aside0.mk (Kd.R_lower ho0 (below_size (by repeat (first | (with_reducible first | exact HB.out | apply below_alloc | apply pw_below_drewN | apply below_drew1) | exact HB.out)))); have n1_ := Aside0.mk (below_step (by repeat (first | (with_reducible first | exact HB.out | apply below_alloc | apply pw_below_drewN | apply below_drew1) | exact HB.out)) hb); clear HB; have HO462 := n0_; have HB := n1_; clear n0_ n1_; (try clear hb); (try clear hb2); (try clear hk); (try clear hi); (try clear ho0)) | ((with_reducible refine gate_callee (f := 16) rfl ?_); refine goesL_ (some 28) rfl rfl Try.func16 (by kernel_rfl) rfl #[.slice A1 l1.length c1] rfl (by (try simp only [List.map_toArray, List.map_cons, List.map_nil]); first | done | rfl | (simp only [List.length_drop, List.length_take]; rfl)) ?_; (with_reducible refine (laws_toInt64S.calls k _ _ l1 t463 _ ?side1 ?side2 A7.out).mono ?_); (case side1 => repeat (first | exact (Kd.C_below HR1.out HB.out) | (with_reducible refine Kd.C_alloc ?_ _) | (with_reducible refine Kd.C_drewN ?_ _) | (with_reducible refine Kd.C_drew ?_))); (case side2 => exact HC1.out); rintro e w14 ⟨v464, rfl, ho0, hb⟩; refine ⟨_, rfl, ?_⟩; have n0_ := Aside0.mk (Kd.R_elder' (by (with_reducible repeat (first | apply Kd.R_alloc | apply Kd.R_drewN | apply Kd.R_drew)); exact HO462.out) (Kd.R_base ho0) hb); have n1_ := Aside0.mk (Kd.R_lower (Kd.R_new' ho0 (Kd.R_lt (by (with_reducible repeat (first | apply Kd.R_alloc | apply Kd.R_drewN | apply Kd.R_drew)); exact HO462.out))) (below_size (by repeat (first | (with_reducible first | exact HB.out | apply below_alloc | apply pw_below_drewN | apply below_drew1) | exact HB.out)))); have n2_ := Aside0.mk (below_step (by repeat (first | (with_reducible first | exact HB.out | apply below_alloc | apply pw_below_drewN | apply below_drew1) | exact HB.out)) hb); clear HO462; clear HB; have HO462 := n0_; have HO465 := n1_; have HB := n2_; clear n0_ n1_ n2_; (try clear hb); (try clear hb2); (try clear hk); (try clear hi); (try clear ho0); obtain ⟨Ao15, co15, eo15⟩ := Kd.R_slice HO462.out; subst eo15; obtain ⟨Ao16, co16, eo16⟩ := Kd.R_slice HO465.out; subst eo16) | ((with_reducible refine gate_callee (f := 29) rfl ?_); refine goesL_ (some 30) rfl rfl Try.func29 (by kernel_rfl) rfl #[.slice Ao15 t460.length co15, .slice Ao16 t463.length co16, .int .i64 a2] rfl (by (try simp only [List.map_toArray, List.map_cons, List.map_nil]); first | done | rfl | (simp only [List.length_drop, List.length_take]; rfl)) ?_; (with_reducible refine (spec_UpAndDown.calls k _ _ t460 _ _ t463 a2 t466 t467 _ ?side1 ?side2 ?side3 ?side4 A8.out).mono ?_); (case side1 => repeat (first | exact (Kd.R_reads' HO462.out).2.2 | (with_reducible refine Kd.C_alloc ?_ _) | (with_reducible refine Kd.C_drewN ?_ _) | (with_reducible refine Kd.C_drew ?_))); (case side2 => exact (Kd.R_reads' HO462.out).2.1); (case side3 => repeat (first | exact (Kd.R_reads' HO465.out).2.2 | (with_reducible refine Kd.C_alloc ?_ _) | (with_reducible refine Kd.C_drewN ?_ _) | (with_reducible refine Kd.C_drew ?_))); (case side4 => exact (Kd.R_reads' HO465.out).2.1); rintro e w17 ⟨v468, rfl, ho0, hb⟩; refine ⟨_, rfl, ?_⟩; have n0_ := Aside0.mk (Kd.R_elder' (by (with_reducible repeat (first | apply Kd.R_alloc | apply Kd.R_drewN | apply Kd.R_drew)); exact HO462.out) (Kd.R_base ho0) hb); have n1_ := Aside0.mk (Kd.R_elder' (by (with_reducible repeat (first | apply Kd.R_alloc | apply Kd.R_drewN | apply Kd.R_drew)); exact HO465.out) (Kd.R_base ho0) hb); have n2_ := Aside0.mk (Kd.R_lower (Kd.R_new' (Kd.R_new' ho0 (Kd.R_lt (by (with_reducible repeat (first | apply Kd.R_alloc | apply Kd.R_drewN | apply Kd.R_drew)); exact HO462.out))) (Kd.R_lt (by (with_reducible repeat (first | apply Kd.R_alloc | apply Kd.R_drewN | apply Kd.R_drew)); exact HO465.out))) (below_size (by repeat (first | (with_reducible first | exact HB.out | apply below_alloc | apply pw_below_drewN | apply below_drew1) | exact HB.out)))); have n3_ := Aside0.mk (below_step (by repeat (first | (with_reducible first | exact HB.out | apply below_alloc | apply pw_below_drewN | apply below_drew1) | exact HB.out)) hb); clear HO462; clear HO465; clear HB; have HO462 := n0_; have HO465 := n1_; have HO469 := n2_; have HB := n3_; clear n0_ n1_ n2_ n3_; (try clear hb); (try clear hb2); (try clear hk); (try clear hi); (try clear ho0)) | ((with_reducible refine gate_callee (f := 16) rfl ?_); refine goesL_ (some 34) rfl rfl Try.func16 (by kernel_rfl) rfl #[.slice A0 l0.length c0] rfl (by (try simp only [List.map_toArray, List.map_cons, List.map_nil]); first | done | rfl | (simp only [List.length_drop, List.length_take]; rfl)) ?_; (with_reducible refine (laws_toInt64S.calls k _ _ l0 t470 _ ?side1 ?side2 A9.out).mono ?_); (case side1 => repeat (first | exact (Kd.C_below HR0.out HB.out) | (with_reducible refine Kd.C_alloc ?_ _) | (with_reducible refine Kd.C_drewN ?_ _) | (with_reducible refine Kd.C_drew ?_))); (case side2 => exact HC0.out); rintro e w18 ⟨v471, rfl, ho0, hb⟩; refine ⟨_, rfl, ?_⟩; have n0_ := Aside0.mk (Kd.R_elder' (by (with_reducible repeat (first | apply Kd.R_alloc | apply Kd.R_drewN | apply Kd.R_drew)); exact HO462.out) (Kd.R_base ho0) hb); have n1_ := Aside0.mk (Kd.R_elder' (by (with_reducible repeat (first | apply Kd.R_alloc | apply Kd.R_drewN | apply Kd.R_drew)); exact HO465.out) (Kd.R_base ho0) hb); have n2_ := Aside0.mk (Kd.R_elder' (by (with_reducible repeat (first | apply Kd.R_alloc | apply Kd.R_drewN | apply Kd.R_drew)); exact HO469.out) (Kd.R_base ho0) hb); have n3_ := Aside0.mk (Kd.R_lower (Kd.R_new' (Kd.R_new' (Kd.R_new' ho0 (Kd.R_lt (by (with_reducible repeat (first | apply Kd.R_alloc | apply Kd.R_drewN | apply Kd.R_drew)); exact HO462.out))) (Kd.R_lt (by (with_reducible repeat (first | apply Kd.R_alloc | apply Kd.R_drewN | apply Kd.R_drew)); exact HO465.out))) (Kd.R_lt (by (with_reducible repeat (first | apply Kd.R_alloc | apply Kd.R_drewN | apply Kd.R_drew)); exact HO469.out))) (below_size (by repeat (first | (with_reducible first | exact HB.out | apply below_alloc | apply pw_below_drewN | apply below_drew1) | exact HB.out)))); have n4_ := Aside0.mk (below_step (by repeat (first | (with_reducible first | exact HB.out | apply below_alloc | apply pw_below_drewN | apply below_drew1) | exact HB.out)) hb); clear HO462; clear HO465; clear HO469; clear HB; have HO462 := n0_; have HO465 := n1_; have HO469 := n2_; have HO472 := n3_; have HB := n4_; clear n0_ n1_ n2_ n3_ n4_; (try clear hb); (try clear hb2); (try clear hk); (try clear hi); (try clear ho0)) | ((with_reducible refine gate_callee (f := 16) rfl ?_); refine goesL_ (some 36) rfl rfl Try.func16 (by kernel_rfl) rfl #[.slice A1 l1.length c1] rfl (by (try simp only [List.map_toArray, List.map_cons, List.map_nil]); first | done | rfl | (simp only [List.length_drop, List.length_take]; rfl)) ?_; (with_reducible refine (laws_toInt64S.calls k _ _ l1 t473 _ ?side1 ?side2 A10.out).mono ?_); (case side1 => repeat (first | exact (Kd.C_below HR1.out HB.out) | (with_reducible refine Kd.C_alloc ?_ _) | (with_reducible refine Kd.C_drewN ?_ _) | (with_reducible refine Kd.C_drew ?_))); (case side2 => exact HC1.out); rintro e w19 ⟨v474, rfl, ho0, hb⟩; refine ⟨_, rfl, ?_⟩; have n0_ := Aside0.mk (Kd.R_elder' (by (with_reducible repeat (first | apply Kd.R_alloc | apply Kd.R_drewN | apply Kd.R_drew)); exact HO462.out) (Kd.R_base ho0) hb); have n1_ := Aside0.mk (Kd.R_elder' (by (with_reducible repeat (first | apply Kd.R_alloc | apply Kd.R_drewN | apply Kd.R_drew)); exact HO465.out) (Kd.R_base ho0) hb); have n2_ := Aside0.mk (Kd.R_elder' (by (with_reducible repeat (first | apply Kd.R_alloc | apply Kd.R_drewN | apply Kd.R_drew)); exact HO469.out) (Kd.R_base ho0) hb); have n3_ := Aside0.mk (Kd.R_elder' (by (with_reducible repeat (first | apply Kd.R_alloc | apply Kd.R_drewN | apply Kd.R_drew)); exact HO472.out) (Kd.R_base ho0) hb); have n4_ := Aside0.mk (Kd.R_lower (Kd.R_new' (Kd.R_new' (Kd.R_new' (Kd.R_new' ho0 (Kd.R_lt (by (with_reducible repeat (first | apply Kd.R_alloc | apply Kd.R_drewN | apply Kd.R_drew)); exact HO462.out))) (Kd.R_lt (by (with_reducible repeat (first | apply Kd.R_alloc | apply Kd.R_drewN | apply Kd.R_drew)); exact HO465.out))) (Kd.R_lt (by (with_reducible repeat (first | apply Kd.R_alloc | apply Kd.R_drewN | apply Kd.R_drew)); exact HO469.out))) (Kd.R_lt (by (with_reducible repeat (first | apply Kd.R_alloc | apply Kd.R_drewN | apply Kd.R_drew)); exact HO472.out))) (below_size (by repeat (first | (with_reducible first | exact HB.out | apply below_alloc | apply pw_below_drewN | apply below_drew1) | exact HB.out)))); have n5_ := Aside0.mk (below_step (by repeat (first | (with_reducible first | exact HB.out | apply below_alloc | apply pw_below_drewN | apply below_drew1) | exact HB.out)) hb); clear HO462; clear HO465; clear HO469; clear HO472; clear HB; have HO462 := n0_; have HO465 := n1_; have HO469 := n2_; have HO472 := n3_; have HO475 := n4_; have HB := n5_; clear n0_ n1_ n2_ n3_ n4_ n5_; (try clear hb); (try clear hb2); (try clear hk); (try clear hi); (try clear ho0); obtain ⟨Ao20, co20, eo20⟩ := Kd.R_slice HO472.out; subst eo20; obtain ⟨Ao21, co21, eo21⟩ := Kd.R_slice HO475.out; subst eo21) | ((with_reducible refine gate_callee (f := 30) rfl ?_); refine goesL_ (some 41) rfl rfl Try.func30 (by kernel_rfl) rfl #[.slice Ao20 t470.length co20, .slice Ao21 t473.length co21, .int .i64 a2] rfl (by (try simp only [List.map_toArray, List.map_cons, List.map_nil]); first | done | rfl | (simp only [List.length_drop, List.length_take]; rfl)) ?_; (with_reducible refine (impl_UpAndDown.calls k _ _ t470 _ _ t473 a2 t476 t477 _ ?side1 ?side2 ?side3 ?side4 A11.out).mono ?_); (case side1 => repeat (first | exact (Kd.R_reads' HO472.out).2.2 | (with_reducible refine Kd.C_alloc ?_ _) | (with_reducible refine Kd.C_drewN ?_ _) | (with_reducible refine Kd.C_drew ?_))); (case side2 => exact (Kd.R_reads' HO472.out).2.1); (case side3 => repeat (first | exact (Kd.R_reads' HO475.out).2.2 | (with_reducible refine Kd.C_alloc ?_ _) | (with_reducible refine Kd.C_drewN ?_ _) | (with_reducible refine Kd.C_drew ?_))); (case side4 => exact (Kd.R_reads' HO475.out).2.1); rintro e w22 ⟨v478, rfl, ho0, hb⟩; refine ⟨_, rfl, ?_⟩; have n0_ := Aside0.mk (Kd.R_elder' (by (with_reducible repeat (first | apply Kd.R_alloc | apply Kd.R_drewN | apply Kd.R_drew)); exact HO462.out) (Kd.R_base ho0) hb); have n1_ := Aside0.mk (Kd.R_elder' (by (with_reducible repeat (first | apply Kd.R_alloc | apply Kd.R_drewN | apply Kd.R_drew)); exact HO465.out) (Kd.R_base ho0) hb); have n2_ := Aside0.mk (Kd.R_elder' (by (with_reducible repeat (first | apply Kd.R_alloc | apply Kd.R_drewN | apply Kd.R_drew)); exact HO469.out) (Kd.R_base ho0) hb); have n3_ := Aside0.mk (Kd.R_elder' (by (with_reducible repeat (first | apply Kd.R_alloc | apply Kd.R_drewN | apply Kd.R_drew)); exact HO472.out) (Kd.R_base ho0) hb); have n4_ := Aside0.mk (Kd.R_elder' (by (with_reducible repeat (first | apply Kd.R_alloc | apply Kd.R_drewN | apply Kd.R_drew)); exact HO475.out) (Kd.R_base ho0) hb); have n5_ := Aside0.mk (Kd.R_lower (Kd.R_new' (Kd.R_new' (Kd.R_new' (Kd.R_new' (Kd.R_new' ho0 (Kd.R_lt (by (with_reducible repeat (first | apply Kd.R_alloc | apply Kd.R_drewN | apply Kd.R_drew)); exact HO462.out))) (Kd.R_lt (by (with_reducible repeat (first | apply Kd.R_alloc | apply Kd.R_drewN | apply Kd.R_drew)); exact HO465.out))) (Kd.R_lt (by (with_reducible repeat (first | apply Kd.R_alloc | apply Kd.R_drewN | apply Kd.R_drew)); exact HO469.out))) (Kd.R_lt (by (with_reducible repeat (first | apply Kd.R_alloc | apply Kd.R_drewN | apply Kd.R_drew)); exact HO472.out))) (Kd.R_lt (by (with_reducible repeat (first | apply Kd.R_alloc | apply Kd.R_drewN | apply Kd.R_drew)); exact HO475.out))) (below_size (by repeat (first | (with_reducible first | exact HB.out | apply below_alloc | apply pw_below_drewN | apply below_drew1) | exact HB.out)))); have n6_ := Aside0.mk (below_step (by repeat (first | (with_reducible first | exact HB.out | apply below_alloc | apply pw_below_drewN | apply below_drew1) | exact HB.out)) hb); clear HO462; clear HO465; clear HO469; clear HO472; clear HO475; clear HB; have HO462 := n0_; have HO465 := n1_; have HO469 := n2_; have HO472 := n3_; have HO475 := n4_; have HO479 := n5_; have HB := n6_; clear n0_ n1_ n2_ n3_ n4_ n5_ n6_; (try clear hb); (try clear hb2); (try clear hk); (try clear hi); (try clear ho0)))
      (try simp only [Act.put, List.setIfInBounds_toArray, List.set_cons_zero, List.set_cons_succ])
      go_cut [52] (fun v52 wc => ∃ (kq : Nat) (x52_11 : Bool), v52 = .bool x52_11 ∧ Aside0 (laws_FnExactUpAndDown.j0 kq l0 l1 a2 t466 t467 t470 t473 t476 t477 x52_11 = some r) ∧ Aside0 (kq ≤ k) ∧ Aside0 (Kd.R (Kd.int .i64) 2 wc w.heap.size (fun k_ => some k_ ≠ ((.slice Ao20 t470.length co20) : Value).ownBlock ∧ some k_ ≠ ((.slice Ao21 t473.length co21) : Value).ownBlock ∧ some k_ ≠ (v478 : Value).ownBlock) v468 t466) ∧ Aside0 (Kd.R (Kd.int .i64) 2 wc w.heap.size (fun k_ => some k_ ≠ (v468 : Value).ownBlock ∧ some k_ ≠ ((.slice Ao21 t473.length co21) : Value).ownBlock ∧ some k_ ≠ (v478 : Value).ownBlock) (.slice Ao20 t470.length co20) t470) ∧ Aside0 (Kd.R (Kd.int .i64) 2 wc w.heap.size (fun k_ => some k_ ≠ (v468 : Value).ownBlock ∧ some k_ ≠ ((.slice Ao20 t470.length co20) : Value).ownBlock ∧ some k_ ≠ (v478 : Value).ownBlock) (.slice Ao21 t473.length co21) t473) ∧ Aside0 (Kd.R (Kd.int .i64) 2 wc w.heap.size (fun k_ => some k_ ≠ (v468 : Value).ownBlock ∧ some k_ ≠ ((.slice Ao20 t470.length co20) : Value).ownBlock ∧ some k_ ≠ ((.slice Ao21 t473.length co21) : Value).ownBlock) v478 t476) ∧ Aside0 (Below w.heap.size w wc))
      case first =>
        have H := HC12.out
        clear HC12
        replace H := Option.bind_eq_some_iff.mp H
        obtain ⟨t480, A230, H⟩ := H
        replace H : (if t480 = true then (laws_FnExactUpAndDown.j0 k l0 l1 a2 t466 t467 t470 t473 t476 t477 (t477 != t467)) else (laws_FnExactUpAndDown.j0 k l0 l1 a2 t466 t467 t470 t473 t476 t477 true)) = some r := H
        have A23 := Aside0.mk A230
        clear A230
        by_cases c24 : t480 = true
        · subst c24
          have H1 : (laws_FnExactUpAndDown.j0 k l0 l1 a2 t466 t467 t470 t473 t476 t477 (t477 != t467)) = some r := by rw [if_pos rfl] at H; exact H
          clear H
          have H := H1
          clear H1
          have H' := Aside0.mk H
          clear H
          obtain ⟨Ao25, co25, eo25⟩ := Kd.R_slice HO479.out
          subst eo25
          obtain ⟨Ao26, co26, eo26⟩ := Kd.R_slice HO469.out
          subst eo26
          go_wp2_with (first | ((with_reducible refine gate_callee (f := 18) rfl ?_); refine goesL_ (some 46) rfl rfl Try.func18 (by kernel_rfl) rfl #[.slice Ao25 t476.length co25, .slice Ao26 t466.length co26] rfl (by (try simp only [List.map_toArray, List.map_cons, List.map_nil]); first | done | rfl | (simp only [List.length_drop, List.length_take]; rfl)) ?_; (with_reducible refine (laws_eqInt64S.calls k _ _ t476 _ _ t466 true _ ?side1 ?side2 ?side3 ?side4 A23.out).mono ?_); (case side1 => repeat (first | exact (Kd.R_reads' HO479.out).2.2 | (with_reducible refine Kd.C_alloc ?_ _) | (with_reducible refine Kd.C_drewN ?_ _) | (with_reducible refine Kd.C_drew ?_))); (case side2 => exact (Kd.R_reads' HO479.out).2.1); (case side3 => repeat (first | exact (Kd.R_reads' HO469.out).2.2 | (with_reducible refine Kd.C_alloc ?_ _) | (with_reducible refine Kd.C_drewN ?_ _) | (with_reducible refine Kd.C_drew ?_))); (case side4 => exact (Kd.R_reads' HO469.out).2.1); rintro e w' ⟨rfl, ⟨nd, rfl⟩⟩; refine ⟨_, rfl, ?_⟩))
          go_meet
          case rel => exact ⟨_, ((t477 != t467)), (by first | rfl | (simp; done) | (simp [*]; done)), H', ⟨by first | omega | exact Nat.le_refl _⟩, ⟨by (with_reducible repeat (first | apply Kd.R_alloc | apply Kd.R_drewN | apply Kd.R_drew)); exact Kd.R_mono HO469.out (fun _ hk => ⟨hk.1.1.2, ⟨hk.1.2, hk.2⟩⟩)⟩, ⟨by (with_reducible repeat (first | apply Kd.R_alloc | apply Kd.R_drewN | apply Kd.R_drew)); exact Kd.R_mono HO472.out (fun _ hk => ⟨hk.1.1.2, ⟨hk.1.2, hk.2⟩⟩)⟩, ⟨by (with_reducible repeat (first | apply Kd.R_alloc | apply Kd.R_drewN | apply Kd.R_drew)); exact Kd.R_mono HO475.out (fun _ hk => ⟨hk.1.1.2, ⟨hk.1.2, hk.2⟩⟩)⟩, ⟨by (with_reducible repeat (first | apply Kd.R_alloc | apply Kd.R_drewN | apply Kd.R_drew)); exact Kd.R_mono HO479.out (fun _ hk => ⟨hk.1.1.2, ⟨hk.1.2, hk.2⟩⟩)⟩, ⟨by repeat (first | (with_reducible first | exact HB.out | apply below_alloc | apply pw_below_drewN | apply below_drew1) | exact HB.out)⟩⟩
        · replace c24 := Bool.eq_false_iff.mpr c24
          subst c24
          have H1 : (laws_FnExactUpAndDown.j0 k l0 l1 a2 t466 t467 t470 t473 t476 t477 true) = some r := by rw [if_neg (show ¬ (false = true) by decide)] at H; exact H
          clear H
          have H := H1
          clear H1
          have H' := Aside0.mk H
          clear H
          obtain ⟨Ao27, co27, eo27⟩ := Kd.R_slice HO479.out
          subst eo27
          obtain ⟨Ao28, co28, eo28⟩ := Kd.R_slice HO469.out
          subst eo28
          go_wp2_with (first | ((with_reducible refine gate_callee (f := 18) rfl ?_); refine goesL_ (some 46) rfl rfl Try.func18 (by kernel_rfl) rfl #[.slice Ao27 t476.length co27, .slice Ao28 t466.length co28] rfl (by (try simp only [List.map_toArray, List.map_cons, List.map_nil]); first | done | rfl | (simp only [List.length_drop, List.length_take]; rfl)) ?_; (with_reducible refine (laws_eqInt64S.calls k _ _ t476 _ _ t466 false _ ?side1 ?side2 ?side3 ?side4 A23.out).mono ?_); (case side1 => repeat (first | exact (Kd.R_reads' HO479.out).2.2 | (with_reducible refine Kd.C_alloc ?_ _) | (with_reducible refine Kd.C_drewN ?_ _) | (with_reducible refine Kd.C_drew ?_))); (case side2 => exact (Kd.R_reads' HO479.out).2.1); (case side3 => repeat (first | exact (Kd.R_reads' HO469.out).2.2 | (with_reducible refine Kd.C_alloc ?_ _) | (with_reducible refine Kd.C_drewN ?_ _) | (with_reducible refine Kd.C_drew ?_))); (case side4 => exact (Kd.R_reads' HO469.out).2.1); rintro e w' ⟨rfl, ⟨nd, rfl⟩⟩; refine ⟨_, rfl, ?_⟩))
          go_meet
          case rel => exact ⟨_, (true), (by first | rfl | (simp; done) | (simp [*]; done)), H', ⟨by first | omega | exact Nat.le_refl _⟩, ⟨by (with_reducible repeat (first | apply Kd.R_alloc | apply Kd.R_drewN | apply Kd.R_drew)); exact Kd.R_mono HO469.out (fun _ hk => ⟨hk.1.1.2, ⟨hk.1.2, hk.2⟩⟩)⟩, ⟨by (with_reducible repeat (first | apply Kd.R_alloc | apply Kd.R_drewN | apply Kd.R_drew)); exact Kd.R_mono HO472.out (fun _ hk => ⟨hk.1.1.2, ⟨hk.1.2, hk.2⟩⟩)⟩, ⟨by (with_reducible repeat (first | apply Kd.R_alloc | apply Kd.R_drewN | apply Kd.R_drew)); exact Kd.R_mono HO475.out (fun _ hk => ⟨hk.1.1.2, ⟨hk.1.2, hk.2⟩⟩)⟩, ⟨by (with_reducible repeat (first | apply Kd.R_alloc | apply Kd.R_drewN | apply Kd.R_drew)); exact Kd.R_mono HO479.out (fun _ hk => ⟨hk.1.1.2, ⟨hk.1.2, hk.2⟩⟩)⟩, ⟨by repeat (first | (with_reducible first | exact HB.out | apply below_alloc | apply pw_below_drewN | apply below_drew1) | exact HB.out)⟩⟩
      case rest =>
        clear HC12
        try clear c1
        try clear c2
        try clear p2
        try clear c3
        try clear c4
        try clear c4b0
        try clear c4b1
        try clear c5
        try clear c5b0
        try clear c5b1
        try clear c8
        try clear c16
        try clear c18
        try clear c24
        obtain ⟨kq, x52_11, rfl, HA, HJ11, HO_7, HO_9, HO_10, HO_11, HB⟩ := hcut
        cases kq with
        | zero => exact absurd HA.out (by simp [laws_FnExactUpAndDown.j0])
        | succ kj11 =>
          have H := HA.out
          clear HA
          simp only [laws_FnExactUpAndDown.j0] at H
          by_cases c29 : x52_11 = true
          · subst c29
            have H1 : (some false) = some r := by rw [if_pos rfl] at H; exact H
            clear H
            have H := H1
            clear H1
            exact absurd ((Option.some.inj H).trans HT.out) (by decide)
          · replace c29 := Bool.eq_false_iff.mpr c29
            subst c29
            have H1 : ((laws_toInt64S.f kj11 l0).bind fun t481 => ((laws_eqInt64S.f kj11 t470 t481).bind fun t484 => (if t484 = true then ((laws_toInt64S.f kj11 l1).bind fun t485 => ((laws_eqInt64S.f kj11 t473 t485).bind fun t488 => (if t488 = true then ((laws_markInt64S.f kj11 t470 1).bind fun bt489 => ((laws_markInt64S.f kj11 t473 bt489.1).bind fun bt491 => (if bt491.1 < 0 then (laws_FnExactUpAndDown.j1 kj11 l0 l1 a2 t466 t467 t476 true) else ((laws_eqInt64S.f kj11 t476 t466).bind fun t493 => (if t493 = true then (laws_FnExactUpAndDown.j1 kj11 l0 l1 a2 t466 t467 t476 (t477 != t467)) else (laws_FnExactUpAndDown.j1 kj11 l0 l1 a2 t466 t467 t476 true)))))) else (some false)))) else (some false)))) = some r := by rw [if_neg (show ¬ (false = true) by decide)] at H; exact H
            clear H
            have H := H1
            clear H1
            replace H := Option.bind_eq_some_iff.mp H
            obtain ⟨t481, A300, H⟩ := H
            replace H : ((laws_eqInt64S.f kj11 t470 t481).bind fun t484 => (if t484 = true then ((laws_toInt64S.f kj11 l1).bind fun t485 => ((laws_eqInt64S.f kj11 t473 t485).bind fun t488 => (if t488 = true then ((laws_markInt64S.f kj11 t470 1).bind fun bt489 => ((laws_markInt64S.f kj11 t473 bt489.1).bind fun bt491 => (if bt491.1 < 0 then (laws_FnExactUpAndDown.j1 kj11 l0 l1 a2 t466 t467 t476 true) else ((laws_eqInt64S.f kj11 t476 t466).bind fun t493 => (if t493 = true then (laws_FnExactUpAndDown.j1 kj11 l0 l1 a2 t466 t467 t476 (t477 != t467)) else (laws_FnExactUpAndDown.j1 kj11 l0 l1 a2 t466 t467 t476 true)))))) else (some false)))) else (some false))) = some r := H
            have A30 := Aside0.mk A300
            clear A300
            replace H := Option.bind_eq_some_iff.mp H
            obtain ⟨t484, A310, H⟩ := H
            replace H : (if t484 = true then ((laws_toInt64S.f kj11 l1).bind fun t485 => ((laws_eqInt64S.f kj11 t473 t485).bind fun t488 => (if t488 = true then ((laws_markInt64S.f kj11 t470 1).bind fun bt489 => ((laws_markInt64S.f kj11 t473 bt489.1).bind fun bt491 => (if bt491.1 < 0 then (laws_FnExactUpAndDown.j1 kj11 l0 l1 a2 t466 t467 t476 true) else ((laws_eqInt64S.f kj11 t476 t466).bind fun t493 => (if t493 = true then (laws_FnExactUpAndDown.j1 kj11 l0 l1 a2 t466 t467 t476 (t477 != t467)) else (laws_FnExactUpAndDown.j1 kj11 l0 l1 a2 t466 t467 t476 true)))))) else (some false)))) else (some false)) = some r := H
            have A31 := Aside0.mk A310
            clear A310
            by_cases c32 : t484 = true
            · subst c32
              have H1 : ((laws_toInt64S.f kj11 l1).bind fun t485 => ((laws_eqInt64S.f kj11 t473 t485).bind fun t488 => (if t488 = true then ((laws_markInt64S.f kj11 t470 1).bind fun bt489 => ((laws_markInt64S.f kj11 t473 bt489.1).bind fun bt491 => (if bt491.1 < 0 then (laws_FnExactUpAndDown.j1 kj11 l0 l1 a2 t466 t467 t476 true) else ((laws_eqInt64S.f kj11 t476 t466).bind fun t493 => (if t493 = true then (laws_FnExactUpAndDown.j1 kj11 l0 l1 a2 t466 t467 t476 (t477 != t467)) else (laws_FnExactUpAndDown.j1 kj11 l0 l1 a2 t466 t467 t476 true)))))) else (some false)))) = some r := by rw [if_pos rfl] at H; exact H
              clear H
              have H := H1
              clear H1
              replace H := Option.bind_eq_some_iff.mp H
              obtain ⟨t485, A330, H⟩ := H
              replace H : ((laws_eqInt64S.f kj11 t473 t485).bind fun t488 => (if t488 = true then ((laws_markInt64S.f kj11 t470 1).bind fun bt489 => ((laws_markInt64S.f kj11 t473 bt489.1).bind fun bt491 => (if bt491.1 < 0 then (laws_FnExactUpAndDown.j1 kj11 l0 l1 a2 t466 t467 t476 true) else ((laws_eqInt64S.f kj11 t476 t466).bind fun t493 => (if t493 = true then (laws_FnExactUpAndDown.j1 kj11 l0 l1 a2 t466 t467 t476 (t477 != t467)) else (laws_FnExactUpAndDown.j1 kj11 l0 l1 a2 t466 t467 t476 true)))))) else (some false))) = some r := H
              have A33 := Aside0.mk A330
              clear A330
              replace H := Option.bind_eq_some_iff.mp H
              obtain ⟨t488, A340, H⟩ := H
              replace H : (if t488 = true then ((laws_markInt64S.f kj11 t470 1).bind fun bt489 => ((laws_markInt64S.f kj11 t473 bt489.1).bind fun bt491 => (if bt491.1 < 0 then (laws_FnExactUpAndDown.j1 kj11 l0 l1 a2 t466 t467 t476 true) else ((laws_eqInt64S.f kj11 t476 t466).bind fun t493 => (if t493 = true then (laws_FnExactUpAndDown.j1 kj11 l0 l1 a2 t466 t467 t476 (t477 != t467)) else (laws_FnExactUpAndDown.j1 kj11 l0 l1 a2 t466 t467 t476 true)))))) else (some false)) = some r := H
              have A34 := Aside0.mk A340
              clear A340
              by_cases c35 : t488 = true
              · subst c35
                have H1 : ((laws_markInt64S.f kj11 t470 1).bind fun bt489 => ((laws_markInt64S.f kj11 t473 bt489.1).bind fun bt491 => (if bt491.1 < 0 then (laws_FnExactUpAndDown.j1 kj11 l0 l1 a2 t466 t467 t476 true) else ((laws_eqInt64S.f kj11 t476 t466).bind fun t493 => (if t493 = true then (laws_FnExactUpAndDown.j1 kj11 l0 l1 a2 t466 t467 t476 (t477 != t467)) else (laws_FnExactUpAndDown.j1 kj11 l0 l1 a2 t466 t467 t476 true)))))) = some r := by rw [if_pos rfl] at H; exact H
                clear H
                have H := H1
                clear H1
                replace H := Option.bind_eq_some_iff.mp H
                obtain ⟨⟨t489, t490⟩, A360, H⟩ := H
                replace H : ((laws_markInt64S.f kj11 t473 t489).bind fun bt491 => (if bt491.1 < 0 then (laws_FnExactUpAndDown.j1 kj11 l0 l1 a2 t466 t467 t476 true) else ((laws_eqInt64S.f kj11 t476 t466).bind fun t493 => (if t493 = true then (laws_FnExactUpAndDown.j1 kj11 l0 l1 a2 t466 t467 t476 (t477 != t467)) else (laws_FnExactUpAndDown.j1 kj11 l0 l1 a2 t466 t467 t476 true))))) = some r := H
                have A36 := Aside0.mk A360
                clear A360
                replace H := Option.bind_eq_some_iff.mp H
                obtain ⟨⟨t491, t492⟩, A370, H⟩ := H
                replace H : (if t491 < 0 then (laws_FnExactUpAndDown.j1 kj11 l0 l1 a2 t466 t467 t476 true) else ((laws_eqInt64S.f kj11 t476 t466).bind fun t493 => (if t493 = true then (laws_FnExactUpAndDown.j1 kj11 l0 l1 a2 t466 t467 t476 (t477 != t467)) else (laws_FnExactUpAndDown.j1 kj11 l0 l1 a2 t466 t467 t476 true)))) = some r := H
                have A37 := Aside0.mk A370
                clear A370
                have HC38 := Aside0.mk H
                clear H
                go_upto_region 18 with (first | ((with_reducible refine gate_callee (f := 16) rfl ?_); refine goesL_ (some 55) rfl rfl Try.func16 (by kernel_rfl) rfl #[.slice A0 l0.length c0] rfl (by (try simp only [List.map_toArray, List.map_cons, List.map_nil]); first | done | rfl | (simp only [List.length_drop, List.length_take]; rfl)) ?_; (with_reducible refine (laws_toInt64S.calls kj11 _ _ l0 t481 _ ?side1 ?side2 A30.out).mono ?_); (case side1 => repeat (first | exact (Kd.C_below HR0.out HB.out) | (with_reducible refine Kd.C_alloc ?_ _) | (with_reducible refine Kd.C_drewN ?_ _) | (with_reducible refine Kd.C_drew ?_))); (case side2 => exact HC0.out); rintro e w39 ⟨v482, rfl, ho0, hb⟩; refine ⟨_, rfl, ?_⟩; have n0_ := Aside0.mk (Kd.R_elder' (by (with_reducible repeat (first | apply Kd.R_alloc | apply Kd.R_drewN | apply Kd.R_drew)); exact HO_7.out) (Kd.R_base ho0) hb); have n1_ := Aside0.mk (Kd.R_elder' (by (with_reducible repeat (first | apply Kd.R_alloc | apply Kd.R_drewN | apply Kd.R_drew)); exact HO_9.out) (Kd.R_base ho0) hb); have n2_ := Aside0.mk (Kd.R_elder' (by (with_reducible repeat (first | apply Kd.R_alloc | apply Kd.R_drewN | apply Kd.R_drew)); exact HO_10.out) (Kd.R_base ho0) hb); have n3_ := Aside0.mk (Kd.R_elder' (by (with_reducible repeat (first | apply Kd.R_alloc | apply Kd.R_drewN | apply Kd.R_drew)); exact HO_11.out) (Kd.R_base ho0) hb); have n4_ := Aside0.mk (Kd.R_lower (Kd.R_new' (Kd.R_new' (Kd.R_new' (Kd.R_new' ho0 (Kd.R_lt (by (with_reducible repeat (first | apply Kd.R_alloc | apply Kd.R_drewN | apply Kd.R_drew)); exact HO_7.out))) (Kd.R_lt (by (with_reducible repeat (first | apply Kd.R_alloc | apply Kd.R_drewN | apply Kd.R_drew)); exact HO_9.out))) (Kd.R_lt (by (with_reducible repeat (first | apply Kd.R_alloc | apply Kd.R_drewN | apply Kd.R_drew)); exact HO_10.out))) (Kd.R_lt (by (with_reducible repeat (first | apply Kd.R_alloc | apply Kd.R_drewN | apply Kd.R_drew)); exact HO_11.out))) (below_size (by repeat (first | (with_reducible first | exact HB.out | apply below_alloc | apply pw_below_drewN | apply below_drew1) | exact HB.out)))); have n5_ := Aside0.mk (below_step (by repeat (first | (with_reducible first | exact HB.out | apply below_alloc | apply pw_below_drewN | apply below_drew1) | exact HB.out)) hb); clear HO_7; clear HO_9; clear HO_10; clear HO_11; clear HB; have HO_7 := n0_; have HO_9 := n1_; have HO_10 := n2_; have HO_11 := n3_; have HO483 := n4_; have HB := n5_; clear n0_ n1_ n2_ n3_ n4_ n5_; (try clear hb); (try clear hb2); (try clear hk); (try clear hi); (try clear ho0); obtain ⟨Ao40, co40, eo40⟩ := Kd.R_slice HO483.out; subst eo40) | ((with_reducible refine gate_callee (f := 18) rfl ?_); refine goesL_ (some 56) rfl rfl Try.func18 (by kernel_rfl) rfl #[.slice Ao20 t470.length co20, .slice Ao40 t481.length co40] rfl (by (try simp only [List.map_toArray, List.map_cons, List.map_nil]); first | done | rfl | (simp only [List.length_drop, List.length_take]; rfl)) ?_; (with_reducible refine (laws_eqInt64S.calls kj11 _ _ t470 _ _ t481 true _ ?side1 ?side2 ?side3 ?side4 A31.out).mono ?_); (case side1 => repeat (first | exact (Kd.R_reads' HO_9.out).2.2 | (with_reducible refine Kd.C_alloc ?_ _) | (with_reducible refine Kd.C_drewN ?_ _) | (with_reducible refine Kd.C_drew ?_))); (case side2 => exact (Kd.R_reads' HO_9.out).2.1); (case side3 => repeat (first | exact (Kd.R_reads' HO483.out).2.2 | (with_reducible refine Kd.C_alloc ?_ _) | (with_reducible refine Kd.C_drewN ?_ _) | (with_reducible refine Kd.C_drew ?_))); (case side4 => exact (Kd.R_reads' HO483.out).2.1); rintro e w' ⟨rfl, ⟨nd, rfl⟩⟩; refine ⟨_, rfl, ?_⟩) | ((with_reducible refine gate_callee (f := 16) rfl ?_); refine goesL_ (some 60) rfl rfl Try.func16 (by kernel_rfl) rfl #[.slice A1 l1.length c1] rfl (by (try simp only [List.map_toArray, List.map_cons, List.map_nil]); first | done | rfl | (simp only [List.length_drop, List.length_take]; rfl)) ?_; (with_reducible refine (laws_toInt64S.calls kj11 _ _ l1 t485 _ ?side1 ?side2 A33.out).mono ?_); (case side1 => repeat (first | exact (Kd.C_below HR1.out (by repeat (first | (with_reducible first | exact HB.out | apply below_alloc | apply pw_below_drewN | apply below_drew1) | exact HB.out))) | (with_reducible refine Kd.C_alloc ?_ _) | (with_reducible refine Kd.C_drewN ?_ _) | (with_reducible refine Kd.C_drew ?_))); (case side2 => exact HC1.out); rintro e w41 ⟨v486, rfl, ho0, hb⟩; refine ⟨_, rfl, ?_⟩; have n0_ := Aside0.mk (Kd.R_elder' (by (with_reducible repeat (first | apply Kd.R_alloc | apply Kd.R_drewN | apply Kd.R_drew)); exact HO_7.out) (Kd.R_base ho0) hb); have n1_ := Aside0.mk (Kd.R_elder' (by (with_reducible repeat (first | apply Kd.R_alloc | apply Kd.R_drewN | apply Kd.R_drew)); exact HO_9.out) (Kd.R_base ho0) hb); have n2_ := Aside0.mk (Kd.R_elder' (by (with_reducible repeat (first | apply Kd.R_alloc | apply Kd.R_drewN | apply Kd.R_drew)); exact HO_10.out) (Kd.R_base ho0) hb); have n3_ := Aside0.mk (Kd.R_elder' (by (with_reducible repeat (first | apply Kd.R_alloc | apply Kd.R_drewN | apply Kd.R_drew)); exact HO_11.out) (Kd.R_base ho0) hb); have n4_ := Aside0.mk (Kd.R_elder' (by (with_reducible repeat (first | apply Kd.R_alloc | apply Kd.R_drewN | apply Kd.R_drew)); exact HO483.out) (Kd.R_base ho0) hb); have n5_ := Aside0.mk (Kd.R_lower (Kd.R_new' (Kd.R_new' (Kd.R_new' (Kd.R_new' (Kd.R_new' ho0 (Kd.R_lt (by (with_reducible repeat (first | apply Kd.R_alloc | apply Kd.R_drewN | apply Kd.R_drew)); exact HO_7.out))) (Kd.R_lt (by (with_reducible repeat (first | apply Kd.R_alloc | apply Kd.R_drewN | apply Kd.R_drew)); exact HO_9.out))) (Kd.R_lt (by (with_reducible repeat (first | apply Kd.R_alloc | apply Kd.R_drewN | apply Kd.R_drew)); exact HO_10.out))) (Kd.R_lt (by (with_reducible repeat (first | apply Kd.R_alloc | apply Kd.R_drewN | apply Kd.R_drew)); exact HO_11.out))) (Kd.R_lt (by (with_reducible repeat (first | apply Kd.R_alloc | apply Kd.R_drewN | apply Kd.R_drew)); exact HO483.out))) (below_size (by repeat (first | (with_reducible first | exact HB.out | apply below_alloc | apply pw_below_drewN | apply below_drew1) | exact HB.out)))); have n6_ := Aside0.mk (below_step (by repeat (first | (with_reducible first | exact HB.out | apply below_alloc | apply pw_below_drewN | apply below_drew1) | exact HB.out)) hb); clear HO_7; clear HO_9; clear HO_10; clear HO_11; clear HO483; clear HB; have HO_7 := n0_; have HO_9 := n1_; have HO_10 := n2_; have HO_11 := n3_; have HO483 := n4_; have HO487 := n5_; have HB := n6_; clear n0_ n1_ n2_ n3_ n4_ n5_ n6_; (try clear hb); (try clear hb2); (try clear hk); (try clear hi); (try clear ho0); obtain ⟨Ao42, co42, eo42⟩ := Kd.R_slice HO487.out; subst eo42) | ((with_reducible refine gate_callee (f := 18) rfl ?_); refine goesL_ (some 61) rfl rfl Try.func18 (by kernel_rfl) rfl #[.slice Ao21 t473.length co21, .slice Ao42 t485.length co42] rfl (by (try simp only [List.map_toArray, List.map_cons, List.map_nil]); first | done | rfl | (simp only [List.length_drop, List.length_take]; rfl)) ?_; (with_reducible refine (laws_eqInt64S.calls kj11 _ _ t473 _ _ t485 true _ ?side1 ?side2 ?side3 ?side4 A34.out).mono ?_); (case side1 => repeat (first | exact (Kd.R_reads' HO_10.out).2.2 | (with_reducible refine Kd.C_alloc ?_ _) | (with_reducible refine Kd.C_drewN ?_ _) | (with_reducible refine Kd.C_drew ?_))); (case side2 => exact (Kd.R_reads' HO_10.out).2.1); (case side3 => repeat (first | exact (Kd.R_reads' HO487.out).2.2 | (with_reducible refine Kd.C_alloc ?_ _) | (with_reducible refine Kd.C_drewN ?_ _) | (with_reducible refine Kd.C_drew ?_))); (case side4 => exact (Kd.R_reads' HO487.out).2.1); rintro e w' ⟨rfl, ⟨nd, rfl⟩⟩; refine ⟨_, rfl, ?_⟩) | ((with_reducible refine gate_callee (f := 19) rfl ?_); refine goesL_ (some 65) rfl rfl Try.func19 (by kernel_rfl) rfl #[.slice Ao20 t470.length co20, .int .i64 1] rfl (by (try simp only [List.map_toArray, List.map_cons, List.map_nil]); first | done | rfl | (simp only [List.length_drop, List.length_take]; rfl)) ?_; (with_reducible refine (laws_markInt64S.calls kj11 (fun k_ => some k_ = (.slice Ao20 t470.length co20 : Value).ownBlock) (.slice Ao20 t470.length co20) t470 1 t489 t490 w _ ?side1 ?side2 A36.out).mono ?_); (case side1 => repeat (first | (with_reducible first | exact HB.out | apply below_alloc | apply pw_below_drewN | apply below_drew1) | exact HB.out)); (case side2 => exact Kd.R_tight rfl HO_9.out); rintro e w43 ⟨rfl, hy0, hb, hkp⟩; refine ⟨_, rfl, ?_⟩; have n0_ := Aside0.mk (Kd.R_mono (ok' := fun k_ => some k_ ≠ (.slice Ao20 t470.length co20 : Value).ownBlock ∧ some k_ ≠ (.slice Ao21 t473.length co21 : Value).ownBlock ∧ some k_ ≠ (v478 : Value).ownBlock ∧ some k_ ≠ (.slice Ao40 t481.length co40 : Value).ownBlock ∧ some k_ ≠ (.slice Ao42 t485.length co42 : Value).ownBlock) (Kd.R_keptB (HO_7.out) hkp (fun k_ hk_ hs_ => (hk_.1.1.1) hs_)) (fun k_ hk_ => ⟨hk_.1.1.1.1, hk_.1.1.1.2.1, hk_.1.1.1.2.2, hk_.1.1.2, hk_.1.2⟩)); have n1_ := Aside0.mk (Kd.R_reok rfl hy0 (fun k_ e_ => HO_9.out.1 k_ e_)); have n2_ := Aside0.mk (Kd.R_mono (ok' := fun k_ => some k_ ≠ (v468 : Value).ownBlock ∧ some k_ ≠ (.slice Ao20 t470.length co20 : Value).ownBlock ∧ some k_ ≠ (v478 : Value).ownBlock ∧ some k_ ≠ (.slice Ao40 t481.length co40 : Value).ownBlock ∧ some k_ ≠ (.slice Ao42 t485.length co42 : Value).ownBlock) (Kd.R_keptB (HO_10.out) hkp (fun k_ hk_ hs_ => (hk_.1.1.2.1) hs_)) (fun k_ hk_ => ⟨hk_.1.1.1.1, hk_.1.1.1.2.1, hk_.1.1.1.2.2, hk_.1.1.2, hk_.1.2⟩)); have n3_ := Aside0.mk (Kd.R_mono (ok' := fun k_ => some k_ ≠ (v468 : Value).ownBlock ∧ some k_ ≠ (.slice Ao20 t470.length co20 : Value).ownBlock ∧ some k_ ≠ (.slice Ao21 t473.length co21 : Value).ownBlock ∧ some k_ ≠ (.slice Ao40 t481.length co40 : Value).ownBlock ∧ some k_ ≠ (.slice Ao42 t485.length co42 : Value).ownBlock) (Kd.R_keptB (HO_11.out) hkp (fun k_ hk_ hs_ => (hk_.1.1.2.1) hs_)) (fun k_ hk_ => ⟨hk_.1.1.1.1, hk_.1.1.1.2.1, hk_.1.1.1.2.2, hk_.1.1.2, hk_.1.2⟩)); have n4_ := Aside0.mk (Kd.R_mono (ok' := fun k_ => some k_ ≠ (v468 : Value).ownBlock ∧ some k_ ≠ (.slice Ao20 t470.length co20 : Value).ownBlock ∧ some k_ ≠ (.slice Ao21 t473.length co21 : Value).ownBlock ∧ some k_ ≠ (v478 : Value).ownBlock ∧ some k_ ≠ (.slice Ao42 t485.length co42 : Value).ownBlock) (Kd.R_keptB (HO483.out) hkp (fun k_ hk_ hs_ => (hk_.1.1.1.2) hs_)) (fun k_ hk_ => ⟨hk_.1.1.1.1.1.2, hk_.1.1.1.1.2, hk_.1.1.1.2, hk_.1.1.2, hk_.1.2⟩)); have n5_ := Aside0.mk (Kd.R_mono (ok' := fun k_ => some k_ ≠ (v468 : Value).ownBlock ∧ some k_ ≠ (.slice Ao20 t470.length co20 : Value).ownBlock ∧ some k_ ≠ (.slice Ao21 t473.length co21 : Value).ownBlock ∧ some k_ ≠ (v478 : Value).ownBlock ∧ some k_ ≠ (.slice Ao40 t481.length co40 : Value).ownBlock) (Kd.R_keptB (HO487.out) hkp (fun k_ hk_ hs_ => (hk_.1.1.1.2) hs_)) (fun k_ hk_ => ⟨hk_.1.1.1.1.1.2, hk_.1.1.1.1.2, hk_.1.1.1.2, hk_.1.1.2, hk_.1.2⟩)); have n6_ := Aside0.mk (hb); clear HO_7; clear HO_9; clear HO_10; clear HO_11; clear HO483; clear HO487; clear HB; have HO_7 := n0_; have HO_9 := n1_; have HO_10 := n2_; have HO_11 := n3_; have HO483 := n4_; have HO487 := n5_; have HB := n6_; clear n0_ n1_ n2_ n3_ n4_ n5_ n6_; (try clear hb); (try clear hkp); (try clear hy0)) | ((with_reducible refine gate_callee (f := 19) rfl ?_); refine goesL_ (some 68) rfl rfl Try.func19 (by kernel_rfl) rfl #[.slice Ao21 t473.length co21, .int .i64 t489] rfl (by (try simp only [List.map_toArray, List.map_cons, List.map_nil]); first | done | rfl | (simp only [List.length_drop, List.length_take]; rfl)) ?_; (with_reducible refine (laws_markInt64S.calls kj11 (fun k_ => some k_ = (.slice Ao21 t473.length co21 : Value).ownBlock) (.slice Ao21 t473.length co21) t473 t489 t491 t492 w _ ?side1 ?side2 A37.out).mono ?_); (case side1 => repeat (first | (with_reducible first | exact HB.out | apply below_alloc | apply pw_below_drewN | apply below_drew1) | exact HB.out)); (case side2 => exact Kd.R_tight rfl HO_10.out); rintro e w44 ⟨rfl, hy0, hb, hkp⟩; refine ⟨_, rfl, ?_⟩; have n0_ := Aside0.mk (Kd.R_mono (ok' := fun k_ => some k_ ≠ (.slice Ao20 t470.length co20 : Value).ownBlock ∧ some k_ ≠ (.slice Ao21 t473.length co21 : Value).ownBlock ∧ some k_ ≠ (v478 : Value).ownBlock ∧ some k_ ≠ (.slice Ao40 t481.length co40 : Value).ownBlock ∧ some k_ ≠ (.slice Ao42 t485.length co42 : Value).ownBlock) (Kd.R_keptB (HO_7.out) hkp (fun k_ hk_ hs_ => (hk_.2.1) hs_)) (fun k_ hk_ => ⟨hk_.1.1, hk_.1.2.1, hk_.1.2.2.1, hk_.1.2.2.2.1, hk_.1.2.2.2.2⟩)); have n1_ := Aside0.mk (Kd.R_mono (ok' := fun k_ => some k_ ≠ (v468 : Value).ownBlock ∧ some k_ ≠ (.slice Ao21 t473.length co21 : Value).ownBlock ∧ some k_ ≠ (v478 : Value).ownBlock ∧ some k_ ≠ (.slice Ao40 t481.length co40 : Value).ownBlock ∧ some k_ ≠ (.slice Ao42 t485.length co42 : Value).ownBlock) (Kd.R_keptB (HO_9.out) hkp (fun k_ hk_ hs_ => (hk_.1.1.2.1) hs_)) (fun k_ hk_ => ⟨hk_.1.1.1.1, hk_.1.1.1.2.1, hk_.1.1.1.2.2, hk_.1.1.2, hk_.1.2⟩)); have n2_ := Aside0.mk (Kd.R_reok rfl hy0 (fun k_ e_ => HO_10.out.1 k_ e_)); have n3_ := Aside0.mk (Kd.R_mono (ok' := fun k_ => some k_ ≠ (v468 : Value).ownBlock ∧ some k_ ≠ (.slice Ao20 t470.length co20 : Value).ownBlock ∧ some k_ ≠ (.slice Ao21 t473.length co21 : Value).ownBlock ∧ some k_ ≠ (.slice Ao40 t481.length co40 : Value).ownBlock ∧ some k_ ≠ (.slice Ao42 t485.length co42 : Value).ownBlock) (Kd.R_keptB (HO_11.out) hkp (fun k_ hk_ hs_ => (hk_.2.2.1) hs_)) (fun k_ hk_ => ⟨hk_.1.1, hk_.1.2.1, hk_.1.2.2.1, hk_.1.2.2.2.1, hk_.1.2.2.2.2⟩)); have n4_ := Aside0.mk (Kd.R_mono (ok' := fun k_ => some k_ ≠ (v468 : Value).ownBlock ∧ some k_ ≠ (.slice Ao20 t470.length co20 : Value).ownBlock ∧ some k_ ≠ (.slice Ao21 t473.length co21 : Value).ownBlock ∧ some k_ ≠ (v478 : Value).ownBlock ∧ some k_ ≠ (.slice Ao42 t485.length co42 : Value).ownBlock) (Kd.R_keptB (HO483.out) hkp (fun k_ hk_ hs_ => (hk_.2.2.1) hs_)) (fun k_ hk_ => ⟨hk_.1.1, hk_.1.2.1, hk_.1.2.2.1, hk_.1.2.2.2.1, hk_.1.2.2.2.2⟩)); have n5_ := Aside0.mk (Kd.R_mono (ok' := fun k_ => some k_ ≠ (v468 : Value).ownBlock ∧ some k_ ≠ (.slice Ao20 t470.length co20 : Value).ownBlock ∧ some k_ ≠ (.slice Ao21 t473.length co21 : Value).ownBlock ∧ some k_ ≠ (v478 : Value).ownBlock ∧ some k_ ≠ (.slice Ao40 t481.length co40 : Value).ownBlock) (Kd.R_keptB (HO487.out) hkp (fun k_ hk_ hs_ => (hk_.2.2.1) hs_)) (fun k_ hk_ => ⟨hk_.1.1, hk_.1.2.1, hk_.1.2.2.1, hk_.1.2.2.2.1, hk_.1.2.2.2.2⟩)); have n6_ := Aside0.mk (hb); clear HO_7; clear HO_9; clear HO_10; clear HO_11; clear HO483; clear HO487; clear HB; have HO_7 := n0_; have HO_9 := n1_; have HO_10 := n2_; have HO_11 := n3_; have HO483 := n4_; have HO487 := n5_; have HB := n6_; clear n0_ n1_ n2_ n3_ n4_ n5_ n6_; (try clear hb); (try clear hkp); (try clear hy0)))
                (try simp only [Act.put, List.setIfInBounds_toArray, List.set_cons_zero, List.set_cons_succ])
                go_cut [81] (fun v81 wc => ∃ (kq : Nat) (x81_37 : Bool), v81 = .bool x81_37 ∧ Aside0 (laws_FnExactUpAndDown.j1 kq l0 l1 a2 t466 t467 t476 x81_37 = some r) ∧ Aside0 (kq ≤ kj11) ∧ Aside0 (Kd.R (Kd.int .i64) 2 wc w.heap.size (fun k_ => some k_ ≠ (v478 : Value).ownBlock) v468 t466) ∧ Aside0 (Kd.R (Kd.int .i64) 2 wc w.heap.size (fun k_ => some k_ ≠ (v468 : Value).ownBlock) v478 t476) ∧ Aside0 (Below w.heap.size w wc))
                case first =>
                  have H := HC38.out
                  clear HC38
                  by_cases c45 : t491 < 0
                  · rw [if_pos c45] at H
                    have c45b0 : decide (t491 < 0) = true := decide_eq_true c45
                    clear c45
                    (first | rw [c45b0] | (simp only [i64_w, i32_w]; rw [c45b0]) | skip)
                    have H' := Aside0.mk H
                    clear H
                    go_wp2
                    go_meet
                    case rel => exact ⟨_, (true), (by first | rfl | (simp; done) | (simp [*]; done)), H', ⟨by have := HJ11.out; first | omega | exact Nat.le_refl _⟩, ⟨by (with_reducible repeat (first | apply Kd.R_alloc | apply Kd.R_drewN | apply Kd.R_drew)); exact Kd.R_mono HO_7.out (fun _ hk => hk.2.2.1)⟩, ⟨by (with_reducible repeat (first | apply Kd.R_alloc | apply Kd.R_drewN | apply Kd.R_drew)); exact Kd.R_mono HO_11.out (fun _ hk => hk.1)⟩, ⟨by repeat (first | (with_reducible first | exact HB.out | apply below_alloc | apply pw_below_drewN | apply below_drew1) | exact HB.out)⟩⟩
                  · rw [if_neg c45] at H
                    have c45b0 : decide (t491 < 0) = false := decide_eq_false c45
                    clear c45
                    (first | rw [c45b0] | (simp only [i64_w, i32_w]; rw [c45b0]) | skip)
                    replace H := Option.bind_eq_some_iff.mp H
                    obtain ⟨t493, A460, H⟩ := H
                    replace H : (if t493 = true then (laws_FnExactUpAndDown.j1 kj11 l0 l1 a2 t466 t467 t476 (t477 != t467)) else (laws_FnExactUpAndDown.j1 kj11 l0 l1 a2 t466 t467 t476 true)) = some r := H
                    have A46 := Aside0.mk A460
                    clear A460
                    by_cases c47 : t493 = true
                    · subst c47
                      have H1 : (laws_FnExactUpAndDown.j1 kj11 l0 l1 a2 t466 t467 t476 (t477 != t467)) = some r := by rw [if_pos rfl] at H; exact H
                      clear H
                      have H := H1
                      clear H1
                      have H' := Aside0.mk H
                      clear H
                      obtain ⟨Ao48, co48, eo48⟩ := Kd.R_slice HO_11.out
                      subst eo48
                      obtain ⟨Ao49, co49, eo49⟩ := Kd.R_slice HO_7.out
                      subst eo49
                      go_wp2_with (first | (go_at_call 18; (with_reducible refine (laws_eqInt64S.calls kj11 _ _ t476 _ _ t466 true _ ?side1 ?side2 ?side3 ?side4 A46.out).mono ?_); (case side1 => repeat (first | exact (Kd.R_reads' HO_11.out).2.2 | (with_reducible refine Kd.C_alloc ?_ _) | (with_reducible refine Kd.C_drewN ?_ _) | (with_reducible refine Kd.C_drew ?_))); (case side2 => exact (Kd.R_reads' HO_11.out).2.1); (case side3 => repeat (first | exact (Kd.R_reads' HO_7.out).2.2 | (with_reducible refine Kd.C_alloc ?_ _) | (with_reducible refine Kd.C_drewN ?_ _) | (with_reducible refine Kd.C_drew ?_))); (case side4 => exact (Kd.R_reads' HO_7.out).2.1); rintro e w' ⟨rfl, ⟨nd, rfl⟩⟩))
                      go_meet
                      case rel => exact ⟨_, ((t477 != t467)), (by first | rfl | (simp; done) | (simp [*]; done)), H', ⟨by have := HJ11.out; first | omega | exact Nat.le_refl _⟩, ⟨by (with_reducible repeat (first | apply Kd.R_alloc | apply Kd.R_drewN | apply Kd.R_drew)); exact Kd.R_mono HO_7.out (fun _ hk => hk.2.2.1)⟩, ⟨by (with_reducible repeat (first | apply Kd.R_alloc | apply Kd.R_drewN | apply Kd.R_drew)); exact Kd.R_mono HO_11.out (fun _ hk => hk.1)⟩, ⟨by repeat (first | (with_reducible first | exact HB.out | apply below_alloc | apply pw_below_drewN | apply below_drew1) | exact HB.out)⟩⟩
                    · replace c47 := Bool.eq_false_iff.mpr c47
                      subst c47
                      have H1 : (laws_FnExactUpAndDown.j1 kj11 l0 l1 a2 t466 t467 t476 true) = some r := by rw [if_neg (show ¬ (false = true) by decide)] at H; exact H
                      clear H
                      have H := H1
                      clear H1
                      have H' := Aside0.mk H
                      clear H
                      obtain ⟨Ao50, co50, eo50⟩ := Kd.R_slice HO_11.out
                      subst eo50
                      obtain ⟨Ao51, co51, eo51⟩ := Kd.R_slice HO_7.out
                      subst eo51
                      go_wp2_with (first | (go_at_call 18; (with_reducible refine (laws_eqInt64S.calls kj11 _ _ t476 _ _ t466 false _ ?side1 ?side2 ?side3 ?side4 A46.out).mono ?_); (case side1 => repeat (first | exact (Kd.R_reads' HO_11.out).2.2 | (with_reducible refine Kd.C_alloc ?_ _) | (with_reducible refine Kd.C_drewN ?_ _) | (with_reducible refine Kd.C_drew ?_))); (case side2 => exact (Kd.R_reads' HO_11.out).2.1); (case side3 => repeat (first | exact (Kd.R_reads' HO_7.out).2.2 | (with_reducible refine Kd.C_alloc ?_ _) | (with_reducible refine Kd.C_drewN ?_ _) | (with_reducible refine Kd.C_drew ?_))); (case side4 => exact (Kd.R_reads' HO_7.out).2.1); rintro e w' ⟨rfl, ⟨nd, rfl⟩⟩))
                      go_meet
                      case rel => exact ⟨_, (true), (by first | rfl | (simp; done) | (simp [*]; done)), H', ⟨by have := HJ11.out; first | omega | exact Nat.le_refl _⟩, ⟨by (with_reducible repeat (first | apply Kd.R_alloc | apply Kd.R_drewN | apply Kd.R_drew)); exact Kd.R_mono HO_7.out (fun _ hk => hk.2.2.1)⟩, ⟨by (with_reducible repeat (first | apply Kd.R_alloc | apply Kd.R_drewN | apply Kd.R_drew)); exact Kd.R_mono HO_11.out (fun _ hk => hk.1)⟩, ⟨by repeat (first | (with_reducible first | exact HB.out | apply below_alloc | apply pw_below_drewN | apply below_drew1) | exact HB.out)⟩⟩
                case rest =>
                  clear HC38
                  try clear c1
                  try clear c2
                  try clear p2
                  try clear c3
                  try clear c4
                  try clear c4b0
                  try clear c4b1
                  try clear c5
                  try clear c5b0
                  try clear c5b1
                  try clear c8
                  try clear c16
                  try clear c18
                  try clear c19
                  try clear c24
                  try clear c29
                  try clear c30
                  try clear c32
                  try clear c35
                  try clear c45
                  try clear c45b0
                  try clear c47
                  try clear p2
                  obtain ⟨kq, x81_37, rfl, HA, HJ37, HO_7, HO_11, HB⟩ := hcut
                  cases kq with
                  | zero => exact absurd HA.out (by simp [laws_FnExactUpAndDown.j1])
                  | succ kj37 =>
                    have H := HA.out
                    clear HA
                    simp only [laws_FnExactUpAndDown.j1] at H
                    by_cases c52 : x81_37 = true
                    · subst c52
                      have H1 : (some false) = some r := by rw [if_pos rfl] at H; exact H
                      clear H
                      have H := H1
                      clear H1
                      exact absurd ((Option.some.inj H).trans HT.out) (by decide)
                    · replace c52 := Bool.eq_false_iff.mpr c52
                      subst c52
                      have H1 : ((laws_markInt64S.f kj37 t476 1).bind fun bt494 => ((laws_heldInt64S.f kj37 bt494.2 1).bind fun t496 => (if t496 < 0 then (some false) else (if t496 = bt494.1 then ((laws_toInt64S.f kj37 l0).bind fun t497 => ((laws_toInt64S.f kj37 l1).bind fun t500 => ((impl_UpAndDown.f kj37 t497 t500 a2).bind fun bt503 => ((laws_eqInt64S.f kj37 bt503.1 t466).bind fun t507 => (if t507 = true then (laws_FnExactUpAndDown.j2 kj37 bt494.2 bt494.1 (bt503.2 != t467)) else (laws_FnExactUpAndDown.j2 kj37 bt494.2 bt494.1 true)))))) else (some false))))) = some r := by rw [if_neg (show ¬ (false = true) by decide)] at H; exact H
                      clear H
                      have H := H1
                      clear H1
                      replace H := Option.bind_eq_some_iff.mp H
                      obtain ⟨⟨t494, t495⟩, A530, H⟩ := H
                      replace H : ((laws_heldInt64S.f kj37 t495 1).bind fun t496 => (if t496 < 0 then (some false) else (if t496 = t494 then ((laws_toInt64S.f kj37 l0).bind fun t497 => ((laws_toInt64S.f kj37 l1).bind fun t500 => ((impl_UpAndDown.f kj37 t497 t500 a2).bind fun bt503 => ((laws_eqInt64S.f kj37 bt503.1 t466).bind fun t507 => (if t507 = true then (laws_FnExactUpAndDown.j2 kj37 t495 t494 (bt503.2 != t467)) else (laws_FnExactUpAndDown.j2 kj37 t495 t494 true)))))) else (some false)))) = some r := H
                      have A53 := Aside0.mk A530
                      clear A530
                      replace H := Option.bind_eq_some_iff.mp H
                      obtain ⟨t496, A540, H⟩ := H
                      replace H : (if t496 < 0 then (some false) else (if t496 = t494 then ((laws_toInt64S.f kj37 l0).bind fun t497 => ((laws_toInt64S.f kj37 l1).bind fun t500 => ((impl_UpAndDown.f kj37 t497 t500 a2).bind fun bt503 => ((laws_eqInt64S.f kj37 bt503.1 t466).bind fun t507 => (if t507 = true then (laws_FnExactUpAndDown.j2 kj37 t495 t494 (bt503.2 != t467)) else (laws_FnExactUpAndDown.j2 kj37 t495 t494 true)))))) else (some false))) = some r := H
                      have A54 := Aside0.mk A540
                      clear A540
                      by_cases c55 : t496 < 0
                      · rw [if_pos c55] at H
                        have c55b0 : decide (t496 < 0) = true := decide_eq_true c55
                        clear c55
                        exact absurd ((Option.some.inj H).trans HT.out) (by decide)
                      · rw [if_neg c55] at H
                        have c55b0 : decide (t496 < 0) = false := decide_eq_false c55
                        clear c55
                        by_cases c56 : t496 = t494
                        · rw [if_pos c56] at H
                          have c56b0 : (t496 == t494) = true := beq_iff_eq.mpr c56
                          have c56b1 : (t496 != t494) = false := bne_eq_false_iff_eq.mpr c56
                          clear c56
                          replace H := Option.bind_eq_some_iff.mp H
                          obtain ⟨t497, A570, H⟩ := H
                          replace H : ((laws_toInt64S.f kj37 l1).bind fun t500 => ((impl_UpAndDown.f kj37 t497 t500 a2).bind fun bt503 => ((laws_eqInt64S.f kj37 bt503.1 t466).bind fun t507 => (if t507 = true then (laws_FnExactUpAndDown.j2 kj37 t495 t494 (bt503.2 != t467)) else (laws_FnExactUpAndDown.j2 kj37 t495 t494 true))))) = some r := H
                          have A57 := Aside0.mk A570
                          clear A570
                          replace H := Option.bind_eq_some_iff.mp H
                          obtain ⟨t500, A580, H⟩ := H
                          replace H : ((impl_UpAndDown.f kj37 t497 t500 a2).bind fun bt503 => ((laws_eqInt64S.f kj37 bt503.1 t466).bind fun t507 => (if t507 = true then (laws_FnExactUpAndDown.j2 kj37 t495 t494 (bt503.2 != t467)) else (laws_FnExactUpAndDown.j2 kj37 t495 t494 true)))) = some r := H
                          have A58 := Aside0.mk A580
                          clear A580
                          replace H := Option.bind_eq_some_iff.mp H
                          obtain ⟨⟨t503, t504⟩, A590, H⟩ := H
                          replace H : ((laws_eqInt64S.f kj37 t503 t466).bind fun t507 => (if t507 = true then (laws_FnExactUpAndDown.j2 kj37 t495 t494 (t504 != t467)) else (laws_FnExactUpAndDown.j2 kj37 t495 t494 true))) = some r := H
                          have A59 := Aside0.mk A590
                          clear A590
                          have HC60 := Aside0.mk H
                          clear H
                          obtain ⟨Ao61, co61, eo61⟩ := Kd.R_slice HO_11.out
                          subst eo61
                          go_upto_region 29 with (first | ((with_reducible refine gate_callee (f := 19) rfl ?_); refine goesL_ (some 84) rfl rfl Try.func19 (by kernel_rfl) rfl #[.slice Ao61 t476.length co61, .int .i64 1] rfl (by (try simp only [List.map_toArray, List.map_cons, List.map_nil]); first | done | rfl | (simp only [List.length_drop, List.length_take]; rfl)) ?_; (with_reducible refine (laws_markInt64S.calls kj37 (fun k_ => some k_ = (.slice Ao61 t476.length co61 : Value).ownBlock) (.slice Ao61 t476.length co61) t476 1 t494 t495 w _ ?side1 ?side2 A53.out).mono ?_); (case side1 => repeat (first | (with_reducible first | exact HB.out | apply below_alloc | apply pw_below_drewN | apply below_drew1) | exact HB.out)); (case side2 => exact Kd.R_tight rfl HO_11.out); rintro e w62 ⟨rfl, hy0, hb, hkp⟩; refine ⟨_, rfl, ?_⟩; have n0_ := Aside0.mk (Kd.R_mono (ok' := fun k_ => some k_ ≠ (.slice Ao61 t476.length co61 : Value).ownBlock) (Kd.R_keptB (HO_7.out) hkp (fun k_ hk_ hs_ => (hk_) hs_)) (fun k_ hk_ => hk_.1)); have n1_ := Aside0.mk (Kd.R_reok rfl hy0 (fun k_ e_ => HO_11.out.1 k_ e_)); have n2_ := Aside0.mk (hb); clear HO_7; clear HO_11; clear HB; have HO_7 := n0_; have HO_11 := n1_; have HB := n2_; clear n0_ n1_ n2_; (try clear hb); (try clear hkp); (try clear hy0)) | ((with_reducible refine gate_callee (f := 20) rfl ?_); refine goesL_ (some 87) rfl rfl Try.func20 (by kernel_rfl) rfl #[.slice Ao61 t495.length co61, .int .i64 1] rfl (by (try simp only [List.map_toArray, List.map_cons, List.map_nil]); first | done | (rw [show t495.length = t476.length from (Kd.R_reads' HO_11.out).1.symm] <;> rfl) | rfl | (simp only [List.length_drop, List.length_take]; rfl)) ?_; (with_reducible refine (laws_heldInt64S.calls kj37 _ _ t495 1 t496 _ ?side1 ?side2 A54.out).mono ?_); (case side1 => repeat (first | exact (Kd.R_reads' HO_11.out).2.2 | (with_reducible refine Kd.C_alloc ?_ _) | (with_reducible refine Kd.C_drewN ?_ _) | (with_reducible refine Kd.C_drew ?_))); (case side2 => rw [show t495.length = t476.length from (Kd.R_reads' HO_11.out).1.symm]; exact (Kd.R_reads' HO_11.out).2.1); rintro e w' ⟨rfl, ⟨nd, rfl⟩⟩; refine ⟨_, rfl, ?_⟩) | ((with_reducible refine gate_callee (f := 16) rfl ?_); refine goesL_ (some 95) rfl rfl Try.func16 (by kernel_rfl) rfl #[.slice A0 l0.length c0] rfl (by (try simp only [List.map_toArray, List.map_cons, List.map_nil]); first | done | rfl | (simp only [List.length_drop, List.length_take]; rfl)) ?_; (with_reducible refine (laws_toInt64S.calls kj37 _ _ l0 t497 _ ?side1 ?side2 A57.out).mono ?_); (case side1 => repeat (first | exact (Kd.C_below HR0.out (by repeat (first | (with_reducible first | exact HB.out | apply below_alloc | apply pw_below_drewN | apply below_drew1) | exact HB.out))) | (with_reducible refine Kd.C_alloc ?_ _) | (with_reducible refine Kd.C_drewN ?_ _) | (with_reducible refine Kd.C_drew ?_))); (case side2 => exact HC0.out); rintro e w63 ⟨v498, rfl, ho0, hb⟩; refine ⟨_, rfl, ?_⟩; have n0_ := Aside0.mk (Kd.R_elder' (by (with_reducible repeat (first | apply Kd.R_alloc | apply Kd.R_drewN | apply Kd.R_drew)); exact HO_7.out) (Kd.R_base ho0) hb); have n1_ := Aside0.mk (Kd.R_elder' (by (with_reducible repeat (first | apply Kd.R_alloc | apply Kd.R_drewN | apply Kd.R_drew)); exact HO_11.out) (Kd.R_base ho0) hb); have n2_ := Aside0.mk (Kd.R_lower (Kd.R_new' (Kd.R_new' ho0 (Kd.R_lt (by (with_reducible repeat (first | apply Kd.R_alloc | apply Kd.R_drewN | apply Kd.R_drew)); exact HO_7.out))) (Kd.R_lt (by (with_reducible repeat (first | apply Kd.R_alloc | apply Kd.R_drewN | apply Kd.R_drew)); exact HO_11.out))) (below_size (by repeat (first | (with_reducible first | exact HB.out | apply below_alloc | apply pw_below_drewN | apply below_drew1) | exact HB.out)))); have n3_ := Aside0.mk (below_step (by repeat (first | (with_reducible first | exact HB.out | apply below_alloc | apply pw_below_drewN | apply below_drew1) | exact HB.out)) hb); clear HO_7; clear HO_11; clear HB; have HO_7 := n0_; have HO_11 := n1_; have HO499 := n2_; have HB := n3_; clear n0_ n1_ n2_ n3_; (try clear hb); (try clear hb2); (try clear hk); (try clear hi); (try clear ho0)) | ((with_reducible refine gate_callee (f := 16) rfl ?_); refine goesL_ (some 97) rfl rfl Try.func16 (by kernel_rfl) rfl #[.slice A1 l1.length c1] rfl (by (try simp only [List.map_toArray, List.map_cons, List.map_nil]); first | done | rfl | (simp only [List.length_drop, List.length_take]; rfl)) ?_; (with_reducible refine (laws_toInt64S.calls kj37 _ _ l1 t500 _ ?side1 ?side2 A58.out).mono ?_); (case side1 => repeat (first | exact (Kd.C_below HR1.out HB.out) | (with_reducible refine Kd.C_alloc ?_ _) | (with_reducible refine Kd.C_drewN ?_ _) | (with_reducible refine Kd.C_drew ?_))); (case side2 => exact HC1.out); rintro e w64 ⟨v501, rfl, ho0, hb⟩; refine ⟨_, rfl, ?_⟩; have n0_ := Aside0.mk (Kd.R_elder' (by (with_reducible repeat (first | apply Kd.R_alloc | apply Kd.R_drewN | apply Kd.R_drew)); exact HO_7.out) (Kd.R_base ho0) hb); have n1_ := Aside0.mk (Kd.R_elder' (by (with_reducible repeat (first | apply Kd.R_alloc | apply Kd.R_drewN | apply Kd.R_drew)); exact HO_11.out) (Kd.R_base ho0) hb); have n2_ := Aside0.mk (Kd.R_elder' (by (with_reducible repeat (first | apply Kd.R_alloc | apply Kd.R_drewN | apply Kd.R_drew)); exact HO499.out) (Kd.R_base ho0) hb); have n3_ := Aside0.mk (Kd.R_lower (Kd.R_new' (Kd.R_new' (Kd.R_new' ho0 (Kd.R_lt (by (with_reducible repeat (first | apply Kd.R_alloc | apply Kd.R_drewN | apply Kd.R_drew)); exact HO_7.out))) (Kd.R_lt (by (with_reducible repeat (first | apply Kd.R_alloc | apply Kd.R_drewN | apply Kd.R_drew)); exact HO_11.out))) (Kd.R_lt (by (with_reducible repeat (first | apply Kd.R_alloc | apply Kd.R_drewN | apply Kd.R_drew)); exact HO499.out))) (below_size (by repeat (first | (with_reducible first | exact HB.out | apply below_alloc | apply pw_below_drewN | apply below_drew1) | exact HB.out)))); have n4_ := Aside0.mk (below_step (by repeat (first | (with_reducible first | exact HB.out | apply below_alloc | apply pw_below_drewN | apply below_drew1) | exact HB.out)) hb); clear HO_7; clear HO_11; clear HO499; clear HB; have HO_7 := n0_; have HO_11 := n1_; have HO499 := n2_; have HO502 := n3_; have HB := n4_; clear n0_ n1_ n2_ n3_ n4_; (try clear hb); (try clear hb2); (try clear hk); (try clear hi); (try clear ho0); obtain ⟨Ao65, co65, eo65⟩ := Kd.R_slice HO499.out; subst eo65; obtain ⟨Ao66, co66, eo66⟩ := Kd.R_slice HO502.out; subst eo66) | ((with_reducible refine gate_callee (f := 30) rfl ?_); refine goesL_ (some 99) rfl rfl Try.func30 (by kernel_rfl) rfl #[.slice Ao65 t497.length co65, .slice Ao66 t500.length co66, .int .i64 a2] rfl (by (try simp only [List.map_toArray, List.map_cons, List.map_nil]); first | done | rfl | (simp only [List.length_drop, List.length_take]; rfl)) ?_; (with_reducible refine (impl_UpAndDown.calls kj37 _ _ t497 _ _ t500 a2 t503 t504 _ ?side1 ?side2 ?side3 ?side4 A59.out).mono ?_); (case side1 => repeat (first | exact (Kd.R_reads' HO499.out).2.2 | (with_reducible refine Kd.C_alloc ?_ _) | (with_reducible refine Kd.C_drewN ?_ _) | (with_reducible refine Kd.C_drew ?_))); (case side2 => exact (Kd.R_reads' HO499.out).2.1); (case side3 => repeat (first | exact (Kd.R_reads' HO502.out).2.2 | (with_reducible refine Kd.C_alloc ?_ _) | (with_reducible refine Kd.C_drewN ?_ _) | (with_reducible refine Kd.C_drew ?_))); (case side4 => exact (Kd.R_reads' HO502.out).2.1); rintro e w67 ⟨v505, rfl, ho0, hb⟩; refine ⟨_, rfl, ?_⟩; have n0_ := Aside0.mk (Kd.R_elder' (by (with_reducible repeat (first | apply Kd.R_alloc | apply Kd.R_drewN | apply Kd.R_drew)); exact HO_7.out) (Kd.R_base ho0) hb); have n1_ := Aside0.mk (Kd.R_elder' (by (with_reducible repeat (first | apply Kd.R_alloc | apply Kd.R_drewN | apply Kd.R_drew)); exact HO_11.out) (Kd.R_base ho0) hb); have n2_ := Aside0.mk (Kd.R_elder' (by (with_reducible repeat (first | apply Kd.R_alloc | apply Kd.R_drewN | apply Kd.R_drew)); exact HO499.out) (Kd.R_base ho0) hb); have n3_ := Aside0.mk (Kd.R_elder' (by (with_reducible repeat (first | apply Kd.R_alloc | apply Kd.R_drewN | apply Kd.R_drew)); exact HO502.out) (Kd.R_base ho0) hb); have n4_ := Aside0.mk (Kd.R_lower (Kd.R_new' (Kd.R_new' (Kd.R_new' (Kd.R_new' ho0 (Kd.R_lt (by (with_reducible repeat (first | apply Kd.R_alloc | apply Kd.R_drewN | apply Kd.R_drew)); exact HO_7.out))) (Kd.R_lt (by (with_reducible repeat (first | apply Kd.R_alloc | apply Kd.R_drewN | apply Kd.R_drew)); exact HO_11.out))) (Kd.R_lt (by (with_reducible repeat (first | apply Kd.R_alloc | apply Kd.R_drewN | apply Kd.R_drew)); exact HO499.out))) (Kd.R_lt (by (with_reducible repeat (first | apply Kd.R_alloc | apply Kd.R_drewN | apply Kd.R_drew)); exact HO502.out))) (below_size (by repeat (first | (with_reducible first | exact HB.out | apply below_alloc | apply pw_below_drewN | apply below_drew1) | exact HB.out)))); have n5_ := Aside0.mk (below_step (by repeat (first | (with_reducible first | exact HB.out | apply below_alloc | apply pw_below_drewN | apply below_drew1) | exact HB.out)) hb); clear HO_7; clear HO_11; clear HO499; clear HO502; clear HB; have HO_7 := n0_; have HO_11 := n1_; have HO499 := n2_; have HO502 := n3_; have HO506 := n4_; have HB := n5_; clear n0_ n1_ n2_ n3_ n4_ n5_; (try clear hb); (try clear hb2); (try clear hk); (try clear hi); (try clear ho0)))
                          (try simp only [Act.put, List.setIfInBounds_toArray, List.set_cons_zero, List.set_cons_succ])
                          go_cut [110] (fun v110 wc => ∃ (kq : Nat) (x110_59 : Bool), v110 = .bool x110_59 ∧ Aside0 (laws_FnExactUpAndDown.j2 kq t495 t494 x110_59 = some r) ∧ Aside0 (kq ≤ kj37) ∧ Aside0 (Kd.R (Kd.int .i64) 2 wc w.heap.size (fun _ => True) (.slice Ao61 t476.length co61) t495) ∧ Aside0 (Below w.heap.size w wc))
                          case first =>
                            have H := HC60.out
                            clear HC60
                            replace H := Option.bind_eq_some_iff.mp H
                            obtain ⟨t507, A680, H⟩ := H
                            replace H : (if t507 = true then (laws_FnExactUpAndDown.j2 kj37 t495 t494 (t504 != t467)) else (laws_FnExactUpAndDown.j2 kj37 t495 t494 true)) = some r := H
                            have A68 := Aside0.mk A680
                            clear A680
                            by_cases c69 : t507 = true
                            · subst c69
                              have H1 : (laws_FnExactUpAndDown.j2 kj37 t495 t494 (t504 != t467)) = some r := by rw [if_pos rfl] at H; exact H
                              clear H
                              have H := H1
                              clear H1
                              have H' := Aside0.mk H
                              clear H
                              obtain ⟨Ao70, co70, eo70⟩ := Kd.R_slice HO506.out
                              subst eo70
                              obtain ⟨Ao71, co71, eo71⟩ := Kd.R_slice HO_7.out
                              subst eo71
                              go_wp2_with (first | ((with_reducible refine gate_callee (f := 18) rfl ?_); refine goesL_ (some 104) rfl rfl Try.func18 (by kernel_rfl) rfl #[.slice Ao70 t503.length co70, .slice Ao71 t466.length co71] rfl (by (try simp only [List.map_toArray, List.map_cons, List.map_nil]); first | done | rfl | (simp only [List.length_drop, List.length_take]; rfl)) ?_; (with_reducible refine (laws_eqInt64S.calls kj37 _ _ t503 _ _ t466 true _ ?side1 ?side2 ?side3 ?side4 A68.out).mono ?_); (case side1 => repeat (first | exact (Kd.R_reads' HO506.out).2.2 | (with_reducible refine Kd.C_alloc ?_ _) | (with_reducible refine Kd.C_drewN ?_ _) | (with_reducible refine Kd.C_drew ?_))); (case side2 => exact (Kd.R_reads' HO506.out).2.1); (case side3 => repeat (first | exact (Kd.R_reads' HO_7.out).2.2 | (with_reducible refine Kd.C_alloc ?_ _) | (with_reducible refine Kd.C_drewN ?_ _) | (with_reducible refine Kd.C_drew ?_))); (case side4 => exact (Kd.R_reads' HO_7.out).2.1); rintro e w' ⟨rfl, ⟨nd, rfl⟩⟩; refine ⟨_, rfl, ?_⟩))
                              go_meet
                              case rel => exact ⟨_, ((t504 != t467)), (by first | rfl | (simp; done) | (simp [*]; done)), H', ⟨by have := HJ11.out; have := HJ37.out; first | omega | exact Nat.le_refl _⟩, ⟨by (with_reducible repeat (first | apply Kd.R_alloc | apply Kd.R_drewN | apply Kd.R_drew)); exact Kd.R_mono HO_11.out (fun _ hk => trivial)⟩, ⟨by repeat (first | (with_reducible first | exact HB.out | apply below_alloc | apply pw_below_drewN | apply below_drew1) | exact HB.out)⟩⟩
                            · replace c69 := Bool.eq_false_iff.mpr c69
                              subst c69
                              have H1 : (laws_FnExactUpAndDown.j2 kj37 t495 t494 true) = some r := by rw [if_neg (show ¬ (false = true) by decide)] at H; exact H
                              clear H
                              have H := H1
                              clear H1
                              have H' := Aside0.mk H
                              clear H
                              obtain ⟨Ao72, co72, eo72⟩ := Kd.R_slice HO506.out
                              subst eo72
                              obtain ⟨Ao73, co73, eo73⟩ := Kd.R_slice HO_7.out
                              subst eo73
                              go_wp2_with (first | ((with_reducible refine gate_callee (f := 18) rfl ?_); refine goesL_ (some 104) rfl rfl Try.func18 (by kernel_rfl) rfl #[.slice Ao72 t503.length co72, .slice Ao73 t466.length co73] rfl (by (try simp only [List.map_toArray, List.map_cons, List.map_nil]); first | done | rfl | (simp only [List.length_drop, List.length_take]; rfl)) ?_; (with_reducible refine (laws_eqInt64S.calls kj37 _ _ t503 _ _ t466 false _ ?side1 ?side2 ?side3 ?side4 A68.out).mono ?_); (case side1 => repeat (first | exact (Kd.R_reads' HO506.out).2.2 | (with_reducible refine Kd.C_alloc ?_ _) | (with_reducible refine Kd.C_drewN ?_ _) | (with_reducible refine Kd.C_drew ?_))); (case side2 => exact (Kd.R_reads' HO506.out).2.1); (case side3 => repeat (first | exact (Kd.R_reads' HO_7.out).2.2 | (with_reducible refine Kd.C_alloc ?_ _) | (with_reducible refine Kd.C_drewN ?_ _) | (with_reducible refine Kd.C_drew ?_))); (case side4 => exact (Kd.R_reads' HO_7.out).2.1); rintro e w' ⟨rfl, ⟨nd, rfl⟩⟩; refine ⟨_, rfl, ?_⟩))
                              go_meet
                              case rel => exact ⟨_, (true), (by first | rfl | (simp; done) | (simp [*]; done)), H', ⟨by have := HJ11.out; have := HJ37.out; first | omega | exact Nat.le_refl _⟩, ⟨by (with_reducible repeat (first | apply Kd.R_alloc | apply Kd.R_drewN | apply Kd.R_drew)); exact Kd.R_mono HO_11.out (fun _ hk => trivial)⟩, ⟨by repeat (first | (with_reducible first | exact HB.out | apply below_alloc | apply pw_below_drewN | apply below_drew1) | exact HB.out)⟩⟩
                          case rest =>
                            clear HC60
                            try clear c1
                            try clear c2
                            try clear p2
                            try clear c3
                            try clear c4
                            try clear c4b0
                            try clear c4b1
                            try clear c5
                            try clear c5b0
                            try clear c5b1
                            try clear c6
                            try clear c8
                            try clear c16
                            try clear c18
                            try clear c19
                            try clear c20
                            try clear c24
                            try clear c29
                            try clear c30
                            try clear c32
                            try clear c35
                            try clear c45
                            try clear c45b0
                            try clear c47
                            try clear c52
                            try clear c55
                            try clear c55b0
                            try clear c56
                            try clear c56b0
                            try clear c56b1
                            try clear c69
                            try clear p2
                            obtain ⟨kq, x110_59, rfl, HA, HJ59, HO_11, HB⟩ := hcut
                            have hl11_59 := (Kd.R_reads' HO_11.out).1
                            rw [hl11_59] at HO_11
                            (try simp only [hl11_59])
                            cases kq with
                            | zero => exact absurd HA.out (by simp [laws_FnExactUpAndDown.j2])
                            | succ kj59 =>
                              have H := HA.out
                              clear HA
                              simp only [laws_FnExactUpAndDown.j2] at H
                              by_cases c74 : x110_59 = true
                              · subst c74
                                have H1 : (some false) = some r := by rw [if_pos rfl] at H; exact H
                                clear H
                                have H := H1
                                clear H1
                                exact absurd ((Option.some.inj H).trans HT.out) (by decide)
                              · replace c74 := Bool.eq_false_iff.mpr c74
                                subst c74
                                have H1 : ((laws_heldInt64S.f kj59 t495 1).bind fun t508 => (if t508 < 0 then (some false) else (if t508 = t494 then (some true) else (some false)))) = some r := by rw [if_neg (show ¬ (false = true) by decide)] at H; exact H
                                clear H
                                have H := H1
                                clear H1
                                replace H := Option.bind_eq_some_iff.mp H
                                obtain ⟨t508, A750, H⟩ := H
                                replace H : (if t508 < 0 then (some false) else (if t508 = t494 then (some true) else (some false))) = some r := H
                                have A75 := Aside0.mk A750
                                clear A750
                                by_cases c76 : t508 < 0
                                · rw [if_pos c76] at H
                                  have c76b0 : decide (t508 < 0) = true := decide_eq_true c76
                                  have c76b2 := c76b0; (try simp only [hl11_59] at c76b2)
                                  clear c76
                                  exact absurd ((Option.some.inj H).trans HT.out) (by decide)
                                · rw [if_neg c76] at H
                                  have c76b0 : decide (t508 < 0) = false := decide_eq_false c76
                                  have c76b2 := c76b0; (try simp only [hl11_59] at c76b2)
                                  clear c76
                                  by_cases c77 : t508 = t494
                                  · rw [if_pos c77] at H
                                    have c77b0 : (t508 == t494) = true := beq_iff_eq.mpr c77
                                    have c77b1 : (t508 != t494) = false := bne_eq_false_iff_eq.mpr c77
                                    clear c77
                                    obtain rfl := Option.some.inj H
                                    go_wp2_with (first | ((with_reducible refine gate_callee (f := 20) rfl ?_); refine goesL_ (some 113) rfl rfl Try.func20 (by kernel_rfl) rfl #[.slice Ao61 t495.length co61, .int .i64 1] rfl (by (try simp only [List.map_toArray, List.map_cons, List.map_nil]); first | done | rfl | (simp only [List.length_drop, List.length_take]; rfl)) ?_; (with_reducible refine (laws_heldInt64S.calls kj59 _ _ t495 1 t508 _ ?side1 ?side2 A75.out).mono ?_); (case side1 => repeat (first | exact (Kd.R_reads' HO_11.out).2.2 | (with_reducible refine Kd.C_alloc ?_ _) | (with_reducible refine Kd.C_drewN ?_ _) | (with_reducible refine Kd.C_drew ?_))); (case side2 => exact (Kd.R_reads' HO_11.out).2.1); rintro e w' ⟨rfl, ⟨nd, rfl⟩⟩; refine ⟨_, rfl, ?_⟩))
                                    go_ret
                                    exact ⟨by first | rfl | (simp [errW_none, errW_some] <;> rfl) | (simp [*, errW_none, errW_some] <;> rfl), by repeat (first | (with_reducible first | exact HB.out | apply below_alloc | apply pw_below_drewN | apply below_drew1) | exact HB.out)⟩
                                  · rw [if_neg c77] at H
                                    have c77b0 : (t508 == t494) = false := beq_eq_false_iff_ne.mpr c77
                                    have c77b1 : (t508 != t494) = true := bne_iff_ne.mpr c77
                                    exact absurd ((Option.some.inj H).trans HT.out) (by decide)
                        · rw [if_neg c56] at H
                          have c56b0 : (t496 == t494) = false := beq_eq_false_iff_ne.mpr c56
                          have c56b1 : (t496 != t494) = true := bne_iff_ne.mpr c56
                          exact absurd ((Option.some.inj H).trans HT.out) (by decide)
              · replace c35 := Bool.eq_false_iff.mpr c35
                subst c35
                have H1 : (some false) = some r := by rw [if_neg (show ¬ (false = true) by decide)] at H; exact H
                clear H
                have H := H1
                clear H1
                exact absurd ((Option.some.inj H).trans HT.out) (by decide)
            · replace c32 := Bool.eq_false_iff.mpr c32
              subst c32
              have H1 : (some false) = some r := by rw [if_neg (show ¬ (false = true) by decide)] at H; exact H
              clear H
              have H := H1
              clear H1
              exact absurd ((Option.some.inj H).trans HT.out) (by decide)

/-- THE ONE PURE STATEMENT of laws_FnExactUpAndDown. -/
def laws_FnExactUpAndDown.Pure : Prop := ∀ (l0 : List Int) (l1 : List Int) (a2 : Int), (l0.length ≤ maxLen ∧ ∀ y0 ∈ l0, (Lit.int .i64 y0).wf = true) → (l1.length ≤ maxLen ∧ ∀ y0 ∈ l1, (Lit.int .i64 y0).wf = true) → (Lit.int .i64 a2).wf = true → ∃ k, laws_FnExactUpAndDown.f k l0 l1 a2 = some true
theorem laws_FnExactUpAndDown.walk (P : laws_FnExactUpAndDown.Pure) (A0 : Option Addr) (c0 : Nat) (l0 : List Int) (A1 : Option Addr) (c1 : Nat) (l1 : List Int) (a2 : Int) (w : World) (hr0 : Kd.C (Kd.int .i64) w A0 l0.length l0) (hc0 : l0.length ≤ c0) (hr1 : Kd.C (Kd.int .i64) w A1 l1.length l1) (hc1 : l1.length ≤ c1) (w0 : (l0.length ≤ maxLen ∧ ∀ y0 ∈ l0, (Lit.int .i64 y0).wf = true)) (w1 : (l1.length ≤ maxLen ∧ ∀ y0 ∈ l1, (Lit.int .i64 y0).wf = true)) (w2 : (Lit.int .i64 a2).wf = true) :
    Calls Try.prog 8 #[.slice A0 l0.length c0, .slice A1 l1.length c1, .int .i64 a2] w fun e w' => e = .returned (.bool true) ∧ Below w.heap.size w w' := by
  obtain ⟨k, h⟩ := P l0 l1 a2 w0 w1 w2
  refine (laws_FnExactUpAndDown.calls k _ _ l0 _ _ l1 a2 true w hr0 hc0 hr1 hc1 rfl h).mono ?_
  rintro e w' ⟨rfl, hd⟩
  exact ⟨rfl, hd⟩

end Go.Proofs.Ytddhommmokdlnaa.P
end

section
namespace Go.Proofs.Ytddhommmokdlnaa.Pure
open Go.RowKit Go.Proofs.Ytddhommmokdlnaa.P Go.Proofs.YtddhommmokdlnaaW.PrintWords Go.Proofs.YtddhommmokdlnaaW.PrintLast Go.Proofs.YtddhommmokdlnaaW.PrintMore
set_option linter.unusedVariables false
set_option linter.unusedSimpArgs false

def upM (p : List Int) : Nat → Nat → List Int
  | 0, _ => []
  | d + 1, i => (p.map fun n => n + (i : Int)) ++ upM p d (i + 1)
def dnM (p : List Int) : Nat → List Int
  | 0 => []
  | d + 1 => (p.map fun n => n + (d : Int)) ++ dnM p d
theorem impl_UpAndDown_l1 (s p : List Int) (hs : scaleB s = true) (hl : s.length ≤ 1048576) (hp : patB p = true) : ∀ (d : Nat) (acc : List Int), d ≤ 31 → acc.length + 8 * d ≤ 1000 →
    Ev (fun k => impl_UpAndDown.l1 k s p acc ((d : Int) - 1)) (finR s [] (acc ++ dnM (p.map fun n => -n) d)) := by
  obtain ⟨p1, p2, p3⟩ := patB_rd hp
  intro d
  induction d with
  | zero =>
    intro acc hd ha
    refine Ev.succ ?_
    simp only [impl_UpAndDown.l1]
    refine Ev.ite_neg (by omega) (Ev.bind (impl_tonesAt_ev s acc hs hl (by omega)) ?_)
    simpa [dnM] using Ev.now _
  | succ d ih =>
    intro acc hd ha
    have q3 : ∀ j : Nat, j < (p.map fun n => -n).length → -1000000000 ≤ rd (p.map fun n => -n) j ∧ rd (p.map fun n => -n) j ≤ 1000000000 := by
      intro j hj
      have hj' : j < p.length := by simpa using hj
      have := p3 j hj'
      rw [rd_at hj, List.getElem_map, ← rd_at hj']
      omega
    refine Ev.succ ?_
    simp only [impl_UpAndDown.l1]
    rw [show ((d + 1 : Nat) : Int) - 1 = (d : Int) by omega, w64 (x := (d : Int) - 1) (by omega) (by omega)]
    refine Ev.ite_pos (by omega) (Ev.bind (impl_mirrored_ev p (by omega) (fun j hj => by have := p3 j hj; omega)) (Ev.bind (impl_from_ev _ _ (by omega) (by simp; omega) q3) (Ev.ite_pos (by simp; omega) ?_)))
    refine Ev.cast (ih (acc ++ (p.map fun n => -n).map fun n => n + (d : Int)) (by omega) (by simp; omega)) ?_
    simp only [dnM, List.append_assoc]
theorem impl_UpAndDown_l0 (s p : List Int) (n : Nat) (hs : scaleB s = true) (hl : s.length ≤ 1048576) (hp : patB p = true) (hn : n ≤ 30) : ∀ (d i : Nat) (acc : List Int), n + 1 - i = d → acc.length ≤ 8 * i → i ≤ n + 1 →
    Ev (fun k => impl_UpAndDown.l0 k s p (n : Int) acc i) (finR s [] (acc ++ (upM p d i ++ dnM (p.map fun n => -n) (n + 1)))) := by
  obtain ⟨p1, p2, p3⟩ := patB_rd hp
  intro d
  induction d with
  | zero =>
    intro i acc hd ha hi
    refine Ev.succ ?_
    simp only [impl_UpAndDown.l0]
    refine Ev.ite_neg (by omega) ?_
    have := impl_UpAndDown_l1 s p hs hl hp (n + 1) acc (by omega) (by omega)
    rw [show ((n + 1 : Nat) : Int) - 1 = (n : Int) by omega] at this
    simpa [upM] using this
  | succ d ih =>
    intro i acc hd ha hi
    refine Ev.succ ?_
    simp only [impl_UpAndDown.l0]
    rw [w64 (x := (i : Int) + 1) (by omega) (by omega)]
    refine Ev.ite_pos (by omega) (Ev.bind (impl_from_ev p _ (by omega) (by omega) (fun j hj => by have := p3 j hj; omega)) (Ev.ite_pos (by simp; omega) ?_))
    refine Ev.cast (by simpa using ih (i + 1) (acc ++ p.map fun n => n + (i : Int)) (by omega) (by simp; omega) (by omega)) ?_
    simp [upM]
theorem spec_UpAndDown_no1 (s p out : List Int) (i : Int) : Ev (fun k => spec_UpAndDown.l1 k s p out false i) ([], 6) := by
  refine Ev.succ ?_
  simp only [spec_UpAndDown.l1]
  by_cases h : i ≥ 0
  · refine Ev.ite_pos h (Ev.succ ?_)
    simp only [spec_UpAndDown.j4]
    exact Ev.ite_neg (by decide) (Ev.bindc (spec_l14Done_no _) (Ev.now _))
  · refine Ev.ite_neg h (Ev.succ ?_)
    simp only [spec_UpAndDown.j4]
    exact Ev.ite_neg (by decide) (Ev.bindc (spec_l14Done_no _) (Ev.now _))
theorem spec_UpAndDown_no0 (s p out : List Int) (n i : Int) : Ev (fun k => spec_UpAndDown.l0 k s p n out false i) ([], 6) := by
  refine Ev.succ ?_
  simp only [spec_UpAndDown.l0]
  by_cases h : i ≤ n
  · refine Ev.ite_pos h (Ev.ite_neg (by decide) (Ev.succ ?_))
    simp only [spec_UpAndDown.j2]
    exact spec_UpAndDown_no1 _ _ _ _
  · refine Ev.ite_neg h (Ev.succ ?_)
    simp only [spec_UpAndDown.j2]
    exact spec_UpAndDown_no1 _ _ _ _
theorem spec_UpAndDown_l1 (s p : List Int) (hs : scaleB s = true) (hl : s.length ≤ 1048576) (hp : patB p = true) : ∀ (d : Nat) (out : List Int), d ≤ 31 → out.length + 8 * d ≤ 1000 →
    Ev (fun k => spec_UpAndDown.l1 k s p out true ((d : Int) - 1)) (finR s out (dnM (p.map fun n => -n) d)) := by
  obtain ⟨p1, p2, p3⟩ := patB_rd hp
  intro d
  induction d with
  | zero =>
    intro out hd ha
    refine Ev.succ ?_
    simp only [spec_UpAndDown.l1]
    refine Ev.ite_neg (by omega) (Ev.succ ?_)
    simp only [spec_UpAndDown.j4]
    exact Ev.ite_neg (by decide) (Ev.bindc (spec_l14Done_yes s _) (Ev.now _))
  | succ d ih =>
    intro out hd ha
    have q3 : ∀ j : Nat, j < (p.map fun n => -n).length → -1000 ≤ rd (p.map fun n => -n) j ∧ rd (p.map fun n => -n) j ≤ 1000 := by
      intro j hj
      have hj' : j < p.length := by simpa using hj
      have := p3 j hj'
      rw [rd_at hj, List.getElem_map, ← rd_at hj']
      omega
    refine Ev.succ ?_
    simp only [spec_UpAndDown.l1]
    rw [show ((d + 1 : Nat) : Int) - 1 = (d : Int) by omega]
    refine Ev.ite_pos (by omega) (Ev.succ ?_)
    simp only [spec_UpAndDown.j4]
    rw [w64 (x := (d : Int) - 1) (by omega) (by omega)]
    refine Ev.ite_pos (by decide) (Ev.bind (spec_l14Mirror_ev p (by omega) (fun j hj => by have := p3 j hj; omega)) (Ev.bind (spec_l14From_ev s _ out _ hs hl (by omega) (by simpa using p2) q3 (by omega)) ?_))
    simp only [dnM]
    rw [finR_step]
    by_cases h : ((p.map fun n => -n).map fun n => n + (d : Int)).all (inD s) = true
    · rw [if_pos h, if_pos h]
      exact ih (out ++ ((p.map fun n => -n).map fun n => n + (d : Int)).map (toneM s)) (by omega) (by simp; omega)
    · rw [if_neg h, if_neg h]
      exact spec_UpAndDown_no1 _ _ _ _
theorem spec_UpAndDown_l0 (s p : List Int) (n : Nat) (hs : scaleB s = true) (hl : s.length ≤ 1048576) (hp : patB p = true) (hn : n ≤ 30) : ∀ (d i : Nat) (out : List Int), n + 1 - i = d → out.length ≤ 8 * i → i ≤ n + 1 →
    Ev (fun k => spec_UpAndDown.l0 k s p (n : Int) out true i) (finR s out (upM p d i ++ dnM (p.map fun n => -n) (n + 1))) := by
  obtain ⟨p1, p2, p3⟩ := patB_rd hp
  intro d
  induction d with
  | zero =>
    intro i out hd ha hi
    refine Ev.succ ?_
    simp only [spec_UpAndDown.l0]
    refine Ev.ite_neg (by omega) (Ev.succ ?_)
    simp only [spec_UpAndDown.j2]
    have := spec_UpAndDown_l1 s p hs hl hp (n + 1) out (by omega) (by omega)
    rw [show ((n + 1 : Nat) : Int) - 1 = (n : Int) by omega] at this
    simpa [upM] using this
  | succ d ih =>
    intro i out hd ha hi
    refine Ev.succ ?_
    simp only [spec_UpAndDown.l0]
    rw [w64 (x := (i : Int) + 1) (by omega) (by omega)]
    refine Ev.ite_pos (by omega) (Ev.ite_pos (by decide) (Ev.bind (spec_l14From_ev s p out _ hs hl (by omega) p2 (fun j hj => by have := p3 j hj; omega) (by omega)) ?_))
    simp only [upM]
    rw [List.append_assoc, finR_step]
    by_cases h : (p.map fun n => n + (i : Int)).all (inD s) = true
    · rw [if_pos h, if_pos h]
      simpa using ih (i + 1) (out ++ (p.map fun n => n + (i : Int)).map (toneM s)) (by omega) (by simp; omega) (by omega)
    · rw [if_neg h, if_neg h]
      exact spec_UpAndDown_no0 _ _ _ _ _
theorem bothUpAndDown (s p : List Int) (n : Int) (hl : s.length ≤ 1048576) (hp : p.length ≤ 1048576) : ∃ r c, r.length ≤ 1048576 ∧ Ev (fun k => spec_UpAndDown.f k s p n) (r, c) ∧ Ev (fun k => impl_UpAndDown.f k s p n) (r, c) := by
  unfold spec_UpAndDown.f impl_UpAndDown.f
  cases hs : scaleB s with
  | false =>
    refine ⟨[], 1, by simp, Ev.bind (spec_l03Scale_ev s (by omega)) (Ev.ite_neg (by rw [hs]; decide) (Ev.succ ?_)), Ev.bind (impl_ValidScale_ev s (by omega)) (Ev.ite_neg (by rw [hs]; decide) (Ev.succ ?_))⟩
    · simp only [spec_UpAndDown.j0]
      exact Ev.ite_pos (by decide) (Ev.now _)
    · simp only [impl_UpAndDown.j0]
      exact Ev.ite_pos (by decide) (Ev.now _)
  | true =>
    cases hq : patB p with
    | false =>
      refine ⟨[], 1, by simp, Ev.bind (spec_l03Scale_ev s (by omega)) (Ev.ite_pos hs (Ev.bind (spec_l14Pattern_ev p (by omega)) (Ev.succ ?_))), Ev.bind (impl_ValidScale_ev s (by omega)) (Ev.ite_pos hs (Ev.bindc (impl_patternOk_eq p) (Ev.succ ?_)))⟩
      · simp only [spec_UpAndDown.j0]
        exact Ev.ite_pos (by rw [hq]; decide) (Ev.now _)
      · simp only [impl_UpAndDown.j0]
        exact Ev.ite_pos (by rw [hq]; decide) (Ev.now _)
    | true =>
      cases hb : (decide (0 ≤ n) && decide (n ≤ 30)) with
      | false =>
        refine ⟨[], 2, by simp, Ev.bind (spec_l03Scale_ev s (by omega)) (Ev.ite_pos hs (Ev.bind (spec_l14Pattern_ev p (by omega)) (Ev.succ ?_))), Ev.bind (impl_ValidScale_ev s (by omega)) (Ev.ite_pos hs (Ev.bindc (impl_patternOk_eq p) (Ev.succ ?_)))⟩
        · simp only [spec_UpAndDown.j0]
          exact Ev.ite_neg (by rw [hq]; decide) (Ev.bindc (spec_l00In_eq _ _ _) (Ev.ite_neg (by rw [hb]; decide) (Ev.now _)))
        · simp only [impl_UpAndDown.j0]
          exact Ev.ite_neg (by rw [hq]; decide) (Ev.bindc (impl_within_eq _ _ _) (Ev.ite_neg (by rw [hb]; decide) (Ev.now _)))
      | true =>
        have hb' := hb
        rw [Bool.and_eq_true, decide_eq_true_eq, decide_eq_true_eq] at hb'
        obtain ⟨m, rfl⟩ := Int.eq_ofNat_of_zero_le hb'.1
        refine ⟨(finR s [] (upM p (m + 1) 0 ++ dnM (p.map fun n => -n) (m + 1))).1, (finR s [] (upM p (m + 1) 0 ++ dnM (p.map fun n => -n) (m + 1))).2, by have := finR_len s (upM p (m + 1) 0 ++ dnM (p.map fun n => -n) (m + 1)); omega, Ev.bind (spec_l03Scale_ev s (by omega)) (Ev.ite_pos hs (Ev.bind (spec_l14Pattern_ev p (by omega)) (Ev.succ ?_))), Ev.bind (impl_ValidScale_ev s (by omega)) (Ev.ite_pos hs (Ev.bindc (impl_patternOk_eq p) (Ev.succ ?_)))⟩
        · simp only [spec_UpAndDown.j0]
          exact Ev.ite_neg (by rw [hq]; decide) (Ev.bindc (spec_l00In_eq _ _ _) (Ev.ite_pos hb (by simpa using spec_UpAndDown_l0 s p m hs hl hq (by omega) (m + 1) 0 [] (by omega) (by simp) (by omega))))
        · simp only [impl_UpAndDown.j0]
          exact Ev.ite_neg (by rw [hq]; decide) (Ev.bindc (impl_within_eq _ _ _) (Ev.ite_pos hb (by simpa using impl_UpAndDown_l0 s p m hs hl hq (by omega) (m + 1) 0 [] (by omega) (by simp) (by omega))))
theorem FnExactUpAndDown : laws_FnExactUpAndDown.Pure := by
  intro s p n ⟨hs, _⟩ ⟨hp, _⟩ wn
  refine Ev.out (r := true) ?_
  unfold laws_FnExactUpAndDown.f
  by_cases gs : (s.length : Int) > 1048576
  · exact Ev.ite_pos gs (Ev.now _)
  refine Ev.ite_neg gs ?_
  by_cases gp : (p.length : Int) > 1048576
  · exact Ev.ite_pos gp (Ev.now _)
  refine Ev.ite_neg gp ?_
  have ts := toInt64S_ev s (by omega)
  have ls : s.length ≤ 1048576 := by omega
  have tp := toInt64S_ev p (by omega)
  have lp : p.length ≤ 1048576 := by omega
  obtain ⟨r, c, lr, es, ei⟩ := bothUpAndDown s p n ls lp
  refine Ev.bind ts ?_
  refine Ev.bind tp ?_
  refine Ev.bind es ?_
  refine Ev.bind ts ?_
  refine Ev.bind tp ?_
  refine Ev.bind ei ?_
  refine Ev.bind (eqInt64S_self r (by omega)) ?_
  refine Ev.ite_pos rfl ?_
  refine Ev.succ ?_
  simp only [laws_FnExactUpAndDown.j0]
  refine Ev.ite_neg (by simp) ?_
  refine Ev.bind ts ?_
  refine Ev.bind (eqInt64S_self s (by omega)) ?_
  refine Ev.ite_pos rfl ?_
  refine Ev.bind tp ?_
  refine Ev.bind (eqInt64S_self p (by omega)) ?_
  refine Ev.ite_pos rfl ?_
  refine Ev.bind (markInt64S_ev s (1 : Int) (by omega) (by omega) (by omega)) ?_
  refine Ev.bind (markInt64S_ev p ((1 : Int) + (s.length : Int)) (by omega) (by omega) (by omega)) ?_
  refine Ev.ite_neg (show ¬ ((((1 : Int) + (s.length : Int)) + (p.length : Int)) < 0) by omega) ?_
  refine Ev.bind (eqInt64S_self r (by omega)) ?_
  refine Ev.ite_pos rfl ?_
  refine Ev.succ ?_
  simp only [laws_FnExactUpAndDown.j1]
  refine Ev.ite_neg (by simp) ?_
  refine Ev.bind (markInt64S_ev r 1 (by omega) (by omega) (by omega)) ?_
  refine Ev.bind (heldInt64S_ev r.length 1 (by omega) (by omega) (by omega)) ?_
  refine Ev.ite_neg (by omega) ?_
  refine Ev.ite_pos rfl ?_
  refine Ev.bind ts ?_
  refine Ev.bind tp ?_
  refine Ev.bind ei ?_
  refine Ev.bind (eqInt64S_self r (by omega)) ?_
  refine Ev.ite_pos rfl ?_
  refine Ev.succ ?_
  simp only [laws_FnExactUpAndDown.j2]
  refine Ev.ite_neg (by simp) ?_
  refine Ev.bind (heldInt64S_ev r.length 1 (by omega) (by omega) (by omega)) ?_
  refine Ev.ite_neg (by omega) ?_
  exact Ev.ite_pos rfl (Ev.now _)

end Go.Proofs.Ytddhommmokdlnaa.Pure
end
