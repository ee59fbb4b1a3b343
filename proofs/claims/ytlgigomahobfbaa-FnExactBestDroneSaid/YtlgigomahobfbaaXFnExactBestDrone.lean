/- The pure statement of FnExactBestDrone. No condition. -/
import Derived.Test.YtlgigomahobfbaaGBD1
import Derived.Test.YtlgigomahobfbaaGBD2
import Derived.Test.YtlgigomahobfbaaGBD3
section
namespace Go.Proofs.Ytlgigomahobfbaa.P
open Go.RowKit Go.Proofs.YtlgigomahobfbaaW.PrintWords Go.Proofs.YtlgigomahobfbaaW.PrintLast Go.Proofs.YtlgigomahobfbaaW.PrintMore
attribute [local go_sem] max2_int min2_int max_two min_two max_three min_three max_four min_four   -- for this text's walks alone
set_option linter.unusedVariables false
set_option linter.unusedSimpArgs false

/-! ### laws_FnExactBestDrone: function 9 -/
def laws_FnExactBestDrone.j0 : Nat → List (S77) → List (List (S77)) → List (S75) → List (List (S75)) → Bool → Option (Bool)
  | 0, _, _, _, _, _ => none
  | k + 1, x0, x1, x9, x10, x56 => if x56 = true then (some false) else ((laws_toNoteS.f k x0).bind fun t509 => ((laws_eqNoteS.f k x9 t509).bind fun t512 => (if t512 = true then ((laws_toNoteSS.f k x1).bind fun t513 => ((laws_eqNoteSS.f k x10 t513).bind fun t516 => (if t516 = true then (some true) else (some false)))) else (some false))))
def laws_FnExactBestDrone.f (k : Nat) (l0 : List (S77)) (l1 : List (List (S77))) : Option (Bool) := (laws_szNoteS.f l0 1048576).bind fun t489 => (if t489 < 0 then (some true) else ((laws_szNoteSS.f k l1 t489).bind fun t490 => (if t490 < 0 then (some true) else ((laws_toNoteS.f k l0).bind fun t491 => ((laws_toNoteSS.f k l1).bind fun t494 => ((spec_BestDrone.f k t491 t494).bind fun bt497 => ((laws_toNoteS.f k l0).bind fun t500 => ((laws_toNoteSS.f k l1).bind fun t503 => ((impl_BestDrone.f k t500 t503).bind fun bt506 => (if bt506.1 = bt497.1 then (if bt506.2.1 = bt497.2.1 then (laws_FnExactBestDrone.j0 k l0 l1 t500 t503 (bt506.2.2 != bt497.2.2)) else (laws_FnExactBestDrone.j0 k l0 l1 t500 t503 true)) else (laws_FnExactBestDrone.j0 k l0 l1 t500 t503 true)))))))))))
theorem laws_FnExactBestDrone.mono_l : ∀ k, (∀ y0 y1 y2 y3 y4, LeO (laws_FnExactBestDrone.j0 k y0 y1 y2 y3 y4) (laws_FnExactBestDrone.j0 (k + 1) y0 y1 y2 y3 y4))
  | 0 => fun _ _ _ _ _ r h => by simp [laws_FnExactBestDrone.j0] at h
  | k + 1 => by
    have ih0 := laws_FnExactBestDrone.mono_l k
    · intro y0 y1 y2 y3 y4
      unfold laws_FnExactBestDrone.j0
      repeat' first
      | (with_reducible exact ih0 _ _ _ _ _)
      | (with_reducible exact impl_BestDrone.mono _ _ _)
      | (with_reducible exact laws_eqNoteS.mono _ _ _)
      | (with_reducible exact laws_eqNoteSS.mono _ _ _)
      | (with_reducible exact laws_szNoteSS.mono _ _ _)
      | (with_reducible exact laws_toNoteS.mono _ _)
      | (with_reducible exact laws_toNoteSS.mono _ _)
      | (with_reducible exact spec_BestDrone.mono _ _ _)
      | (with_reducible exact LeO.refl _)
      | (with_reducible exact LeO.none _)
      | (with_reducible refine LeO.ite ?_ ?_)
      | (with_reducible refine LeO.bind ?_ (fun _ => ?_))
      | exact ih0 _ _ _ _ _
      | exact impl_BestDrone.mono _ _ _
      | exact laws_eqNoteS.mono _ _ _
      | exact laws_eqNoteSS.mono _ _ _
      | exact laws_szNoteSS.mono _ _ _
      | exact laws_toNoteS.mono _ _
      | exact laws_toNoteSS.mono _ _
      | exact spec_BestDrone.mono _ _ _
      | exact LeO.none _
      | refine LeO.ite ?_ ?_
      | refine LeO.bind ?_ (fun _ => ?_)
theorem laws_FnExactBestDrone.mono : ∀ a0 a1 k, LeO (laws_FnExactBestDrone.f k a0 a1) (laws_FnExactBestDrone.f (k + 1) a0 a1) := by
  intro a0 a1 k
  have ih0 := laws_FnExactBestDrone.mono_l k
  unfold laws_FnExactBestDrone.f
  repeat' first
      | (with_reducible exact ih0 _ _ _ _ _)
      | (with_reducible exact impl_BestDrone.mono _ _ _)
      | (with_reducible exact laws_eqNoteS.mono _ _ _)
      | (with_reducible exact laws_eqNoteSS.mono _ _ _)
      | (with_reducible exact laws_szNoteSS.mono _ _ _)
      | (with_reducible exact laws_toNoteS.mono _ _)
      | (with_reducible exact laws_toNoteSS.mono _ _)
      | (with_reducible exact spec_BestDrone.mono _ _ _)
      | (with_reducible exact LeO.refl _)
      | (with_reducible exact LeO.none _)
      | (with_reducible refine LeO.ite ?_ ?_)
      | (with_reducible refine LeO.bind ?_ (fun _ => ?_))
      | exact ih0 _ _ _ _ _
      | exact impl_BestDrone.mono _ _ _
      | exact laws_eqNoteS.mono _ _ _
      | exact laws_eqNoteSS.mono _ _ _
      | exact laws_szNoteSS.mono _ _ _
      | exact laws_toNoteS.mono _ _
      | exact laws_toNoteSS.mono _ _
      | exact spec_BestDrone.mono _ _ _
      | exact LeO.none _
      | refine LeO.ite ?_ ?_
      | refine LeO.bind ?_ (fun _ => ?_)
set_option maxHeartbeats 8000000 in
set_option maxRecDepth 100000 in
theorem laws_FnExactBestDrone.calls (k : Nat) (A0 : Option Addr) (c0 : Nat) (l0 : List (S77)) (A1 : Option Addr) (c1 : Nat) (l1 : List (List (S77))) (r : Bool) (w : World) (hr0 : Kd.C k77 w A0 l0.length l0) (hc0 : l0.length ≤ c0) (hr1 : Kd.C (Kd.slice 77 k77) w A1 l1.length l1) (hc1 : l1.length ≤ c1) (hT : r = true) (h : laws_FnExactBestDrone.f k l0 l1 = some r) :
    Calls Try.prog 9 #[.slice A0 l0.length c0, .slice A1 l1.length c1] w fun e w' => e = .returned (.bool r) ∧ Below w.heap.size w w' := by
  have HR0 := Aside0.mk hr0
  have HC0 := Aside0.mk hc0
  clear hr0 hc0
  have HR1 := Aside0.mk hr1
  have HC1 := Aside0.mk hc1
  clear hr1 hc1
  have HT := Aside0.mk hT
  clear hT
  have HB := Aside0.mk (Below.refl w.heap.size w)
  have H : ((laws_szNoteS.f l0 1048576).bind fun t489 => (if t489 < 0 then (some true) else ((laws_szNoteSS.f k l1 t489).bind fun t490 => (if t490 < 0 then (some true) else ((laws_toNoteS.f k l0).bind fun t491 => ((laws_toNoteSS.f k l1).bind fun t494 => ((spec_BestDrone.f k t491 t494).bind fun bt497 => ((laws_toNoteS.f k l0).bind fun t500 => ((laws_toNoteSS.f k l1).bind fun t503 => ((impl_BestDrone.f k t500 t503).bind fun bt506 => (if bt506.1 = bt497.1 then (if bt506.2.1 = bt497.2.1 then (laws_FnExactBestDrone.j0 k l0 l1 t500 t503 (bt506.2.2 != bt497.2.2)) else (laws_FnExactBestDrone.j0 k l0 l1 t500 t503 true)) else (laws_FnExactBestDrone.j0 k l0 l1 t500 t503 true)))))))))))) = some r := h
  clear h
  replace H := Option.bind_eq_some_iff.mp H
  obtain ⟨t489, A30, H⟩ := H
  replace H : (if t489 < 0 then (some true) else ((laws_szNoteSS.f k l1 t489).bind fun t490 => (if t490 < 0 then (some true) else ((laws_toNoteS.f k l0).bind fun t491 => ((laws_toNoteSS.f k l1).bind fun t494 => ((spec_BestDrone.f k t491 t494).bind fun bt497 => ((laws_toNoteS.f k l0).bind fun t500 => ((laws_toNoteSS.f k l1).bind fun t503 => ((impl_BestDrone.f k t500 t503).bind fun bt506 => (if bt506.1 = bt497.1 then (if bt506.2.1 = bt497.2.1 then (laws_FnExactBestDrone.j0 k l0 l1 t500 t503 (bt506.2.2 != bt497.2.2)) else (laws_FnExactBestDrone.j0 k l0 l1 t500 t503 true)) else (laws_FnExactBestDrone.j0 k l0 l1 t500 t503 true))))))))))) = some r := H
  have A3 := Aside0.mk A30
  clear A30
  by_cases c4 : t489 < 0
  · rw [if_pos c4] at H
    have c4b0 : decide (t489 < 0) = true := decide_eq_true c4
    clear c4
    obtain rfl := Option.some.inj H
    go_enter Try.func9, Try.ntmps9
    go_wp2_with (first | ((with_reducible refine gate_callee (f := 15) rfl ?_); refine goesL_ (some 16) rfl rfl Try.func15 (by kernel_rfl) rfl #[.slice A0 l0.length c0, .int .i64 1048576] rfl (by (try simp only [List.map_toArray, List.map_cons, List.map_nil]); first | done | rfl | (simp only [List.length_drop, List.length_take]; rfl)) ?_; (with_reducible refine (laws_szNoteS.calls _ _ l0 1048576 t489 _ ?side1 ?side2 A3.out).mono ?_); (case side1 => repeat (first | exact HR0.out | (with_reducible refine Kd.C_alloc ?_ _) | (with_reducible refine Kd.C_drewN ?_ _) | (with_reducible refine Kd.C_drew ?_))); (case side2 => exact HC0.out); rintro e w' ⟨rfl, ⟨nd, rfl⟩⟩; refine ⟨_, rfl, ?_⟩))
    go_ret
    exact ⟨by first | rfl | (simp [errW_none, errW_some] <;> rfl) | (simp [*, errW_none, errW_some] <;> rfl), by repeat (first | (with_reducible first | exact HB.out | apply below_alloc | apply pw_below_drewN | apply below_drew1) | exact HB.out)⟩
  · rw [if_neg c4] at H
    have c4b0 : decide (t489 < 0) = false := decide_eq_false c4
    clear c4
    replace H := Option.bind_eq_some_iff.mp H
    obtain ⟨t490, A50, H⟩ := H
    replace H : (if t490 < 0 then (some true) else ((laws_toNoteS.f k l0).bind fun t491 => ((laws_toNoteSS.f k l1).bind fun t494 => ((spec_BestDrone.f k t491 t494).bind fun bt497 => ((laws_toNoteS.f k l0).bind fun t500 => ((laws_toNoteSS.f k l1).bind fun t503 => ((impl_BestDrone.f k t500 t503).bind fun bt506 => (if bt506.1 = bt497.1 then (if bt506.2.1 = bt497.2.1 then (laws_FnExactBestDrone.j0 k l0 l1 t500 t503 (bt506.2.2 != bt497.2.2)) else (laws_FnExactBestDrone.j0 k l0 l1 t500 t503 true)) else (laws_FnExactBestDrone.j0 k l0 l1 t500 t503 true))))))))) = some r := H
    have A5 := Aside0.mk A50
    clear A50
    by_cases c6 : t490 < 0
    · rw [if_pos c6] at H
      have c6b0 : decide (t490 < 0) = true := decide_eq_true c6
      clear c6
      obtain rfl := Option.some.inj H
      go_enter Try.func9, Try.ntmps9
      go_wp2_with (first | ((with_reducible refine gate_callee (f := 15) rfl ?_); refine goesL_ (some 16) rfl rfl Try.func15 (by kernel_rfl) rfl #[.slice A0 l0.length c0, .int .i64 1048576] rfl (by (try simp only [List.map_toArray, List.map_cons, List.map_nil]); first | done | rfl | (simp only [List.length_drop, List.length_take]; rfl)) ?_; (with_reducible refine (laws_szNoteS.calls _ _ l0 1048576 t489 _ ?side1 ?side2 A3.out).mono ?_); (case side1 => repeat (first | exact HR0.out | (with_reducible refine Kd.C_alloc ?_ _) | (with_reducible refine Kd.C_drewN ?_ _) | (with_reducible refine Kd.C_drew ?_))); (case side2 => exact HC0.out); rintro e w' ⟨rfl, ⟨nd, rfl⟩⟩; refine ⟨_, rfl, ?_⟩) | ((with_reducible refine gate_callee (f := 35) rfl ?_); refine goesL_ (some 21) rfl rfl Try.func35 (by kernel_rfl) rfl #[.slice A1 l1.length c1, .int .i64 t489] rfl (by (try simp only [List.map_toArray, List.map_cons, List.map_nil]); first | done | rfl | (simp only [List.length_drop, List.length_take]; rfl)) ?_; (with_reducible refine (laws_szNoteSS.calls k _ _ l1 t489 t490 _ ?side1 ?side2 A5.out).mono ?_); (case side1 => repeat (first | exact HR1.out | (with_reducible refine Kd.C_alloc ?_ _) | (with_reducible refine Kd.C_drewN ?_ _) | (with_reducible refine Kd.C_drew ?_))); (case side2 => exact HC1.out); rintro e w' ⟨rfl, ⟨nd, rfl⟩⟩; refine ⟨_, rfl, ?_⟩))
      go_ret
      exact ⟨by first | rfl | (simp [errW_none, errW_some] <;> rfl) | (simp [*, errW_none, errW_some] <;> rfl), by repeat (first | (with_reducible first | exact HB.out | apply below_alloc | apply pw_below_drewN | apply below_drew1) | exact HB.out)⟩
    · rw [if_neg c6] at H
      have c6b0 : decide (t490 < 0) = false := decide_eq_false c6
      clear c6
      replace H := Option.bind_eq_some_iff.mp H
      obtain ⟨t491, A70, H⟩ := H
      replace H : ((laws_toNoteSS.f k l1).bind fun t494 => ((spec_BestDrone.f k t491 t494).bind fun bt497 => ((laws_toNoteS.f k l0).bind fun t500 => ((laws_toNoteSS.f k l1).bind fun t503 => ((impl_BestDrone.f k t500 t503).bind fun bt506 => (if bt506.1 = bt497.1 then (if bt506.2.1 = bt497.2.1 then (laws_FnExactBestDrone.j0 k l0 l1 t500 t503 (bt506.2.2 != bt497.2.2)) else (laws_FnExactBestDrone.j0 k l0 l1 t500 t503 true)) else (laws_FnExactBestDrone.j0 k l0 l1 t500 t503 true))))))) = some r := H
      have A7 := Aside0.mk A70
      clear A70
      replace H := Option.bind_eq_some_iff.mp H
      obtain ⟨t494, A80, H⟩ := H
      replace H : ((spec_BestDrone.f k t491 t494).bind fun bt497 => ((laws_toNoteS.f k l0).bind fun t500 => ((laws_toNoteSS.f k l1).bind fun t503 => ((impl_BestDrone.f k t500 t503).bind fun bt506 => (if bt506.1 = bt497.1 then (if bt506.2.1 = bt497.2.1 then (laws_FnExactBestDrone.j0 k l0 l1 t500 t503 (bt506.2.2 != bt497.2.2)) else (laws_FnExactBestDrone.j0 k l0 l1 t500 t503 true)) else (laws_FnExactBestDrone.j0 k l0 l1 t500 t503 true)))))) = some r := H
      have A8 := Aside0.mk A80
      clear A80
      replace H := Option.bind_eq_some_iff.mp H
      obtain ⟨⟨t497, t498, t499⟩, A90, H⟩ := H
      replace H : ((laws_toNoteS.f k l0).bind fun t500 => ((laws_toNoteSS.f k l1).bind fun t503 => ((impl_BestDrone.f k t500 t503).bind fun bt506 => (if bt506.1 = t497 then (if bt506.2.1 = t498 then (laws_FnExactBestDrone.j0 k l0 l1 t500 t503 (bt506.2.2 != t499)) else (laws_FnExactBestDrone.j0 k l0 l1 t500 t503 true)) else (laws_FnExactBestDrone.j0 k l0 l1 t500 t503 true))))) = some r := H
      have A9 := Aside0.mk A90
      clear A90
      replace H := Option.bind_eq_some_iff.mp H
      obtain ⟨t500, A100, H⟩ := H
      replace H : ((laws_toNoteSS.f k l1).bind fun t503 => ((impl_BestDrone.f k t500 t503).bind fun bt506 => (if bt506.1 = t497 then (if bt506.2.1 = t498 then (laws_FnExactBestDrone.j0 k l0 l1 t500 t503 (bt506.2.2 != t499)) else (laws_FnExactBestDrone.j0 k l0 l1 t500 t503 true)) else (laws_FnExactBestDrone.j0 k l0 l1 t500 t503 true)))) = some r := H
      have A10 := Aside0.mk A100
      clear A100
      replace H := Option.bind_eq_some_iff.mp H
      obtain ⟨t503, A110, H⟩ := H
      replace H : ((impl_BestDrone.f k t500 t503).bind fun bt506 => (if bt506.1 = t497 then (if bt506.2.1 = t498 then (laws_FnExactBestDrone.j0 k l0 l1 t500 t503 (bt506.2.2 != t499)) else (laws_FnExactBestDrone.j0 k l0 l1 t500 t503 true)) else (laws_FnExactBestDrone.j0 k l0 l1 t500 t503 true))) = some r := H
      have A11 := Aside0.mk A110
      clear A110
      replace H := Option.bind_eq_some_iff.mp H
      obtain ⟨⟨t506, t507, t508⟩, A120, H⟩ := H
      replace H : (if t506 = t497 then (if t507 = t498 then (laws_FnExactBestDrone.j0 k l0 l1 t500 t503 (t508 != t499)) else (laws_FnExactBestDrone.j0 k l0 l1 t500 t503 true)) else (laws_FnExactBestDrone.j0 k l0 l1 t500 t503 true)) = some r := H
      have A12 := Aside0.mk A120
      clear A120
      have HC13 := Aside0.mk H
      clear H
      go_enter Try.func9, Try.ntmps9
      go_upto_region 12 with (first | ((with_reducible refine gate_callee (f := 15) rfl ?_); refine goesL_ (some 16) rfl rfl Try.func15 (by kernel_rfl) rfl #[.slice A0 l0.length c0, .int .i64 1048576] rfl (by (try simp only [List.map_toArray, List.map_cons, List.map_nil]); first | done | rfl | (simp only [List.length_drop, List.length_take]; rfl)) ?_; (with_reducible refine (laws_szNoteS.calls _ _ l0 1048576 t489 _ ?side1 ?side2 A3.out).mono ?_); (case side1 => repeat (first | exact HR0.out | (with_reducible refine Kd.C_alloc ?_ _) | (with_reducible refine Kd.C_drewN ?_ _) | (with_reducible refine Kd.C_drew ?_))); (case side2 => exact HC0.out); rintro e w' ⟨rfl, ⟨nd, rfl⟩⟩; refine ⟨_, rfl, ?_⟩) | ((with_reducible refine gate_callee (f := 35) rfl ?_); refine goesL_ (some 21) rfl rfl Try.func35 (by kernel_rfl) rfl #[.slice A1 l1.length c1, .int .i64 t489] rfl (by (try simp only [List.map_toArray, List.map_cons, List.map_nil]); first | done | rfl | (simp only [List.length_drop, List.length_take]; rfl)) ?_; (with_reducible refine (laws_szNoteSS.calls k _ _ l1 t489 t490 _ ?side1 ?side2 A5.out).mono ?_); (case side1 => repeat (first | exact HR1.out | (with_reducible refine Kd.C_alloc ?_ _) | (with_reducible refine Kd.C_drewN ?_ _) | (with_reducible refine Kd.C_drew ?_))); (case side2 => exact HC1.out); rintro e w' ⟨rfl, ⟨nd, rfl⟩⟩; refine ⟨_, rfl, ?_⟩) | ((with_reducible refine gate_callee (f := 17) rfl ?_); refine goesL_ (some 26) rfl rfl Try.func17 (by kernel_rfl) rfl #[.slice A0 l0.length c0] rfl (by (try simp only [List.map_toArray, List.map_cons, List.map_nil]); first | done | rfl | (simp only [List.length_drop, List.length_take]; rfl)) ?_; (with_reducible refine (laws_toNoteS.calls k _ _ l0 t491 _ ?side1 ?side2 A7.out).mono ?_); (case side1 => repeat (first | exact HR0.out | (with_reducible refine Kd.C_alloc ?_ _) | (with_reducible refine Kd.C_drewN ?_ _) | (with_reducible refine Kd.C_drew ?_))); (case side2 => exact HC0.out); rintro e w14 ⟨v492, rfl, ho0, hb⟩; refine ⟨_, rfl, ?_⟩; have n0_ := Aside0.mk (Kd.R_lower ho0 (below_size (by repeat (first | (with_reducible first | exact HB.out | apply below_alloc | apply pw_below_drewN | apply below_drew1) | exact HB.out)))); have n1_ := Aside0.mk (below_step (by repeat (first | (with_reducible first | exact HB.out | apply below_alloc | apply pw_below_drewN | apply below_drew1) | exact HB.out)) hb); clear HB; have HO493 := n0_; have HB := n1_; clear n0_ n1_; (try clear hb); (try clear hb2); (try clear hk); (try clear hi); (try clear ho0)) | ((with_reducible refine gate_callee (f := 37) rfl ?_); refine goesL_ (some 28) rfl rfl Try.func37 (by kernel_rfl) rfl #[.slice A1 l1.length c1] rfl (by (try simp only [List.map_toArray, List.map_cons, List.map_nil]); first | done | rfl | (simp only [List.length_drop, List.length_take]; rfl)) ?_; (with_reducible refine (laws_toNoteSS.calls k _ _ l1 t494 _ ?side1 ?side2 A8.out).mono ?_); (case side1 => repeat (first | exact (Kd.C_below HR1.out HB.out) | (with_reducible refine Kd.C_alloc ?_ _) | (with_reducible refine Kd.C_drewN ?_ _) | (with_reducible refine Kd.C_drew ?_))); (case side2 => exact HC1.out); rintro e w15 ⟨v495, rfl, ho0, hb⟩; refine ⟨_, rfl, ?_⟩; have n0_ := Aside0.mk (Kd.R_below (by (with_reducible repeat (first | apply Kd.R_alloc | apply Kd.R_drewN | apply Kd.R_drew)); exact HO493.out) hb); have n1_ := Aside0.mk (Kd.S_lower (Kd.S_new' ho0 (Kd.R_lt (by (with_reducible repeat (first | apply Kd.R_alloc | apply Kd.R_drewN | apply Kd.R_drew)); exact HO493.out))) (below_size (by repeat (first | (with_reducible first | exact HB.out | apply below_alloc | apply pw_below_drewN | apply below_drew1) | exact HB.out)))); have n2_ := Aside0.mk (below_step (by repeat (first | (with_reducible first | exact HB.out | apply below_alloc | apply pw_below_drewN | apply below_drew1) | exact HB.out)) hb); clear HO493; clear HB; have HO493 := n0_; have HO496 := n1_; have HB := n2_; clear n0_ n1_ n2_; (try clear hb); (try clear hb2); (try clear hk); (try clear hi); (try clear ho0); obtain ⟨Ao16, co16, eo16⟩ := Kd.R_slice HO493.out; subst eo16; obtain ⟨Ao17, co17, eo17⟩ := Kd.S_slice HO496.out; subst eo17) | ((with_reducible refine gate_callee (f := 36) rfl ?_); refine goesL_ (some 29) rfl rfl Try.func36 (by kernel_rfl) rfl #[.slice Ao16 t491.length co16, .slice Ao17 t494.length co17] rfl (by (try simp only [List.map_toArray, List.map_cons, List.map_nil]); first | done | rfl | (simp only [List.length_drop, List.length_take]; rfl)) ?_; (with_reducible refine (spec_BestDrone.calls k _ _ t491 _ _ t494 t497 t498 t499 _ ?side1 ?side2 ?side3 ?side4 A9.out).mono ?_); (case side1 => repeat (first | exact (Kd.R_reads' HO493.out).2.2 | (with_reducible refine Kd.C_alloc ?_ _) | (with_reducible refine Kd.C_drewN ?_ _) | (with_reducible refine Kd.C_drew ?_))); (case side2 => exact (Kd.R_reads' HO493.out).2.1); (case side3 => repeat (first | exact (Kd.S_reads' HO496.out).2.2 | (with_reducible refine Kd.C_alloc ?_ _) | (with_reducible refine Kd.C_drewN ?_ _) | (with_reducible refine Kd.C_drew ?_))); (case side4 => exact (Kd.S_reads' HO496.out).2.1); rintro e w18 ⟨rfl, hb⟩; refine ⟨_, rfl, ?_⟩; have n0_ := Aside0.mk (Kd.R_below (by (with_reducible repeat (first | apply Kd.R_alloc | apply Kd.R_drewN | apply Kd.R_drew)); exact HO493.out) hb); have n1_ := Aside0.mk (Kd.S_below (by (with_reducible repeat (first | apply Kd.S_alloc | apply Kd.S_drewN | apply Kd.S_drew)); exact HO496.out) hb); have n2_ := Aside0.mk (below_step (by repeat (first | (with_reducible first | exact HB.out | apply below_alloc | apply pw_below_drewN | apply below_drew1) | exact HB.out)) hb); clear HO493; clear HO496; clear HB; have HO493 := n0_; have HO496 := n1_; have HB := n2_; clear n0_ n1_ n2_; (try clear hb); (try clear hb2); (try clear hk); (try clear hi)) | ((with_reducible refine gate_callee (f := 17) rfl ?_); refine goesL_ (some 34) rfl rfl Try.func17 (by kernel_rfl) rfl #[.slice A0 l0.length c0] rfl (by (try simp only [List.map_toArray, List.map_cons, List.map_nil]); first | done | rfl | (simp only [List.length_drop, List.length_take]; rfl)) ?_; (with_reducible refine (laws_toNoteS.calls k _ _ l0 t500 _ ?side1 ?side2 A10.out).mono ?_); (case side1 => repeat (first | exact (Kd.C_below HR0.out HB.out) | (with_reducible refine Kd.C_alloc ?_ _) | (with_reducible refine Kd.C_drewN ?_ _) | (with_reducible refine Kd.C_drew ?_))); (case side2 => exact HC0.out); rintro e w19 ⟨v501, rfl, ho0, hb⟩; refine ⟨_, rfl, ?_⟩; have n0_ := Aside0.mk (Kd.R_elder' (by (with_reducible repeat (first | apply Kd.R_alloc | apply Kd.R_drewN | apply Kd.R_drew)); exact HO493.out) (Kd.R_base ho0) hb); have n1_ := Aside0.mk (Kd.S_elder' (by (with_reducible repeat (first | apply Kd.S_alloc | apply Kd.S_drewN | apply Kd.S_drew)); exact HO496.out) (Kd.R_base ho0) hb); have n2_ := Aside0.mk (Kd.R_lower (Kd.R_new' ho0 (Kd.R_lt (by (with_reducible repeat (first | apply Kd.R_alloc | apply Kd.R_drewN | apply Kd.R_drew)); exact HO493.out))) (below_size (by repeat (first | (with_reducible first | exact HB.out | apply below_alloc | apply pw_below_drewN | apply below_drew1) | exact HB.out)))); have n3_ := Aside0.mk (below_step (by repeat (first | (with_reducible first | exact HB.out | apply below_alloc | apply pw_below_drewN | apply below_drew1) | exact HB.out)) hb); clear HO493; clear HO496; clear HB; have HO493 := n0_; have HO496 := n1_; have HO502 := n2_; have HB := n3_; clear n0_ n1_ n2_ n3_; (try clear hb); (try clear hb2); (try clear hk); (try clear hi); (try clear ho0)) | ((with_reducible refine gate_callee (f := 37) rfl ?_); refine goesL_ (some 36) rfl rfl Try.func37 (by kernel_rfl) rfl #[.slice A1 l1.length c1] rfl (by (try simp only [List.map_toArray, List.map_cons, List.map_nil]); first | done | rfl | (simp only [List.length_drop, List.length_take]; rfl)) ?_; (with_reducible refine (laws_toNoteSS.calls k _ _ l1 t503 _ ?side1 ?side2 A11.out).mono ?_); (case side1 => repeat (first | exact (Kd.C_below HR1.out HB.out) | (with_reducible refine Kd.C_alloc ?_ _) | (with_reducible refine Kd.C_drewN ?_ _) | (with_reducible refine Kd.C_drew ?_))); (case side2 => exact HC1.out); rintro e w20 ⟨v504, rfl, ho0, hb⟩; refine ⟨_, rfl, ?_⟩; have n0_ := Aside0.mk (Kd.R_below (by (with_reducible repeat (first | apply Kd.R_alloc | apply Kd.R_drewN | apply Kd.R_drew)); exact HO493.out) hb); have n1_ := Aside0.mk (Kd.S_elder' (by (with_reducible repeat (first | apply Kd.S_alloc | apply Kd.S_drewN | apply Kd.S_drew)); exact HO496.out) (Kd.S_base ho0) hb); have n2_ := Aside0.mk (Kd.R_below (by (with_reducible repeat (first | apply Kd.R_alloc | apply Kd.R_drewN | apply Kd.R_drew)); exact HO502.out) hb); have n3_ := Aside0.mk (Kd.S_lower (Kd.S_new' (Kd.S_new' (Kd.S_new' ho0 (Kd.R_lt (by (with_reducible repeat (first | apply Kd.R_alloc | apply Kd.R_drewN | apply Kd.R_drew)); exact HO493.out))) (Kd.S_lt (by (with_reducible repeat (first | apply Kd.S_alloc | apply Kd.S_drewN | apply Kd.S_drew)); exact HO496.out))) (Kd.R_lt (by (with_reducible repeat (first | apply Kd.R_alloc | apply Kd.R_drewN | apply Kd.R_drew)); exact HO502.out))) (below_size (by repeat (first | (with_reducible first | exact HB.out | apply below_alloc | apply pw_below_drewN | apply below_drew1) | exact HB.out)))); have n4_ := Aside0.mk (below_step (by repeat (first | (with_reducible first | exact HB.out | apply below_alloc | apply pw_below_drewN | apply below_drew1) | exact HB.out)) hb); clear HO493; clear HO496; clear HO502; clear HB; have HO493 := n0_; have HO496 := n1_; have HO502 := n2_; have HO505 := n3_; have HB := n4_; clear n0_ n1_ n2_ n3_ n4_; (try clear hb); (try clear hb2); (try clear hk); (try clear hi); (try clear ho0); obtain ⟨Ao21, co21, eo21⟩ := Kd.R_slice HO502.out; subst eo21; obtain ⟨Ao22, co22, eo22⟩ := Kd.S_slice HO505.out; subst eo22) | ((with_reducible refine gate_callee (f := 38) rfl ?_); refine goesL_ (some 40) rfl rfl Try.func38 (by kernel_rfl) rfl #[.slice Ao21 t500.length co21, .slice Ao22 t503.length co22] rfl (by (try simp only [List.map_toArray, List.map_cons, List.map_nil]); first | done | rfl | (simp only [List.length_drop, List.length_take]; rfl)) ?_; (with_reducible refine (impl_BestDrone.calls k _ _ t500 _ _ t503 t506 t507 t508 _ ?side1 ?side2 ?side3 ?side4 A12.out).mono ?_); (case side1 => repeat (first | exact (Kd.R_reads' HO502.out).2.2 | (with_reducible refine Kd.C_alloc ?_ _) | (with_reducible refine Kd.C_drewN ?_ _) | (with_reducible refine Kd.C_drew ?_))); (case side2 => exact (Kd.R_reads' HO502.out).2.1); (case side3 => repeat (first | exact (Kd.S_reads' HO505.out).2.2 | (with_reducible refine Kd.C_alloc ?_ _) | (with_reducible refine Kd.C_drewN ?_ _) | (with_reducible refine Kd.C_drew ?_))); (case side4 => exact (Kd.S_reads' HO505.out).2.1); rintro e w23 ⟨rfl, hb⟩; refine ⟨_, rfl, ?_⟩; have n0_ := Aside0.mk (Kd.R_below (by (with_reducible repeat (first | apply Kd.R_alloc | apply Kd.R_drewN | apply Kd.R_drew)); exact HO493.out) hb); have n1_ := Aside0.mk (Kd.S_below (by (with_reducible repeat (first | apply Kd.S_alloc | apply Kd.S_drewN | apply Kd.S_drew)); exact HO496.out) hb); have n2_ := Aside0.mk (Kd.R_below (by (with_reducible repeat (first | apply Kd.R_alloc | apply Kd.R_drewN | apply Kd.R_drew)); exact HO502.out) hb); have n3_ := Aside0.mk (Kd.S_below (by (with_reducible repeat (first | apply Kd.S_alloc | apply Kd.S_drewN | apply Kd.S_drew)); exact HO505.out) hb); have n4_ := Aside0.mk (below_step (by repeat (first | (with_reducible first | exact HB.out | apply below_alloc | apply pw_below_drewN | apply below_drew1) | exact HB.out)) hb); clear HO493; clear HO496; clear HO502; clear HO505; clear HB; have HO493 := n0_; have HO496 := n1_; have HO502 := n2_; have HO505 := n3_; have HB := n4_; clear n0_ n1_ n2_ n3_ n4_; (try clear hb); (try clear hb2); (try clear hk); (try clear hi)))
      (try simp only [Act.put, List.setIfInBounds_toArray, List.set_cons_zero, List.set_cons_succ])
      go_cut [56] (fun v56 wc => ∃ (kq : Nat) (x56_12 : Bool), v56 = .bool x56_12 ∧ Aside0 (laws_FnExactBestDrone.j0 kq l0 l1 t500 t503 x56_12 = some r) ∧ Aside0 (kq ≤ k) ∧ Aside0 (Kd.R k75 75 wc w.heap.size (fun _ => True) (.slice Ao21 t500.length co21) t500) ∧ Aside0 (Kd.S (Kd.slice 75 k75) 26 wc w.heap.size (fun k_ => some k_ ≠ ((.slice Ao21 t500.length co21) : Value).ownBlock) (.slice Ao22 t503.length co22) t503) ∧ Aside0 (Below w.heap.size w wc))
      case first =>
        have H := HC13.out
        clear HC13
        by_cases c24 : t506 = t497
        · rw [if_pos c24] at H
          have c24b0 : (t506 == t497) = true := beq_iff_eq.mpr c24
          have c24b1 : (t506 != t497) = false := bne_eq_false_iff_eq.mpr c24
          clear c24
          (first | rw [c24b0] | (simp only [i64_w, i32_w]; rw [c24b0]) | skip)
          by_cases c25 : t507 = t498
          · rw [if_pos c25] at H
            have c25b0 : (t507 == t498) = true := beq_iff_eq.mpr c25
            have c25b1 : (t507 != t498) = false := bne_eq_false_iff_eq.mpr c25
            clear c25
            have H' := Aside0.mk H
            clear H
            go_wp2
            go_meet
            case rel => exact ⟨_, ((t508 != t499)), (by first | rfl | (simp; done) | (simp [*]; done)), H', ⟨by first | omega | exact Nat.le_refl _⟩, ⟨by (with_reducible repeat (first | apply Kd.R_alloc | apply Kd.R_drewN | apply Kd.R_drew)); exact Kd.R_mono HO502.out (fun _ hk => trivial)⟩, ⟨by (with_reducible repeat (first | apply Kd.S_alloc | apply Kd.S_drewN | apply Kd.S_drew)); exact Kd.S_mono HO505.out (fun _ hk => hk.2)⟩, ⟨by repeat (first | (with_reducible first | exact HB.out | apply below_alloc | apply pw_below_drewN | apply below_drew1) | exact HB.out)⟩⟩
          · rw [if_neg c25] at H
            have c25b0 : (t507 == t498) = false := beq_eq_false_iff_ne.mpr c25
            have c25b1 : (t507 != t498) = true := bne_iff_ne.mpr c25
            have H' := Aside0.mk H
            clear H
            go_wp2
            go_meet
            case rel => exact ⟨_, (true), (by first | rfl | (simp; done) | (simp [*]; done)), H', ⟨by first | omega | exact Nat.le_refl _⟩, ⟨by (with_reducible repeat (first | apply Kd.R_alloc | apply Kd.R_drewN | apply Kd.R_drew)); exact Kd.R_mono HO502.out (fun _ hk => trivial)⟩, ⟨by (with_reducible repeat (first | apply Kd.S_alloc | apply Kd.S_drewN | apply Kd.S_drew)); exact Kd.S_mono HO505.out (fun _ hk => hk.2)⟩, ⟨by repeat (first | (with_reducible first | exact HB.out | apply below_alloc | apply pw_below_drewN | apply below_drew1) | exact HB.out)⟩⟩
        · rw [if_neg c24] at H
          have c24b0 : (t506 == t497) = false := beq_eq_false_iff_ne.mpr c24
          have c24b1 : (t506 != t497) = true := bne_iff_ne.mpr c24
          (first | rw [c24b0] | (simp only [i64_w, i32_w]; rw [c24b0]) | skip)
          have H' := Aside0.mk H
          clear H
          go_wp2
          go_meet
          case rel => exact ⟨_, (true), (by first | rfl | (simp; done) | (simp [*]; done)), H', ⟨by first | omega | exact Nat.le_refl _⟩, ⟨by (with_reducible repeat (first | apply Kd.R_alloc | apply Kd.R_drewN | apply Kd.R_drew)); exact Kd.R_mono HO502.out (fun _ hk => trivial)⟩, ⟨by (with_reducible repeat (first | apply Kd.S_alloc | apply Kd.S_drewN | apply Kd.S_drew)); exact Kd.S_mono HO505.out (fun _ hk => hk.2)⟩, ⟨by repeat (first | (with_reducible first | exact HB.out | apply below_alloc | apply pw_below_drewN | apply below_drew1) | exact HB.out)⟩⟩
      case rest =>
        clear HC13
        try clear c1
        try clear c2
        try clear p2
        try clear c3
        try clear c4
        try clear c4b0
        try clear c6
        try clear c6b0
        try clear c9
        try clear c15
        try clear c17
        try clear c24
        try clear c24b0
        try clear c24b1
        try clear c25
        try clear c25b0
        try clear c25b1
        obtain ⟨kq, x56_12, rfl, HA, HJ12, HO_9, HO_10, HB⟩ := hcut
        cases kq with
        | zero => exact absurd HA.out (by simp [laws_FnExactBestDrone.j0])
        | succ kj12 =>
          have H := HA.out
          clear HA
          simp only [laws_FnExactBestDrone.j0] at H
          by_cases c26 : x56_12 = true
          · subst c26
            have H1 : (some false) = some r := by rw [if_pos rfl] at H; exact H
            clear H
            have H := H1
            clear H1
            exact absurd ((Option.some.inj H).trans HT.out) (by decide)
          · replace c26 := Bool.eq_false_iff.mpr c26
            subst c26
            have H1 : ((laws_toNoteS.f kj12 l0).bind fun t509 => ((laws_eqNoteS.f kj12 t500 t509).bind fun t512 => (if t512 = true then ((laws_toNoteSS.f kj12 l1).bind fun t513 => ((laws_eqNoteSS.f kj12 t503 t513).bind fun t516 => (if t516 = true then (some true) else (some false)))) else (some false)))) = some r := by rw [if_neg (show ¬ (false = true) by decide)] at H; exact H
            clear H
            have H := H1
            clear H1
            replace H := Option.bind_eq_some_iff.mp H
            obtain ⟨t509, A270, H⟩ := H
            replace H : ((laws_eqNoteS.f kj12 t500 t509).bind fun t512 => (if t512 = true then ((laws_toNoteSS.f kj12 l1).bind fun t513 => ((laws_eqNoteSS.f kj12 t503 t513).bind fun t516 => (if t516 = true then (some true) else (some false)))) else (some false))) = some r := H
            have A27 := Aside0.mk A270
            clear A270
            replace H := Option.bind_eq_some_iff.mp H
            obtain ⟨t512, A280, H⟩ := H
            replace H : (if t512 = true then ((laws_toNoteSS.f kj12 l1).bind fun t513 => ((laws_eqNoteSS.f kj12 t503 t513).bind fun t516 => (if t516 = true then (some true) else (some false)))) else (some false)) = some r := H
            have A28 := Aside0.mk A280
            clear A280
            by_cases c29 : t512 = true
            · subst c29
              have H1 : ((laws_toNoteSS.f kj12 l1).bind fun t513 => ((laws_eqNoteSS.f kj12 t503 t513).bind fun t516 => (if t516 = true then (some true) else (some false)))) = some r := by rw [if_pos rfl] at H; exact H
              clear H
              have H := H1
              clear H1
              replace H := Option.bind_eq_some_iff.mp H
              obtain ⟨t513, A300, H⟩ := H
              replace H : ((laws_eqNoteSS.f kj12 t503 t513).bind fun t516 => (if t516 = true then (some true) else (some false))) = some r := H
              have A30 := Aside0.mk A300
              clear A300
              replace H := Option.bind_eq_some_iff.mp H
              obtain ⟨t516, A310, H⟩ := H
              replace H : (if t516 = true then (some true) else (some false)) = some r := H
              have A31 := Aside0.mk A310
              clear A310
              by_cases c32 : t516 = true
              · subst c32
                have H1 : (some true) = some r := by rw [if_pos rfl] at H; exact H
                clear H
                have H := H1
                clear H1
                obtain rfl := Option.some.inj H
                go_wp2_with (first | ((with_reducible refine gate_callee (f := 17) rfl ?_); refine goesL_ (some 59) rfl rfl Try.func17 (by kernel_rfl) rfl #[.slice A0 l0.length c0] rfl (by (try simp only [List.map_toArray, List.map_cons, List.map_nil]); first | done | rfl | (simp only [List.length_drop, List.length_take]; rfl)) ?_; (with_reducible refine (laws_toNoteS.calls kj12 _ _ l0 t509 _ ?side1 ?side2 A27.out).mono ?_); (case side1 => repeat (first | exact (Kd.C_below HR0.out HB.out) | (with_reducible refine Kd.C_alloc ?_ _) | (with_reducible refine Kd.C_drewN ?_ _) | (with_reducible refine Kd.C_drew ?_))); (case side2 => exact HC0.out); rintro e w33 ⟨v510, rfl, ho0, hb⟩; refine ⟨_, rfl, ?_⟩; have n0_ := Aside0.mk (Kd.R_elder' (by (with_reducible repeat (first | apply Kd.R_alloc | apply Kd.R_drewN | apply Kd.R_drew)); exact HO_9.out) (Kd.R_base ho0) hb); have n1_ := Aside0.mk (Kd.S_elder' (by (with_reducible repeat (first | apply Kd.S_alloc | apply Kd.S_drewN | apply Kd.S_drew)); exact HO_10.out) (Kd.R_base ho0) hb); have n2_ := Aside0.mk (Kd.R_lower (Kd.R_new' ho0 (Kd.R_lt (by (with_reducible repeat (first | apply Kd.R_alloc | apply Kd.R_drewN | apply Kd.R_drew)); exact HO_9.out))) (below_size (by repeat (first | (with_reducible first | exact HB.out | apply below_alloc | apply pw_below_drewN | apply below_drew1) | exact HB.out)))); have n3_ := Aside0.mk (below_step (by repeat (first | (with_reducible first | exact HB.out | apply below_alloc | apply pw_below_drewN | apply below_drew1) | exact HB.out)) hb); clear HO_9; clear HO_10; clear HB; have HO_9 := n0_; have HO_10 := n1_; have HO511 := n2_; have HB := n3_; clear n0_ n1_ n2_ n3_; (try clear hb); (try clear hb2); (try clear hk); (try clear hi); (try clear ho0); obtain ⟨Ao34, co34, eo34⟩ := Kd.R_slice HO511.out; subst eo34) | ((with_reducible refine gate_callee (f := 19) rfl ?_); refine goesL_ (some 60) rfl rfl Try.func19 (by kernel_rfl) rfl #[.slice Ao21 t500.length co21, .slice Ao34 t509.length co34] rfl (by (try simp only [List.map_toArray, List.map_cons, List.map_nil]); first | done | rfl | (simp only [List.length_drop, List.length_take]; rfl)) ?_; (with_reducible refine (laws_eqNoteS.calls kj12 _ _ t500 _ _ t509 true _ ?side1 ?side2 ?side3 ?side4 A28.out).mono ?_); (case side1 => repeat (first | exact (Kd.R_reads' HO_9.out).2.2 | (with_reducible refine Kd.C_alloc ?_ _) | (with_reducible refine Kd.C_drewN ?_ _) | (with_reducible refine Kd.C_drew ?_))); (case side2 => exact (Kd.R_reads' HO_9.out).2.1); (case side3 => repeat (first | exact (Kd.R_reads' HO511.out).2.2 | (with_reducible refine Kd.C_alloc ?_ _) | (with_reducible refine Kd.C_drewN ?_ _) | (with_reducible refine Kd.C_drew ?_))); (case side4 => exact (Kd.R_reads' HO511.out).2.1); rintro e w35 ⟨rfl, hb⟩; refine ⟨_, rfl, ?_⟩; have n0_ := Aside0.mk (Kd.R_below (by (with_reducible repeat (first | apply Kd.R_alloc | apply Kd.R_drewN | apply Kd.R_drew)); exact HO_9.out) hb); have n1_ := Aside0.mk (Kd.S_below (by (with_reducible repeat (first | apply Kd.S_alloc | apply Kd.S_drewN | apply Kd.S_drew)); exact HO_10.out) hb); have n2_ := Aside0.mk (Kd.R_below (by (with_reducible repeat (first | apply Kd.R_alloc | apply Kd.R_drewN | apply Kd.R_drew)); exact HO511.out) hb); have n3_ := Aside0.mk (below_step (by repeat (first | (with_reducible first | exact HB.out | apply below_alloc | apply pw_below_drewN | apply below_drew1) | exact HB.out)) hb); clear HO_9; clear HO_10; clear HO511; clear HB; have HO_9 := n0_; have HO_10 := n1_; have HO511 := n2_; have HB := n3_; clear n0_ n1_ n2_ n3_; (try clear hb); (try clear hb2); (try clear hk); (try clear hi)) | ((with_reducible refine gate_callee (f := 37) rfl ?_); refine goesL_ (some 64) rfl rfl Try.func37 (by kernel_rfl) rfl #[.slice A1 l1.length c1] rfl (by (try simp only [List.map_toArray, List.map_cons, List.map_nil]); first | done | rfl | (simp only [List.length_drop, List.length_take]; rfl)) ?_; (with_reducible refine (laws_toNoteSS.calls kj12 _ _ l1 t513 _ ?side1 ?side2 A30.out).mono ?_); (case side1 => repeat (first | exact (Kd.C_below HR1.out HB.out) | (with_reducible refine Kd.C_alloc ?_ _) | (with_reducible refine Kd.C_drewN ?_ _) | (with_reducible refine Kd.C_drew ?_))); (case side2 => exact HC1.out); rintro e w36 ⟨v514, rfl, ho0, hb⟩; refine ⟨_, rfl, ?_⟩; have n0_ := Aside0.mk (Kd.R_below (by (with_reducible repeat (first | apply Kd.R_alloc | apply Kd.R_drewN | apply Kd.R_drew)); exact HO_9.out) hb); have n1_ := Aside0.mk (Kd.S_elder' (by (with_reducible repeat (first | apply Kd.S_alloc | apply Kd.S_drewN | apply Kd.S_drew)); exact HO_10.out) (Kd.S_base ho0) hb); have n2_ := Aside0.mk (Kd.R_below (by (with_reducible repeat (first | apply Kd.R_alloc | apply Kd.R_drewN | apply Kd.R_drew)); exact HO511.out) hb); have n3_ := Aside0.mk (Kd.S_lower (Kd.S_new' (Kd.S_new' (Kd.S_new' ho0 (Kd.R_lt (by (with_reducible repeat (first | apply Kd.R_alloc | apply Kd.R_drewN | apply Kd.R_drew)); exact HO_9.out))) (Kd.S_lt (by (with_reducible repeat (first | apply Kd.S_alloc | apply Kd.S_drewN | apply Kd.S_drew)); exact HO_10.out))) (Kd.R_lt (by (with_reducible repeat (first | apply Kd.R_alloc | apply Kd.R_drewN | apply Kd.R_drew)); exact HO511.out))) (below_size (by repeat (first | (with_reducible first | exact HB.out | apply below_alloc | apply pw_below_drewN | apply below_drew1) | exact HB.out)))); have n4_ := Aside0.mk (below_step (by repeat (first | (with_reducible first | exact HB.out | apply below_alloc | apply pw_below_drewN | apply below_drew1) | exact HB.out)) hb); clear HO_9; clear HO_10; clear HO511; clear HB; have HO_9 := n0_; have HO_10 := n1_; have HO511 := n2_; have HO515 := n3_; have HB := n4_; clear n0_ n1_ n2_ n3_ n4_; (try clear hb); (try clear hb2); (try clear hk); (try clear hi); (try clear ho0); obtain ⟨Ao37, co37, eo37⟩ := Kd.S_slice HO515.out; subst eo37) | ((with_reducible refine gate_callee (f := 39) rfl ?_); refine goesL_ (some 65) rfl rfl Try.func39 (by kernel_rfl) rfl #[.slice Ao22 t503.length co22, .slice Ao37 t513.length co37] rfl (by (try simp only [List.map_toArray, List.map_cons, List.map_nil]); first | done | rfl | (simp only [List.length_drop, List.length_take]; rfl)) ?_; (with_reducible refine (laws_eqNoteSS.calls kj12 _ _ t503 _ _ t513 true _ ?side1 ?side2 ?side3 ?side4 A31.out).mono ?_); (case side1 => repeat (first | exact (Kd.S_reads' HO_10.out).2.2 | (with_reducible refine Kd.C_alloc ?_ _) | (with_reducible refine Kd.C_drewN ?_ _) | (with_reducible refine Kd.C_drew ?_))); (case side2 => exact (Kd.S_reads' HO_10.out).2.1); (case side3 => repeat (first | exact (Kd.S_reads' HO515.out).2.2 | (with_reducible refine Kd.C_alloc ?_ _) | (with_reducible refine Kd.C_drewN ?_ _) | (with_reducible refine Kd.C_drew ?_))); (case side4 => exact (Kd.S_reads' HO515.out).2.1); rintro e w38 ⟨rfl, hb⟩; refine ⟨_, rfl, ?_⟩; have n0_ := Aside0.mk (Kd.R_below (by (with_reducible repeat (first | apply Kd.R_alloc | apply Kd.R_drewN | apply Kd.R_drew)); exact HO_9.out) hb); have n1_ := Aside0.mk (Kd.S_below (by (with_reducible repeat (first | apply Kd.S_alloc | apply Kd.S_drewN | apply Kd.S_drew)); exact HO_10.out) hb); have n2_ := Aside0.mk (Kd.R_below (by (with_reducible repeat (first | apply Kd.R_alloc | apply Kd.R_drewN | apply Kd.R_drew)); exact HO511.out) hb); have n3_ := Aside0.mk (Kd.S_below (by (with_reducible repeat (first | apply Kd.S_alloc | apply Kd.S_drewN | apply Kd.S_drew)); exact HO515.out) hb); have n4_ := Aside0.mk (below_step (by repeat (first | (with_reducible first | exact HB.out | apply below_alloc | apply pw_below_drewN | apply below_drew1) | exact HB.out)) hb); clear HO_9; clear HO_10; clear HO511; clear HO515; clear HB; have HO_9 := n0_; have HO_10 := n1_; have HO511 := n2_; have HO515 := n3_; have HB := n4_; clear n0_ n1_ n2_ n3_ n4_; (try clear hb); (try clear hb2); (try clear hk); (try clear hi)))
                go_ret
                exact ⟨by first | rfl | (simp [errW_none, errW_some] <;> rfl) | (simp [*, errW_none, errW_some] <;> rfl), by repeat (first | (with_reducible first | exact HB.out | apply below_alloc | apply pw_below_drewN | apply below_drew1) | exact HB.out)⟩
              · replace c32 := Bool.eq_false_iff.mpr c32
                subst c32
                have H1 : (some false) = some r := by rw [if_neg (show ¬ (false = true) by decide)] at H; exact H
                clear H
                have H := H1
                clear H1
                exact absurd ((Option.some.inj H).trans HT.out) (by decide)
            · replace c29 := Bool.eq_false_iff.mpr c29
              subst c29
              have H1 : (some false) = some r := by rw [if_neg (show ¬ (false = true) by decide)] at H; exact H
              clear H
              have H := H1
              clear H1
              exact absurd ((Option.some.inj H).trans HT.out) (by decide)

/-- THE ONE PURE STATEMENT of laws_FnExactBestDrone. -/
def laws_FnExactBestDrone.Pure : Prop := ∀ (l0 : List (S77)) (l1 : List (List (S77))), (l0.length ≤ maxLen ∧ ∀ y0 ∈ l0, ((Lit.int .i64 y0.f0).wf = true ∧ (Lit.int .i64 y0.f1).wf = true)) → (l1.length ≤ maxLen ∧ ∀ y0 ∈ l1, (y0.length ≤ maxLen ∧ ∀ y1 ∈ y0, ((Lit.int .i64 y1.f0).wf = true ∧ (Lit.int .i64 y1.f1).wf = true))) → ∃ k, laws_FnExactBestDrone.f k l0 l1 = some true
theorem laws_FnExactBestDrone.walk (P : laws_FnExactBestDrone.Pure) (A0 : Option Addr) (c0 : Nat) (l0 : List (S77)) (A1 : Option Addr) (c1 : Nat) (l1 : List (List (S77))) (w : World) (hr0 : Kd.C k77 w A0 l0.length l0) (hc0 : l0.length ≤ c0) (hr1 : Kd.C (Kd.slice 77 k77) w A1 l1.length l1) (hc1 : l1.length ≤ c1) (w0 : (l0.length ≤ maxLen ∧ ∀ y0 ∈ l0, ((Lit.int .i64 y0.f0).wf = true ∧ (Lit.int .i64 y0.f1).wf = true))) (w1 : (l1.length ≤ maxLen ∧ ∀ y0 ∈ l1, (y0.length ≤ maxLen ∧ ∀ y1 ∈ y0, ((Lit.int .i64 y1.f0).wf = true ∧ (Lit.int .i64 y1.f1).wf = true)))) :
    Calls Try.prog 9 #[.slice A0 l0.length c0, .slice A1 l1.length c1] w fun e w' => e = .returned (.bool true) ∧ Below w.heap.size w w' := by
  obtain ⟨k, h⟩ := P l0 l1 w0 w1
  refine (laws_FnExactBestDrone.calls k _ _ l0 _ _ l1 true w hr0 hc0 hr1 hc1 rfl h).mono ?_
  rintro e w' ⟨rfl, hd⟩
  exact ⟨rfl, hd⟩

end Go.Proofs.Ytlgigomahobfbaa.P
end

section
namespace Go.Proofs.Ytlgigomahobfbaa.Pure
open Go.RowKit Go.Proofs.Ytlgigomahobfbaa.P Go.Proofs.YtlgigomahobfbaaW.PrintWords Go.Proofs.YtlgigomahobfbaaW.PrintLast Go.Proofs.YtlgigomahobfbaaW.PrintMore
set_option linter.unusedVariables false
set_option linter.unusedSimpArgs false

def dB (p : List S75) : Bool := melB p && decide (0 < p.length)
theorem Ev.list {α β : Type} {g : α → Nat → Option β} {r : α → β} : ∀ (l : List α), (∀ p ∈ l, Ev (g p) (r p)) → ∃ K, ∀ k, K ≤ k → ∀ p ∈ l, g p k = some (r p)
  | [], _ => ⟨0, fun _ _ _ h => by simp at h⟩
  | a :: l, h => by
    obtain ⟨K, hK⟩ := Ev.list l (fun p hp => h p (List.mem_cons_of_mem _ hp))
    obtain ⟨K2, hK2⟩ := h a (List.mem_cons_self)
    refine ⟨max K K2, fun k hk p hp => ?_⟩
    rcases List.mem_cons.1 hp with e | e
    · subst e
      exact hK2 k (by omega)
    · exact hK k (by omega) p e
theorem impl_drone_any_ev (ds : List (List S75)) (h : ∀ p ∈ ds, p.length ≤ 9223372036854775807) : Ev (fun k => impl_drone_any.f k ds) (ds.any fun p => !dB p) := by
  obtain ⟨K, hK⟩ := Ev.list (g := fun p k => impl_BestDrone_1.f k p) (r := fun p => !dB p) ds (fun p hp => by
    unfold impl_BestDrone_1.f
    exact Ev.bind (impl_droneOk_ev p (h p hp)) (Ev.now _))
  refine ⟨K, fun k hk => ?_⟩
  have e := hK k hk
  show impl_drone_any.f k ds = _
  unfold impl_drone_any.f
  rw [if_pos (List.all_eq_true.2 fun p hp => by rw [e p hp]; rfl)]
  congr 1
  rw [Bool.eq_iff_iff, List.any_eq_true, List.any_eq_true]
  exact ⟨fun ⟨p, hp, hq⟩ => ⟨p, hp, by rw [e p hp] at hq; simpa using hq⟩, fun ⟨p, hp, hq⟩ => ⟨p, hp, by rw [e p hp]; simpa using hq⟩⟩
theorem spec_BestDrone_l0 (m : List S75) (ds : List (List S75)) (hl : ds.length ≤ 1048576) (hr : ∀ j, j < ds.length → (rd_L5 ds j).length ≤ 1048576) (r : Int × Int × Int) (h : (ds.any fun p => !dB p) = false → Ev (fun k => if (ds.length : Int) > 8 then some (0, 0, 2) else ((spec_l16Units.f k m).bind fun t => (spec_BestDrone.l1 k ds (-1) 0 t 0))) r) (h2 : (ds.any fun p => !dB p) = true → r = (0, 0, 1)) : ∀ (d i : Nat), ds.length - i = d → i ≤ ds.length → (∀ j, j < i → ∀ hj : j < ds.length, dB ds[j] = true) → Ev (fun k => spec_BestDrone.l0 k m ds i) r := by
  intro d
  induction d with
  | zero =>
    intro i hd hi hj
    refine Ev.succ ?_
    simp only [spec_BestDrone.l0]
    refine Ev.ite_neg (by omega) (h ?_)
    rw [List.any_eq_false]
    intro p hp
    obtain ⟨j, hj', rfl⟩ := List.getElem_of_mem hp
    simp [hj j (by omega) hj']
  | succ d ih =>
    intro i hd hi hj
    have hi' : i < ds.length := by omega
    have hb := hr i hi'
    refine Ev.succ ?_
    simp only [spec_BestDrone.l0]
    rw [w64 (x := (i : Int) + 1) (by omega) (by omega)]
    refine Ev.ite_pos (by omega) (Ev.ite_pos (by omega) (Ev.bind (spec_l16Drone_ev _ (by omega)) ?_))
    rw [rdN5_at hi']
    cases q : dB ds[i] with
    | true =>
      refine Ev.ite_pos q ?_
      have := ih (i + 1) (by omega) (by omega) (fun j h1 h3 => by
        by_cases e : j = i
        · subst e
          exact q
        · exact hj j (by omega) h3)
      simpa using this
    | false =>
      rw [h2 (List.any_eq_true.2 ⟨ds[i], List.getElem_mem hi', by rw [q]; rfl⟩)]
      exact Ev.ite_neg (by rw [show (melB ds[i] && decide (0 < ds[i].length)) = false from q]; decide) (Ev.now _)
theorem best_run (m : List S75) (ds : List (List S75)) (hm : melB m = true) (hl : ds.length ≤ 8) (hd : ∀ p ∈ ds, dB p = true) : ∀ (d i : Nat) (b v : Int), ds.length - i = d → i ≤ ds.length → 0 ≤ b → ∃ r, Ev (fun k => spec_BestDrone.l1 k ds b v (unitsM m) i) r ∧ Ev (fun k => impl_BestDrone.l0 k m b v ds ds.length i) r := by
  intro d
  induction d with
  | zero =>
    intro i b v hc hi hb
    refine ⟨(b, v, 0), Ev.succ ?_, Ev.succ ?_⟩
    · simp only [spec_BestDrone.l1]
      exact Ev.ite_neg (by omega) (Ev.ite_neg (by omega) (Ev.now _))
    · simp only [impl_BestDrone.l0]
      exact Ev.ite_neg (by omega) (Ev.now _)
  | succ d ih =>
    intro i b v hc hi hb
    have hi' : i < ds.length := by omega
    have hp := hd ds[i] (List.getElem_mem hi')
    simp only [dB, Bool.and_eq_true, decide_eq_true_eq] at hp
    have h3 := unitsM_len m (melB_all hm).1
    have h4 := (melB_all hm).2
    have w1 : wrap64 ((i : Int) + 1) = ((i + 1 : Nat) : Int) := by rw [w64 (by omega) (by omega)]; omega
    have f1 : (i : Int) < (ds.length : Int) := by omega
    have f2 : (0 : Int) ≤ (i : Int) := by omega
    have f3 : ¬ b < 0 := by omega
    by_cases q : consS (unitsM m) (unitsM ds[i]) 0 > v
    · obtain ⟨r, es, ei⟩ := ih (i + 1) i (consS (unitsM m) (unitsM ds[i]) 0) (by omega) (by omega) f2
      refine ⟨r, Ev.succ ?_, Ev.succ ?_⟩
      · simp only [spec_BestDrone.l1, w1]
        rw [rdN5_at hi']
        exact Ev.ite_pos f1 (Ev.ite_pos f2 (Ev.bind (spec_l16Units_ev _ hp.1) (Ev.bind (spec_l16Sum_ev m _ hm hp.1 hp.2 0 (by omega) (by omega)) (Ev.ite_neg f3 (Ev.ite_pos q es)))))
      · simp only [impl_BestDrone.l0, w1]
        rw [rdN5_at hi']
        exact Ev.ite_pos f1 (Ev.ite_pos f2 (Ev.ite_pos f1 (Ev.bind (impl_consonances_ev m _ hm hp.1 hp.2 0 (by omega) (by omega)) (Ev.bind (impl_sum_cons _ _ _ (by omega)) (Ev.ite_pos q ei)))))
    · obtain ⟨r, es, ei⟩ := ih (i + 1) b v (by omega) (by omega) hb
      refine ⟨r, Ev.succ ?_, Ev.succ ?_⟩
      · simp only [spec_BestDrone.l1, w1]
        rw [rdN5_at hi']
        exact Ev.ite_pos f1 (Ev.ite_pos f2 (Ev.bind (spec_l16Units_ev _ hp.1) (Ev.bind (spec_l16Sum_ev m _ hm hp.1 hp.2 0 (by omega) (by omega)) (Ev.ite_neg f3 (Ev.ite_neg q es)))))
      · simp only [impl_BestDrone.l0, w1]
        rw [rdN5_at hi']
        exact Ev.ite_pos f1 (Ev.ite_pos f2 (Ev.ite_pos f1 (Ev.bind (impl_consonances_ev m _ hm hp.1 hp.2 0 (by omega) (by omega)) (Ev.bind (impl_sum_cons _ _ _ (by omega)) (Ev.ite_neg q ei)))))
theorem best_first (m : List S75) (ds : List (List S75)) (hm : melB m = true) (hl : ds.length ≤ 8) (h0 : 0 < ds.length) (hd : ∀ p ∈ ds, dB p = true) : ∃ r, Ev (fun k => spec_BestDrone.l1 k ds (-1) 0 (unitsM m) 0) r ∧ Ev (fun k => impl_BestDrone.l0 k m 0 (-1) ds ds.length 0) r := by
  have hp := hd ds[0] (List.getElem_mem h0)
  simp only [dB, Bool.and_eq_true, decide_eq_true_eq] at hp
  have h3 := unitsM_len m (melB_all hm).1
  have h4 := (melB_all hm).2
  have hb := consS_bound (unitsM m) (unitsM ds[0]) 0
  have w1 : wrap64 ((0 : Int) + 1) = ((1 : Nat) : Int) := w64 (by omega) (by omega)
  have e0 : rd_L5 ds 0 = ds[0] := rdN5_at (i := 0) h0
  have f1 : (0 : Int) < (ds.length : Int) := by omega
  obtain ⟨r, es, ei⟩ := best_run m ds hm hl hd (ds.length - 1) 1 0 (consS (unitsM m) (unitsM ds[0]) 0) rfl (by omega) (by omega)
  refine ⟨r, Ev.succ ?_, Ev.succ ?_⟩
  · simp only [spec_BestDrone.l1, w1, e0]
    exact Ev.ite_pos f1 (Ev.ite_pos (by omega) (Ev.bind (spec_l16Units_ev _ hp.1) (Ev.bind (spec_l16Sum_ev m _ hm hp.1 hp.2 0 (by omega) (by omega)) (Ev.ite_pos (by omega) es))))
  · simp only [impl_BestDrone.l0, w1, e0]
    exact Ev.ite_pos f1 (Ev.ite_pos (by omega) (Ev.ite_pos f1 (Ev.bind (impl_consonances_ev m _ hm hp.1 hp.2 0 (by omega) (by omega)) (Ev.bind (impl_sum_cons _ _ _ (by omega)) (Ev.ite_pos (by omega) ei)))))
theorem bothBestDrone (m : List S75) (ds : List (List S75)) (hm : m.length ≤ 1048576) (hl : ds.length ≤ 1048576) (hr : ∀ j, j < ds.length → (rd_L5 ds j).length ≤ 1048576) : ∃ r, Ev (fun k => spec_BestDrone.f k m ds) r ∧ Ev (fun k => impl_BestDrone.f k m ds) r := by
  have hr2 : ∀ p ∈ ds, p.length ≤ 9223372036854775807 := by
    intro p hp
    obtain ⟨j, hj, rfl⟩ := List.getElem_of_mem hp
    have := hr j hj
    rw [rdN5_at hj] at this
    omega
  cases v : melB m with
  | false =>
    refine ⟨(0, 0, 1), ?_, ?_⟩
    · unfold spec_BestDrone.f
      exact Ev.bind (spec_l09Ok_ev m (by omega)) (Ev.ite_neg (by rw [v]; decide) (Ev.now _))
    · unfold impl_BestDrone.f
      refine Ev.bind (impl_ValidMelody_ev m (by omega)) (Ev.ite_neg (by rw [v]; decide) (Ev.succ ?_))
      simp only [impl_BestDrone.j0]
      exact Ev.ite_pos trivial (Ev.now _)
  | true =>
    have S : ∀ r, ((ds.any fun p => !dB p) = false → Ev (fun k => if (ds.length : Int) > 8 then some (0, 0, 2) else ((spec_l16Units.f k m).bind fun t => (spec_BestDrone.l1 k ds (-1) 0 t 0))) r) → ((ds.any fun p => !dB p) = true → r = (0, 0, 1)) → Ev (fun k => spec_BestDrone.f k m ds) r := by
      intro r h1 h2
      unfold spec_BestDrone.f
      exact Ev.bind (spec_l09Ok_ev m (by omega)) (Ev.ite_pos v (spec_BestDrone_l0 m ds hl hr r h1 h2 ds.length 0 (by omega) (by omega) (fun j h => by omega)))
    have I : ∀ r, Ev (fun k => impl_BestDrone.j0 k m ds (ds.any fun p => !dB p)) r → Ev (fun k => impl_BestDrone.f k m ds) r := by
      intro r h
      unfold impl_BestDrone.f
      exact Ev.bind (impl_ValidMelody_ev m (by omega)) (Ev.ite_pos v (Ev.bind (impl_drone_any_ev ds hr2) h))
    cases w : (ds.any fun p => !dB p) with
    | true =>
      refine ⟨(0, 0, 1), S _ (fun h => by rw [w] at h; cases h) (fun _ => rfl), I _ ?_⟩
      rw [w]
      refine Ev.succ ?_
      simp only [impl_BestDrone.j0]
      exact Ev.ite_pos trivial (Ev.now _)
    | false =>
      have hd : ∀ p ∈ ds, dB p = true := by
        intro p hp
        have := List.any_eq_false.1 w p hp
        simpa using this
      by_cases g : (ds.length : Int) > 8
      · refine ⟨(0, 0, 2), S _ (fun _ => Ev.ite_pos g (Ev.now _)) (fun h => by rw [w] at h; cases h), I _ ?_⟩
        rw [w]
        refine Ev.succ ?_
        simp only [impl_BestDrone.j0]
        exact Ev.ite_neg (by decide) (Ev.ite_pos g (Ev.now _))
      · by_cases z : ds.length = 0
        · refine ⟨(0, 0, 3), S _ (fun _ => Ev.ite_neg g (Ev.bind (spec_l16Units_ev m v) (Ev.succ ?_))) (fun h => by rw [w] at h; cases h), I _ ?_⟩
          · simp only [spec_BestDrone.l1]
            exact Ev.ite_neg (by omega) (Ev.ite_pos (by omega) (Ev.now _))
          · rw [w]
            refine Ev.succ ?_
            simp only [impl_BestDrone.j0]
            exact Ev.ite_neg (by decide) (Ev.ite_neg g (Ev.ite_pos (by omega) (Ev.now _)))
        · obtain ⟨r, es, ei⟩ := best_first m ds v (by omega) (by omega) hd
          refine ⟨r, S _ (fun _ => Ev.ite_neg g (Ev.bind (spec_l16Units_ev m v) es)) (fun h => by rw [w] at h; cases h), I _ ?_⟩
          rw [w]
          refine Ev.succ ?_
          simp only [impl_BestDrone.j0]
          exact Ev.ite_neg (by decide) (Ev.ite_neg g (Ev.ite_neg (by omega) ei))
theorem FnExactBestDrone : laws_FnExactBestDrone.Pure := by
  intro a b ⟨ha, _⟩ ⟨hb, hbr⟩
  have e : maxLen ≤ 9223372036854775807 := by decide
  refine Ev.out (r := true) ?_
  unfold laws_FnExactBestDrone.f
  refine Ev.bindc (szNoteS_eq a _ (by omega) (by omega) (Nat.le_trans ha e)) ?_
  by_cases h : (1048576 : Int) - a.length < 0
  · rw [if_pos h]
    exact Ev.ite_pos (by omega) (Ev.now _)
  rw [if_neg h]
  refine Ev.ite_neg h ?_
  obtain ⟨t, et, ct⟩ := szNoteSS_ge b (1048576 - a.length) (by omega) (by omega) (Nat.le_trans hb e) (fun y hy => Nat.le_trans (hbr y hy).1 e)
  refine Ev.bind et ?_
  rcases ct with ct | ⟨_, _, lb, lr⟩
  · exact Ev.ite_pos ct (Ev.now _)
  refine Ev.ite_neg (by omega) ?_
  have hs := toNoteS_ev a (by omega)
  have ht := toNoteSS_ev b lb lr
  have hm : (a.map noteOf).length ≤ 1048576 := by simp; omega
  have hn : (notesOf b).length ≤ 1048576 := by simpa [notesOf] using lb
  obtain ⟨r, es, ei⟩ := bothBestDrone (a.map noteOf) (notesOf b) hm hn (notesOf_rd b lr)
  refine Ev.bind hs (Ev.bind ht (Ev.bind es (Ev.bind hs (Ev.bind ht (Ev.bind ei ?_)))))
  refine Ev.ite_pos rfl (Ev.ite_pos rfl (Ev.succ ?_))
  simp only [laws_FnExactBestDrone.j0]
  refine Ev.ite_neg (by simp) ?_
  refine Ev.bind hs (Ev.bind (eqNoteS_self _ (by omega)) (Ev.ite_pos rfl ?_))
  exact Ev.bind ht (Ev.bind (eqNoteSS_self _ hn (notesOf_rd b lr)) (Ev.ite_pos rfl (Ev.now _)))

end Go.Proofs.Ytlgigomahobfbaa.Pure
end
