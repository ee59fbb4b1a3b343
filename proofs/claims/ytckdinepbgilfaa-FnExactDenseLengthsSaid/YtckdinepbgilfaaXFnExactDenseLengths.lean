/- The pure statement of FnExactDenseLengths: all pairs in bounds are reckoned by the kernel. No condition. -/
import Derived.Test.YtckdinepbgilfaaGb1
import Derived.Test.YtckdinepbgilfaaGb2
section
namespace Go.Proofs.Ytckdinepbgilfaa.P
open Go.RowKit Go.Proofs.YtckdinepbgilfaaW.PrintWords Go.Proofs.YtckdinepbgilfaaW.PrintLast Go.Proofs.YtckdinepbgilfaaW.PrintMore
attribute [local go_sem] max2_int min2_int max_two min_two max_three min_three max_four min_four   -- for this text's walks alone
set_option linter.unusedVariables false
set_option linter.unusedSimpArgs false

/-! ### laws_FnExactDenseLengths: function 8 -/
mutual
def laws_FnExactDenseLengths.j0 : Nat → Int → Int → List Int → Int → List Int → Bool → Option (Bool)
  | 0, _, _, _, _, _, _ => none
  | k + 1, x0, x1, x5, x6, x7, x33 => if x33 = true then (some false) else ((laws_markInt64S.f k x7 1).bind fun bt234 => ((laws_heldInt64S.f k bt234.2 1).bind fun t236 => (if t236 < 0 then (some false) else (if t236 = bt234.1 then ((impl_DenseLengths.f k x0 x1).bind fun bt237 => ((laws_eqInt64S.f k bt237.1 x5).bind fun t241 => (if t241 = true then (laws_FnExactDenseLengths.j1 k bt234.2 bt234.1 (bt237.2 != x6)) else (laws_FnExactDenseLengths.j1 k bt234.2 bt234.1 true)))) else (some false)))))
def laws_FnExactDenseLengths.j1 : Nat → List Int → Int → Bool → Option (Bool)
  | 0, _, _, _ => none
  | k + 1, x7, x9, x59 => if x59 = true then (some false) else ((laws_heldInt64S.f k x7 1).bind fun t242 => (if t242 < 0 then (some false) else (if t242 = x9 then (some true) else (some false))))
end
def laws_FnExactDenseLengths.f (k : Nat) (a0 : Int) (a1 : Int) : Option (Bool) := (spec_DenseLengths.f k a0 a1).bind fun bt225 => ((impl_DenseLengths.f k a0 a1).bind fun bt229 => ((laws_eqInt64S.f k bt229.1 bt225.1).bind fun t233 => (if t233 = true then (laws_FnExactDenseLengths.j0 k a0 a1 bt225.1 bt225.2 bt229.1 (bt229.2 != bt225.2)) else (laws_FnExactDenseLengths.j0 k a0 a1 bt225.1 bt225.2 bt229.1 true))))
theorem laws_FnExactDenseLengths.mono_l : ∀ k, (∀ y0 y1 y2 y3 y4 y5, LeO (laws_FnExactDenseLengths.j0 k y0 y1 y2 y3 y4 y5) (laws_FnExactDenseLengths.j0 (k + 1) y0 y1 y2 y3 y4 y5)) ∧ (∀ y0 y1 y2, LeO (laws_FnExactDenseLengths.j1 k y0 y1 y2) (laws_FnExactDenseLengths.j1 (k + 1) y0 y1 y2))
  | 0 => ⟨fun _ _ _ _ _ _ r h => by simp [laws_FnExactDenseLengths.j0] at h, fun _ _ _ r h => by simp [laws_FnExactDenseLengths.j1] at h⟩
  | k + 1 => by
    obtain ⟨ih0, ih1⟩ := laws_FnExactDenseLengths.mono_l k
    refine ⟨?_, ?_⟩
    · intro y0 y1 y2 y3 y4 y5
      unfold laws_FnExactDenseLengths.j0
      repeat' first
      | (with_reducible exact ih0 _ _ _ _ _ _)
      | (with_reducible exact ih1 _ _ _)
      | (with_reducible exact impl_DenseLengths.mono _ _ _)
      | (with_reducible exact laws_eqInt64S.mono _ _ _)
      | (with_reducible exact laws_heldInt64S.mono _ _ _)
      | (with_reducible exact laws_markInt64S.mono _ _ _)
      | (with_reducible exact spec_DenseLengths.mono _ _ _)
      | (with_reducible exact LeO.refl _)
      | (with_reducible exact LeO.none _)
      | (with_reducible refine LeO.ite ?_ ?_)
      | (with_reducible refine LeO.bind ?_ (fun _ => ?_))
      | exact ih0 _ _ _ _ _ _
      | exact ih1 _ _ _
      | exact impl_DenseLengths.mono _ _ _
      | exact laws_eqInt64S.mono _ _ _
      | exact laws_heldInt64S.mono _ _ _
      | exact laws_markInt64S.mono _ _ _
      | exact spec_DenseLengths.mono _ _ _
      | exact LeO.none _
      | refine LeO.ite ?_ ?_
      | refine LeO.bind ?_ (fun _ => ?_)
    · intro y0 y1 y2
      unfold laws_FnExactDenseLengths.j1
      repeat' first
      | (with_reducible exact ih0 _ _ _ _ _ _)
      | (with_reducible exact ih1 _ _ _)
      | (with_reducible exact impl_DenseLengths.mono _ _ _)
      | (with_reducible exact laws_eqInt64S.mono _ _ _)
      | (with_reducible exact laws_heldInt64S.mono _ _ _)
      | (with_reducible exact laws_markInt64S.mono _ _ _)
      | (with_reducible exact spec_DenseLengths.mono _ _ _)
      | (with_reducible exact LeO.refl _)
      | (with_reducible exact LeO.none _)
      | (with_reducible refine LeO.ite ?_ ?_)
      | (with_reducible refine LeO.bind ?_ (fun _ => ?_))
      | exact ih0 _ _ _ _ _ _
      | exact ih1 _ _ _
      | exact impl_DenseLengths.mono _ _ _
      | exact laws_eqInt64S.mono _ _ _
      | exact laws_heldInt64S.mono _ _ _
      | exact laws_markInt64S.mono _ _ _
      | exact spec_DenseLengths.mono _ _ _
      | exact LeO.none _
      | refine LeO.ite ?_ ?_
      | refine LeO.bind ?_ (fun _ => ?_)
theorem laws_FnExactDenseLengths.mono : ∀ a0 a1 k, LeO (laws_FnExactDenseLengths.f k a0 a1) (laws_FnExactDenseLengths.f (k + 1) a0 a1) := by
  intro a0 a1 k
  obtain ⟨ih0, ih1⟩ := laws_FnExactDenseLengths.mono_l k
  unfold laws_FnExactDenseLengths.f
  repeat' first
      | (with_reducible exact ih0 _ _ _ _ _ _)
      | (with_reducible exact ih1 _ _ _)
      | (with_reducible exact impl_DenseLengths.mono _ _ _)
      | (with_reducible exact laws_eqInt64S.mono _ _ _)
      | (with_reducible exact laws_heldInt64S.mono _ _ _)
      | (with_reducible exact laws_markInt64S.mono _ _ _)
      | (with_reducible exact spec_DenseLengths.mono _ _ _)
      | (with_reducible exact LeO.refl _)
      | (with_reducible exact LeO.none _)
      | (with_reducible refine LeO.ite ?_ ?_)
      | (with_reducible refine LeO.bind ?_ (fun _ => ?_))
      | exact ih0 _ _ _ _ _ _
      | exact ih1 _ _ _
      | exact impl_DenseLengths.mono _ _ _
      | exact laws_eqInt64S.mono _ _ _
      | exact laws_heldInt64S.mono _ _ _
      | exact laws_markInt64S.mono _ _ _
      | exact spec_DenseLengths.mono _ _ _
      | exact LeO.none _
      | refine LeO.ite ?_ ?_
      | refine LeO.bind ?_ (fun _ => ?_)
set_option maxHeartbeats 8000000 in
set_option maxRecDepth 100000 in
theorem laws_FnExactDenseLengths.calls (k : Nat) (a0 : Int) (a1 : Int) (r : Bool) (w : World) (hT : r = true) (h : laws_FnExactDenseLengths.f k a0 a1 = some r) :
    Calls Try.prog 8 #[.int .i64 a0, .int .i64 a1] w fun e w' => e = .returned (.bool r) ∧ Below w.heap.size w w' := by
  have HT := Aside0.mk hT
  clear hT
  have HB := Aside0.mk (Below.refl w.heap.size w)
  have H : ((spec_DenseLengths.f k a0 a1).bind fun bt225 => ((impl_DenseLengths.f k a0 a1).bind fun bt229 => ((laws_eqInt64S.f k bt229.1 bt225.1).bind fun t233 => (if t233 = true then (laws_FnExactDenseLengths.j0 k a0 a1 bt225.1 bt225.2 bt229.1 (bt229.2 != bt225.2)) else (laws_FnExactDenseLengths.j0 k a0 a1 bt225.1 bt225.2 bt229.1 true))))) = some r := h
  clear h
  replace H := Option.bind_eq_some_iff.mp H
  obtain ⟨⟨t225, t226⟩, A30, H⟩ := H
  replace H : ((impl_DenseLengths.f k a0 a1).bind fun bt229 => ((laws_eqInt64S.f k bt229.1 t225).bind fun t233 => (if t233 = true then (laws_FnExactDenseLengths.j0 k a0 a1 t225 t226 bt229.1 (bt229.2 != t226)) else (laws_FnExactDenseLengths.j0 k a0 a1 t225 t226 bt229.1 true)))) = some r := H
  have A3 := Aside0.mk A30
  clear A30
  replace H := Option.bind_eq_some_iff.mp H
  obtain ⟨⟨t229, t230⟩, A40, H⟩ := H
  replace H : ((laws_eqInt64S.f k t229 t225).bind fun t233 => (if t233 = true then (laws_FnExactDenseLengths.j0 k a0 a1 t225 t226 t229 (t230 != t226)) else (laws_FnExactDenseLengths.j0 k a0 a1 t225 t226 t229 true))) = some r := H
  have A4 := Aside0.mk A40
  clear A40
  have HC5 := Aside0.mk H
  clear H
  go_enter Try.func8, Try.ntmps8
  go_upto_region 3 with (first | ((with_reducible refine gate_callee (f := 27) rfl ?_); refine goesL_ (some 16) rfl rfl Try.func27 (by kernel_rfl) rfl #[.int .i64 a0, .int .i64 a1] rfl (by (try simp only [List.map_toArray, List.map_cons, List.map_nil]); first | done | rfl | (simp only [List.length_drop, List.length_take]; rfl)) ?_; (with_reducible refine (spec_DenseLengths.calls k a0 a1 t225 t226 _ A3.out).mono ?_); rintro e w6 ⟨v227, rfl, ho0, hb⟩; refine ⟨_, rfl, ?_⟩; have n0_ := Aside0.mk (Kd.R_lower ho0 (below_size (by repeat (first | (with_reducible first | exact HB.out | apply below_alloc | apply pw_below_drewN | apply below_drew1) | exact HB.out)))); have n1_ := Aside0.mk (below_step (by repeat (first | (with_reducible first | exact HB.out | apply below_alloc | apply pw_below_drewN | apply below_drew1) | exact HB.out)) hb); clear HB; have HO228 := n0_; have HB := n1_; clear n0_ n1_; (try clear hb); (try clear hb2); (try clear hk); (try clear hi); (try clear ho0)) | ((with_reducible refine gate_callee (f := 28) rfl ?_); refine goesL_ (some 22) rfl rfl Try.func28 (by kernel_rfl) rfl #[.int .i64 a0, .int .i64 a1] rfl (by (try simp only [List.map_toArray, List.map_cons, List.map_nil]); first | done | rfl | (simp only [List.length_drop, List.length_take]; rfl)) ?_; (with_reducible refine (impl_DenseLengths.calls k a0 a1 t229 t230 _ A4.out).mono ?_); rintro e w7 ⟨v231, rfl, ho0, hb⟩; refine ⟨_, rfl, ?_⟩; have n0_ := Aside0.mk (Kd.R_elder' (by (with_reducible repeat (first | apply Kd.R_alloc | apply Kd.R_drewN | apply Kd.R_drew)); exact HO228.out) (Kd.R_base ho0) hb); have n1_ := Aside0.mk (Kd.R_lower (Kd.R_new' ho0 (Kd.R_lt (by (with_reducible repeat (first | apply Kd.R_alloc | apply Kd.R_drewN | apply Kd.R_drew)); exact HO228.out))) (below_size (by repeat (first | (with_reducible first | exact HB.out | apply below_alloc | apply pw_below_drewN | apply below_drew1) | exact HB.out)))); have n2_ := Aside0.mk (below_step (by repeat (first | (with_reducible first | exact HB.out | apply below_alloc | apply pw_below_drewN | apply below_drew1) | exact HB.out)) hb); clear HO228; clear HB; have HO228 := n0_; have HO232 := n1_; have HB := n2_; clear n0_ n1_ n2_; (try clear hb); (try clear hb2); (try clear hk); (try clear hi); (try clear ho0)))
  (try simp only [Act.put, List.setIfInBounds_toArray, List.set_cons_zero, List.set_cons_succ])
  go_cut [33] (fun v33 wc => ∃ (kq : Nat) (x33_4 : Bool), v33 = .bool x33_4 ∧ Aside0 (laws_FnExactDenseLengths.j0 kq a0 a1 t225 t226 t229 x33_4 = some r) ∧ Aside0 (kq ≤ k) ∧ Aside0 (Kd.R (Kd.int .i64) 2 wc w.heap.size (fun k_ => some k_ ≠ (v231 : Value).ownBlock) v227 t225) ∧ Aside0 (Kd.R (Kd.int .i64) 2 wc w.heap.size (fun k_ => some k_ ≠ (v227 : Value).ownBlock) v231 t229) ∧ Aside0 (Below w.heap.size w wc))
  case first =>
    have H := HC5.out
    clear HC5
    replace H := Option.bind_eq_some_iff.mp H
    obtain ⟨t233, A80, H⟩ := H
    replace H : (if t233 = true then (laws_FnExactDenseLengths.j0 k a0 a1 t225 t226 t229 (t230 != t226)) else (laws_FnExactDenseLengths.j0 k a0 a1 t225 t226 t229 true)) = some r := H
    have A8 := Aside0.mk A80
    clear A80
    by_cases c9 : t233 = true
    · subst c9
      have H1 : (laws_FnExactDenseLengths.j0 k a0 a1 t225 t226 t229 (t230 != t226)) = some r := by rw [if_pos rfl] at H; exact H
      clear H
      have H := H1
      clear H1
      have H' := Aside0.mk H
      clear H
      obtain ⟨Ao10, co10, eo10⟩ := Kd.R_slice HO232.out
      subst eo10
      obtain ⟨Ao11, co11, eo11⟩ := Kd.R_slice HO228.out
      subst eo11
      go_wp2_with (first | ((with_reducible refine gate_callee (f := 26) rfl ?_); refine goesL_ (some 27) rfl rfl Try.func26 (by kernel_rfl) rfl #[.slice Ao10 t229.length co10, .slice Ao11 t225.length co11] rfl (by (try simp only [List.map_toArray, List.map_cons, List.map_nil]); first | done | rfl | (simp only [List.length_drop, List.length_take]; rfl)) ?_; (with_reducible refine (laws_eqInt64S.calls k _ _ t229 _ _ t225 true _ ?side1 ?side2 ?side3 ?side4 A8.out).mono ?_); (case side1 => repeat (first | exact (Kd.R_reads' HO232.out).2.2 | (with_reducible refine Kd.C_alloc ?_ _) | (with_reducible refine Kd.C_drewN ?_ _) | (with_reducible refine Kd.C_drew ?_))); (case side2 => exact (Kd.R_reads' HO232.out).2.1); (case side3 => repeat (first | exact (Kd.R_reads' HO228.out).2.2 | (with_reducible refine Kd.C_alloc ?_ _) | (with_reducible refine Kd.C_drewN ?_ _) | (with_reducible refine Kd.C_drew ?_))); (case side4 => exact (Kd.R_reads' HO228.out).2.1); rintro e w' ⟨rfl, ⟨nd, rfl⟩⟩; refine ⟨_, rfl, ?_⟩))
      go_meet
      case rel => exact ⟨_, ((t230 != t226)), (by first | rfl | (simp; done) | (simp [*]; done)), H', ⟨by first | omega | exact Nat.le_refl _⟩, ⟨by (with_reducible repeat (first | apply Kd.R_alloc | apply Kd.R_drewN | apply Kd.R_drew)); exact Kd.R_mono HO228.out (fun _ hk => hk.2)⟩, ⟨by (with_reducible repeat (first | apply Kd.R_alloc | apply Kd.R_drewN | apply Kd.R_drew)); exact Kd.R_mono HO232.out (fun _ hk => hk.2)⟩, ⟨by repeat (first | (with_reducible first | exact HB.out | apply below_alloc | apply pw_below_drewN | apply below_drew1) | exact HB.out)⟩⟩
    · replace c9 := Bool.eq_false_iff.mpr c9
      subst c9
      have H1 : (laws_FnExactDenseLengths.j0 k a0 a1 t225 t226 t229 true) = some r := by rw [if_neg (show ¬ (false = true) by decide)] at H; exact H
      clear H
      have H := H1
      clear H1
      have H' := Aside0.mk H
      clear H
      obtain ⟨Ao12, co12, eo12⟩ := Kd.R_slice HO232.out
      subst eo12
      obtain ⟨Ao13, co13, eo13⟩ := Kd.R_slice HO228.out
      subst eo13
      go_wp2_with (first | ((with_reducible refine gate_callee (f := 26) rfl ?_); refine goesL_ (some 27) rfl rfl Try.func26 (by kernel_rfl) rfl #[.slice Ao12 t229.length co12, .slice Ao13 t225.length co13] rfl (by (try simp only [List.map_toArray, List.map_cons, List.map_nil]); first | done | rfl | (simp only [List.length_drop, List.length_take]; rfl)) ?_; (with_reducible refine (laws_eqInt64S.calls k _ _ t229 _ _ t225 false _ ?side1 ?side2 ?side3 ?side4 A8.out).mono ?_); (case side1 => repeat (first | exact (Kd.R_reads' HO232.out).2.2 | (with_reducible refine Kd.C_alloc ?_ _) | (with_reducible refine Kd.C_drewN ?_ _) | (with_reducible refine Kd.C_drew ?_))); (case side2 => exact (Kd.R_reads' HO232.out).2.1); (case side3 => repeat (first | exact (Kd.R_reads' HO228.out).2.2 | (with_reducible refine Kd.C_alloc ?_ _) | (with_reducible refine Kd.C_drewN ?_ _) | (with_reducible refine Kd.C_drew ?_))); (case side4 => exact (Kd.R_reads' HO228.out).2.1); rintro e w' ⟨rfl, ⟨nd, rfl⟩⟩; refine ⟨_, rfl, ?_⟩))
      go_meet
      case rel => exact ⟨_, (true), (by first | rfl | (simp; done) | (simp [*]; done)), H', ⟨by first | omega | exact Nat.le_refl _⟩, ⟨by (with_reducible repeat (first | apply Kd.R_alloc | apply Kd.R_drewN | apply Kd.R_drew)); exact Kd.R_mono HO228.out (fun _ hk => hk.2)⟩, ⟨by (with_reducible repeat (first | apply Kd.R_alloc | apply Kd.R_drewN | apply Kd.R_drew)); exact Kd.R_mono HO232.out (fun _ hk => hk.2)⟩, ⟨by repeat (first | (with_reducible first | exact HB.out | apply below_alloc | apply pw_below_drewN | apply below_drew1) | exact HB.out)⟩⟩
  case rest =>
    clear HC5
    try clear c2
    try clear p2
    try clear c8
    try clear c9
    obtain ⟨kq, x33_4, rfl, HA, HJ4, HO_5, HO_7, HB⟩ := hcut
    cases kq with
    | zero => exact absurd HA.out (by simp [laws_FnExactDenseLengths.j0])
    | succ kj4 =>
      have H := HA.out
      clear HA
      simp only [laws_FnExactDenseLengths.j0] at H
      by_cases c14 : x33_4 = true
      · subst c14
        have H1 : (some false) = some r := by rw [if_pos rfl] at H; exact H
        clear H
        have H := H1
        clear H1
        exact absurd ((Option.some.inj H).trans HT.out) (by decide)
      · replace c14 := Bool.eq_false_iff.mpr c14
        subst c14
        have H1 : ((laws_markInt64S.f kj4 t229 1).bind fun bt234 => ((laws_heldInt64S.f kj4 bt234.2 1).bind fun t236 => (if t236 < 0 then (some false) else (if t236 = bt234.1 then ((impl_DenseLengths.f kj4 a0 a1).bind fun bt237 => ((laws_eqInt64S.f kj4 bt237.1 t225).bind fun t241 => (if t241 = true then (laws_FnExactDenseLengths.j1 kj4 bt234.2 bt234.1 (bt237.2 != t226)) else (laws_FnExactDenseLengths.j1 kj4 bt234.2 bt234.1 true)))) else (some false))))) = some r := by rw [if_neg (show ¬ (false = true) by decide)] at H; exact H
        clear H
        have H := H1
        clear H1
        replace H := Option.bind_eq_some_iff.mp H
        obtain ⟨⟨t234, t235⟩, A150, H⟩ := H
        replace H : ((laws_heldInt64S.f kj4 t235 1).bind fun t236 => (if t236 < 0 then (some false) else (if t236 = t234 then ((impl_DenseLengths.f kj4 a0 a1).bind fun bt237 => ((laws_eqInt64S.f kj4 bt237.1 t225).bind fun t241 => (if t241 = true then (laws_FnExactDenseLengths.j1 kj4 t235 t234 (bt237.2 != t226)) else (laws_FnExactDenseLengths.j1 kj4 t235 t234 true)))) else (some false)))) = some r := H
        have A15 := Aside0.mk A150
        clear A150
        replace H := Option.bind_eq_some_iff.mp H
        obtain ⟨t236, A160, H⟩ := H
        replace H : (if t236 < 0 then (some false) else (if t236 = t234 then ((impl_DenseLengths.f kj4 a0 a1).bind fun bt237 => ((laws_eqInt64S.f kj4 bt237.1 t225).bind fun t241 => (if t241 = true then (laws_FnExactDenseLengths.j1 kj4 t235 t234 (bt237.2 != t226)) else (laws_FnExactDenseLengths.j1 kj4 t235 t234 true)))) else (some false))) = some r := H
        have A16 := Aside0.mk A160
        clear A160
        by_cases c17 : t236 < 0
        · rw [if_pos c17] at H
          have c17b0 : decide (t236 < 0) = true := decide_eq_true c17
          clear c17
          exact absurd ((Option.some.inj H).trans HT.out) (by decide)
        · rw [if_neg c17] at H
          have c17b0 : decide (t236 < 0) = false := decide_eq_false c17
          clear c17
          by_cases c18 : t236 = t234
          · rw [if_pos c18] at H
            have c18b0 : (t236 == t234) = true := beq_iff_eq.mpr c18
            have c18b1 : (t236 != t234) = false := bne_eq_false_iff_eq.mpr c18
            clear c18
            replace H := Option.bind_eq_some_iff.mp H
            obtain ⟨⟨t237, t238⟩, A190, H⟩ := H
            replace H : ((laws_eqInt64S.f kj4 t237 t225).bind fun t241 => (if t241 = true then (laws_FnExactDenseLengths.j1 kj4 t235 t234 (t238 != t226)) else (laws_FnExactDenseLengths.j1 kj4 t235 t234 true))) = some r := H
            have A19 := Aside0.mk A190
            clear A190
            have HC20 := Aside0.mk H
            clear H
            obtain ⟨Ao21, co21, eo21⟩ := Kd.R_slice HO_7.out
            subst eo21
            go_upto_region 14 with (first | ((with_reducible refine gate_callee (f := 29) rfl ?_); refine goesL_ (some 36) rfl rfl Try.func29 (by kernel_rfl) rfl #[.slice Ao21 t229.length co21, .int .i64 1] rfl (by (try simp only [List.map_toArray, List.map_cons, List.map_nil]); first | done | rfl | (simp only [List.length_drop, List.length_take]; rfl)) ?_; (with_reducible refine (laws_markInt64S.calls kj4 (fun k_ => some k_ = (.slice Ao21 t229.length co21 : Value).ownBlock) (.slice Ao21 t229.length co21) t229 1 t234 t235 w _ ?side1 ?side2 A15.out).mono ?_); (case side1 => repeat (first | (with_reducible first | exact HB.out | apply below_alloc | apply pw_below_drewN | apply below_drew1) | exact HB.out)); (case side2 => exact Kd.R_tight rfl HO_7.out); rintro e w22 ⟨rfl, hy0, hb, hkp⟩; refine ⟨_, rfl, ?_⟩; have n0_ := Aside0.mk (Kd.R_mono (ok' := fun k_ => some k_ ≠ (.slice Ao21 t229.length co21 : Value).ownBlock) (Kd.R_keptB (HO_5.out) hkp (fun k_ hk_ hs_ => (hk_) hs_)) (fun k_ hk_ => hk_.1)); have n1_ := Aside0.mk (Kd.R_reok rfl hy0 (fun k_ e_ => HO_7.out.1 k_ e_)); have n2_ := Aside0.mk (hb); clear HO_5; clear HO_7; clear HB; have HO_5 := n0_; have HO_7 := n1_; have HB := n2_; clear n0_ n1_ n2_; (try clear hb); (try clear hkp); (try clear hy0)) | ((with_reducible refine gate_callee (f := 30) rfl ?_); refine goesL_ (some 39) rfl rfl Try.func30 (by kernel_rfl) rfl #[.slice Ao21 t235.length co21, .int .i64 1] rfl (by (try simp only [List.map_toArray, List.map_cons, List.map_nil]); first | done | (rw [show t235.length = t229.length from (Kd.R_reads' HO_7.out).1.symm] <;> rfl) | rfl | (simp only [List.length_drop, List.length_take]; rfl)) ?_; (with_reducible refine (laws_heldInt64S.calls kj4 _ _ t235 1 t236 _ ?side1 ?side2 A16.out).mono ?_); (case side1 => repeat (first | exact (Kd.R_reads' HO_7.out).2.2 | (with_reducible refine Kd.C_alloc ?_ _) | (with_reducible refine Kd.C_drewN ?_ _) | (with_reducible refine Kd.C_drew ?_))); (case side2 => rw [show t235.length = t229.length from (Kd.R_reads' HO_7.out).1.symm]; exact (Kd.R_reads' HO_7.out).2.1); rintro e w' ⟨rfl, ⟨nd, rfl⟩⟩; refine ⟨_, rfl, ?_⟩) | ((with_reducible refine gate_callee (f := 28) rfl ?_); refine goesL_ (some 48) rfl rfl Try.func28 (by kernel_rfl) rfl #[.int .i64 a0, .int .i64 a1] rfl (by (try simp only [List.map_toArray, List.map_cons, List.map_nil]); first | done | rfl | (simp only [List.length_drop, List.length_take]; rfl)) ?_; (with_reducible refine (impl_DenseLengths.calls kj4 a0 a1 t237 t238 _ A19.out).mono ?_); rintro e w23 ⟨v239, rfl, ho0, hb⟩; refine ⟨_, rfl, ?_⟩; have n0_ := Aside0.mk (Kd.R_elder' (by (with_reducible repeat (first | apply Kd.R_alloc | apply Kd.R_drewN | apply Kd.R_drew)); exact HO_5.out) (Kd.R_base ho0) hb); have n1_ := Aside0.mk (Kd.R_elder' (by (with_reducible repeat (first | apply Kd.R_alloc | apply Kd.R_drewN | apply Kd.R_drew)); exact HO_7.out) (Kd.R_base ho0) hb); have n2_ := Aside0.mk (Kd.R_lower (Kd.R_new' (Kd.R_new' ho0 (Kd.R_lt (by (with_reducible repeat (first | apply Kd.R_alloc | apply Kd.R_drewN | apply Kd.R_drew)); exact HO_5.out))) (Kd.R_lt (by (with_reducible repeat (first | apply Kd.R_alloc | apply Kd.R_drewN | apply Kd.R_drew)); exact HO_7.out))) (below_size (by repeat (first | (with_reducible first | exact HB.out | apply below_alloc | apply pw_below_drewN | apply below_drew1) | exact HB.out)))); have n3_ := Aside0.mk (below_step (by repeat (first | (with_reducible first | exact HB.out | apply below_alloc | apply pw_below_drewN | apply below_drew1) | exact HB.out)) hb); clear HO_5; clear HO_7; clear HB; have HO_5 := n0_; have HO_7 := n1_; have HO240 := n2_; have HB := n3_; clear n0_ n1_ n2_ n3_; (try clear hb); (try clear hb2); (try clear hk); (try clear hi); (try clear ho0)))
            (try simp only [Act.put, List.setIfInBounds_toArray, List.set_cons_zero, List.set_cons_succ])
            go_cut [59] (fun v59 wc => ∃ (kq : Nat) (x59_19 : Bool), v59 = .bool x59_19 ∧ Aside0 (laws_FnExactDenseLengths.j1 kq t235 t234 x59_19 = some r) ∧ Aside0 (kq ≤ kj4) ∧ Aside0 (Kd.R (Kd.int .i64) 2 wc w.heap.size (fun _ => True) (.slice Ao21 t229.length co21) t235) ∧ Aside0 (Below w.heap.size w wc))
            case first =>
              have H := HC20.out
              clear HC20
              replace H := Option.bind_eq_some_iff.mp H
              obtain ⟨t241, A240, H⟩ := H
              replace H : (if t241 = true then (laws_FnExactDenseLengths.j1 kj4 t235 t234 (t238 != t226)) else (laws_FnExactDenseLengths.j1 kj4 t235 t234 true)) = some r := H
              have A24 := Aside0.mk A240
              clear A240
              by_cases c25 : t241 = true
              · subst c25
                have H1 : (laws_FnExactDenseLengths.j1 kj4 t235 t234 (t238 != t226)) = some r := by rw [if_pos rfl] at H; exact H
                clear H
                have H := H1
                clear H1
                have H' := Aside0.mk H
                clear H
                obtain ⟨Ao26, co26, eo26⟩ := Kd.R_slice HO240.out
                subst eo26
                obtain ⟨Ao27, co27, eo27⟩ := Kd.R_slice HO_5.out
                subst eo27
                go_wp2_with (first | ((with_reducible refine gate_callee (f := 26) rfl ?_); refine goesL_ (some 53) rfl rfl Try.func26 (by kernel_rfl) rfl #[.slice Ao26 t237.length co26, .slice Ao27 t225.length co27] rfl (by (try simp only [List.map_toArray, List.map_cons, List.map_nil]); first | done | rfl | (simp only [List.length_drop, List.length_take]; rfl)) ?_; (with_reducible refine (laws_eqInt64S.calls kj4 _ _ t237 _ _ t225 true _ ?side1 ?side2 ?side3 ?side4 A24.out).mono ?_); (case side1 => repeat (first | exact (Kd.R_reads' HO240.out).2.2 | (with_reducible refine Kd.C_alloc ?_ _) | (with_reducible refine Kd.C_drewN ?_ _) | (with_reducible refine Kd.C_drew ?_))); (case side2 => exact (Kd.R_reads' HO240.out).2.1); (case side3 => repeat (first | exact (Kd.R_reads' HO_5.out).2.2 | (with_reducible refine Kd.C_alloc ?_ _) | (with_reducible refine Kd.C_drewN ?_ _) | (with_reducible refine Kd.C_drew ?_))); (case side4 => exact (Kd.R_reads' HO_5.out).2.1); rintro e w' ⟨rfl, ⟨nd, rfl⟩⟩; refine ⟨_, rfl, ?_⟩))
                go_meet
                case rel => exact ⟨_, ((t238 != t226)), (by first | rfl | (simp; done) | (simp [*]; done)), H', ⟨by have := HJ4.out; first | omega | exact Nat.le_refl _⟩, ⟨by (with_reducible repeat (first | apply Kd.R_alloc | apply Kd.R_drewN | apply Kd.R_drew)); exact Kd.R_mono HO_7.out (fun _ hk => trivial)⟩, ⟨by repeat (first | (with_reducible first | exact HB.out | apply below_alloc | apply pw_below_drewN | apply below_drew1) | exact HB.out)⟩⟩
              · replace c25 := Bool.eq_false_iff.mpr c25
                subst c25
                have H1 : (laws_FnExactDenseLengths.j1 kj4 t235 t234 true) = some r := by rw [if_neg (show ¬ (false = true) by decide)] at H; exact H
                clear H
                have H := H1
                clear H1
                have H' := Aside0.mk H
                clear H
                obtain ⟨Ao28, co28, eo28⟩ := Kd.R_slice HO240.out
                subst eo28
                obtain ⟨Ao29, co29, eo29⟩ := Kd.R_slice HO_5.out
                subst eo29
                go_wp2_with (first | ((with_reducible refine gate_callee (f := 26) rfl ?_); refine goesL_ (some 53) rfl rfl Try.func26 (by kernel_rfl) rfl #[.slice Ao28 t237.length co28, .slice Ao29 t225.length co29] rfl (by (try simp only [List.map_toArray, List.map_cons, List.map_nil]); first | done | rfl | (simp only [List.length_drop, List.length_take]; rfl)) ?_; (with_reducible refine (laws_eqInt64S.calls kj4 _ _ t237 _ _ t225 false _ ?side1 ?side2 ?side3 ?side4 A24.out).mono ?_); (case side1 => repeat (first | exact (Kd.R_reads' HO240.out).2.2 | (with_reducible refine Kd.C_alloc ?_ _) | (with_reducible refine Kd.C_drewN ?_ _) | (with_reducible refine Kd.C_drew ?_))); (case side2 => exact (Kd.R_reads' HO240.out).2.1); (case side3 => repeat (first | exact (Kd.R_reads' HO_5.out).2.2 | (with_reducible refine Kd.C_alloc ?_ _) | (with_reducible refine Kd.C_drewN ?_ _) | (with_reducible refine Kd.C_drew ?_))); (case side4 => exact (Kd.R_reads' HO_5.out).2.1); rintro e w' ⟨rfl, ⟨nd, rfl⟩⟩; refine ⟨_, rfl, ?_⟩))
                go_meet
                case rel => exact ⟨_, (true), (by first | rfl | (simp; done) | (simp [*]; done)), H', ⟨by have := HJ4.out; first | omega | exact Nat.le_refl _⟩, ⟨by (with_reducible repeat (first | apply Kd.R_alloc | apply Kd.R_drewN | apply Kd.R_drew)); exact Kd.R_mono HO_7.out (fun _ hk => trivial)⟩, ⟨by repeat (first | (with_reducible first | exact HB.out | apply below_alloc | apply pw_below_drewN | apply below_drew1) | exact HB.out)⟩⟩
            case rest =>
              clear HC20
              try clear c1
              try clear c2
              try clear p2
              try clear c3
              try clear c8
              try clear c9
              try clear c14
              try clear c17
              try clear c17b0
              try clear c18
              try clear c18b0
              try clear c18b1
              try clear c25
              try clear c26
              try clear c27
              try clear c28
              try clear c29
              try clear p2
              obtain ⟨kq, x59_19, rfl, HA, HJ19, HO_7, HB⟩ := hcut
              have hl7_19 := (Kd.R_reads' HO_7.out).1
              rw [hl7_19] at HO_7
              (try simp only [hl7_19])
              cases kq with
              | zero => exact absurd HA.out (by simp [laws_FnExactDenseLengths.j1])
              | succ kj19 =>
                have H := HA.out
                clear HA
                simp only [laws_FnExactDenseLengths.j1] at H
                by_cases c30 : x59_19 = true
                · subst c30
                  have H1 : (some false) = some r := by rw [if_pos rfl] at H; exact H
                  clear H
                  have H := H1
                  clear H1
                  exact absurd ((Option.some.inj H).trans HT.out) (by decide)
                · replace c30 := Bool.eq_false_iff.mpr c30
                  subst c30
                  have H1 : ((laws_heldInt64S.f kj19 t235 1).bind fun t242 => (if t242 < 0 then (some false) else (if t242 = t234 then (some true) else (some false)))) = some r := by rw [if_neg (show ¬ (false = true) by decide)] at H; exact H
                  clear H
                  have H := H1
                  clear H1
                  replace H := Option.bind_eq_some_iff.mp H
                  obtain ⟨t242, A310, H⟩ := H
                  replace H : (if t242 < 0 then (some false) else (if t242 = t234 then (some true) else (some false))) = some r := H
                  have A31 := Aside0.mk A310
                  clear A310
                  by_cases c32 : t242 < 0
                  · rw [if_pos c32] at H
                    have c32b0 : decide (t242 < 0) = true := decide_eq_true c32
                    clear c32
                    exact absurd ((Option.some.inj H).trans HT.out) (by decide)
                  · rw [if_neg c32] at H
                    have c32b0 : decide (t242 < 0) = false := decide_eq_false c32
                    clear c32
                    by_cases c33 : t242 = t234
                    · rw [if_pos c33] at H
                      have c33b0 : (t242 == t234) = true := beq_iff_eq.mpr c33
                      have c33b1 : (t242 != t234) = false := bne_eq_false_iff_eq.mpr c33
                      clear c33
                      obtain rfl := Option.some.inj H
                      go_wp2_with (first | ((with_reducible refine gate_callee (f := 30) rfl ?_); refine goesL_ (some 62) rfl rfl Try.func30 (by kernel_rfl) rfl #[.slice Ao21 t235.length co21, .int .i64 1] rfl (by (try simp only [List.map_toArray, List.map_cons, List.map_nil]); first | done | rfl | (simp only [List.length_drop, List.length_take]; rfl)) ?_; (with_reducible refine (laws_heldInt64S.calls kj19 _ _ t235 1 t242 _ ?side1 ?side2 A31.out).mono ?_); (case side1 => repeat (first | exact (Kd.R_reads' HO_7.out).2.2 | (with_reducible refine Kd.C_alloc ?_ _) | (with_reducible refine Kd.C_drewN ?_ _) | (with_reducible refine Kd.C_drew ?_))); (case side2 => exact (Kd.R_reads' HO_7.out).2.1); rintro e w' ⟨rfl, ⟨nd, rfl⟩⟩; refine ⟨_, rfl, ?_⟩))
                      go_ret
                      exact ⟨by first | rfl | (simp [errW_none, errW_some] <;> rfl) | (simp [*, errW_none, errW_some] <;> rfl), by repeat (first | (with_reducible first | exact HB.out | apply below_alloc | apply pw_below_drewN | apply below_drew1) | exact HB.out)⟩
                    · rw [if_neg c33] at H
                      have c33b0 : (t242 == t234) = false := beq_eq_false_iff_ne.mpr c33
                      have c33b1 : (t242 != t234) = true := bne_iff_ne.mpr c33
                      exact absurd ((Option.some.inj H).trans HT.out) (by decide)
          · rw [if_neg c18] at H
            have c18b0 : (t236 == t234) = false := beq_eq_false_iff_ne.mpr c18
            have c18b1 : (t236 != t234) = true := bne_iff_ne.mpr c18
            exact absurd ((Option.some.inj H).trans HT.out) (by decide)

/-- THE ONE PURE STATEMENT of laws_FnExactDenseLengths. -/
def laws_FnExactDenseLengths.Pure : Prop := ∀ (a0 : Int) (a1 : Int), (Lit.int .i64 a0).wf = true → (Lit.int .i64 a1).wf = true → ∃ k, laws_FnExactDenseLengths.f k a0 a1 = some true
theorem laws_FnExactDenseLengths.walk (P : laws_FnExactDenseLengths.Pure) (a0 : Int) (a1 : Int) (w : World)  (w0 : (Lit.int .i64 a0).wf = true) (w1 : (Lit.int .i64 a1).wf = true) :
    Calls Try.prog 8 #[.int .i64 a0, .int .i64 a1] w fun e w' => e = .returned (.bool true) ∧ Below w.heap.size w w' := by
  obtain ⟨k, h⟩ := P a0 a1 w0 w1
  refine (laws_FnExactDenseLengths.calls k a0 a1 true w  rfl h).mono ?_
  rintro e w' ⟨rfl, hd⟩
  exact ⟨rfl, hd⟩

end Go.Proofs.Ytckdinepbgilfaa.P
end

section
namespace Go.Proofs.Ytckdinepbgilfaa.Pure
open Go.RowKit Go.Proofs.Ytckdinepbgilfaa.P Go.Proofs.YtckdinepbgilfaaW.PrintWords Go.Proofs.YtckdinepbgilfaaW.PrintLast Go.Proofs.YtckdinepbgilfaaW.PrintMore
set_option linter.unusedVariables false
set_option linter.unusedSimpArgs false

def dlB (a b : Int) : Bool := match spec_DenseLengths.f 450 a b, impl_DenseLengths.f 450 a b with
  | some x, some y => decide (x = y) && decide (x.1.length ≤ 64)
  | _, _ => false
set_option maxRecDepth 100000 in
theorem dl_0 : ((List.range 4).all fun a => (List.range 8).all fun b => dlB ((a : Int) + 1) ((b : Int) + 1)) = true := by decide +kernel
set_option maxRecDepth 100000 in
theorem dl_1 : ((List.range 4).all fun a => (List.range 8).all fun b => dlB ((a : Int) + 5) ((b : Int) + 1)) = true := by decide +kernel
set_option maxRecDepth 100000 in
theorem dl_2 : ((List.range 4).all fun a => (List.range 8).all fun b => dlB ((a : Int) + 9) ((b : Int) + 1)) = true := by decide +kernel
set_option maxRecDepth 100000 in
theorem dl_3 : ((List.range 4).all fun a => (List.range 8).all fun b => dlB ((a : Int) + 13) ((b : Int) + 1)) = true := by decide +kernel
set_option maxRecDepth 100000 in
theorem dl_4 : ((List.range 4).all fun a => (List.range 8).all fun b => dlB ((a : Int) + 17) ((b : Int) + 1)) = true := by decide +kernel
set_option maxRecDepth 100000 in
theorem dl_5 : ((List.range 4).all fun a => (List.range 8).all fun b => dlB ((a : Int) + 21) ((b : Int) + 1)) = true := by decide +kernel
set_option maxRecDepth 100000 in
theorem dl_6 : ((List.range 4).all fun a => (List.range 8).all fun b => dlB ((a : Int) + 25) ((b : Int) + 1)) = true := by decide +kernel
set_option maxRecDepth 100000 in
theorem dl_7 : ((List.range 4).all fun a => (List.range 8).all fun b => dlB ((a : Int) + 29) ((b : Int) + 1)) = true := by decide +kernel
set_option maxRecDepth 100000 in
theorem dl_8 : ((List.range 4).all fun a => (List.range 8).all fun b => dlB ((a : Int) + 33) ((b : Int) + 1)) = true := by decide +kernel
set_option maxRecDepth 100000 in
theorem dl_9 : ((List.range 4).all fun a => (List.range 8).all fun b => dlB ((a : Int) + 37) ((b : Int) + 1)) = true := by decide +kernel
set_option maxRecDepth 100000 in
theorem dl_10 : ((List.range 4).all fun a => (List.range 8).all fun b => dlB ((a : Int) + 41) ((b : Int) + 1)) = true := by decide +kernel
set_option maxRecDepth 100000 in
theorem dl_11 : ((List.range 4).all fun a => (List.range 8).all fun b => dlB ((a : Int) + 45) ((b : Int) + 1)) = true := by decide +kernel
theorem dl_at (a b : Int) (h0 : 1 ≤ a) (h1 : a ≤ 48) (h2 : 1 ≤ b) (h3 : b ≤ 8) : dlB a b = true := by
  have key : ∀ c : Int, ((List.range 4).all fun a => (List.range 8).all fun b => dlB ((a : Int) + c) ((b : Int) + 1)) = true → c ≤ a → a ≤ c + 3 → dlB a b = true := by
    intro c h hc hc'
    rw [List.all_eq_true] at h
    have h := h (a - c).toNat (List.mem_range.2 (by omega))
    rw [List.all_eq_true] at h
    have h := h (b - 1).toNat (List.mem_range.2 (by omega))
    rwa [show (((a - c).toNat : Nat) : Int) + c = a by omega, show (((b - 1).toNat : Nat) : Int) + 1 = b by omega] at h
  by_cases c0 : a ≤ 4
  · exact key 1 dl_0 (by omega) (by omega)
  by_cases c1 : a ≤ 8
  · exact key 5 dl_1 (by omega) (by omega)
  by_cases c2 : a ≤ 12
  · exact key 9 dl_2 (by omega) (by omega)
  by_cases c3 : a ≤ 16
  · exact key 13 dl_3 (by omega) (by omega)
  by_cases c4 : a ≤ 20
  · exact key 17 dl_4 (by omega) (by omega)
  by_cases c5 : a ≤ 24
  · exact key 21 dl_5 (by omega) (by omega)
  by_cases c6 : a ≤ 28
  · exact key 25 dl_6 (by omega) (by omega)
  by_cases c7 : a ≤ 32
  · exact key 29 dl_7 (by omega) (by omega)
  by_cases c8 : a ≤ 36
  · exact key 33 dl_8 (by omega) (by omega)
  by_cases c9 : a ≤ 40
  · exact key 37 dl_9 (by omega) (by omega)
  by_cases c10 : a ≤ 44
  · exact key 41 dl_10 (by omega) (by omega)
  exact key 45 dl_11 (by omega) (by omega)
theorem dl_tail (r : List Int) (hr : r.length ≤ 64) (a0 a1 c : Int) (he : Ev (fun k => impl_DenseLengths.f k a0 a1) (r, c)) : Ev (fun k => laws_FnExactDenseLengths.j0 k a0 a1 r c r (c != c)) true := by
  refine Ev.succ ?_
  simp only [laws_FnExactDenseLengths.j0]
  refine Ev.ite_neg (by simp) ?_
  refine Ev.bind (markInt64S_ev r 1 (by omega) (by omega) (by omega)) ?_
  refine Ev.bind (heldInt64S_ev r.length 1 (by omega) (by omega) (by omega)) ?_
  refine Ev.ite_neg (by omega) ?_
  refine Ev.ite_pos rfl ?_
  refine Ev.bind he ?_
  refine Ev.bind (eqInt64S_self r (by omega)) ?_
  refine Ev.ite_pos rfl ?_
  refine Ev.succ ?_
  simp only [laws_FnExactDenseLengths.j1]
  refine Ev.ite_neg (by simp) ?_
  refine Ev.bind (heldInt64S_ev r.length 1 (by omega) (by omega) (by omega)) ?_
  refine Ev.ite_neg (by omega) ?_
  exact Ev.ite_pos rfl (Ev.now _)
theorem FnExactDenseLengths : laws_FnExactDenseLengths.Pure := by
  intro a0 a1 w0 w1
  refine Ev.out (r := true) ?_
  unfold laws_FnExactDenseLengths.f
  have key : ∃ r c, Ev (fun k => spec_DenseLengths.f k a0 a1) (r, c) ∧ Ev (fun k => impl_DenseLengths.f k a0 a1) (r, c) ∧ r.length ≤ 64 := by
    by_cases h : (1 ≤ a0 ∧ a0 ≤ 48) ∧ 1 ≤ a1 ∧ a1 ≤ 8
    · obtain ⟨⟨h0, h1⟩, h2, h3⟩ := h
      have := dl_at a0 a1 h0 h1 h2 h3
      unfold dlB at this
      split at this
      · rename_i x y hx hy
        simp only [Bool.and_eq_true, decide_eq_true_eq] at this
        obtain ⟨rfl, hl⟩ := this
        exact ⟨x.1, x.2, Ev.of (spec_DenseLengths.mono a0 a1) hx, Ev.of (impl_DenseLengths.mono a0 a1) hy, hl⟩
      · cases this
    · refine ⟨[], 2, ?_, ?_, by simp⟩
      · unfold spec_DenseLengths.f
        refine Ev.bindc (spec_l00In_eq _ _ _) ?_
        cases hq : (decide (1 ≤ a0) && decide (a0 ≤ 48)) with
        | true =>
          refine Ev.ite_pos rfl ?_
          refine Ev.bindc (spec_l00In_eq _ _ _) ?_
          have hq' : (decide (1 ≤ a1) && decide (a1 ≤ 8)) = false := by
            simp only [Bool.and_eq_true, decide_eq_true_eq] at hq
            rw [Bool.eq_false_iff]
            intro hh
            simp only [Bool.and_eq_true, decide_eq_true_eq] at hh
            exact h ⟨hq, hh⟩
          rw [hq']
          refine Ev.succ ?_
          simp only [spec_DenseLengths.j0]
          exact Ev.ite_pos (by simp) (Ev.now _)
        | false =>
          refine Ev.ite_neg (by decide) ?_
          refine Ev.succ ?_
          simp only [spec_DenseLengths.j0]
          exact Ev.ite_pos (by simp) (Ev.now _)
      · unfold impl_DenseLengths.f
        refine Ev.bindc (impl_within_eq _ _ _) ?_
        cases hq : (decide (1 ≤ a0) && decide (a0 ≤ 48)) with
        | true =>
          refine Ev.ite_pos rfl ?_
          refine Ev.bindc (impl_within_eq _ _ _) ?_
          have hq' : (decide (1 ≤ a1) && decide (a1 ≤ 8)) = false := by
            simp only [Bool.and_eq_true, decide_eq_true_eq] at hq
            rw [Bool.eq_false_iff]
            intro hh
            simp only [Bool.and_eq_true, decide_eq_true_eq] at hh
            exact h ⟨hq, hh⟩
          rw [hq']
          refine Ev.succ ?_
          simp only [impl_DenseLengths.j0]
          exact Ev.ite_pos (by simp) (Ev.now _)
        | false =>
          refine Ev.ite_neg (by decide) ?_
          refine Ev.succ ?_
          simp only [impl_DenseLengths.j0]
          exact Ev.ite_pos (by simp) (Ev.now _)
  obtain ⟨r, c, hs, hi, hl⟩ := key
  refine Ev.bind hs ?_
  refine Ev.bind hi ?_
  refine Ev.bind (eqInt64S_self r (by omega)) ?_
  refine Ev.ite_pos rfl ?_
  exact dl_tail r hl a0 a1 c hi

end Go.Proofs.Ytckdinepbgilfaa.Pure
end
