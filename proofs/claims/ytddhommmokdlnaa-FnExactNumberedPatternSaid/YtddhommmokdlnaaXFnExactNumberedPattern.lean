/- The pure statement of FnExactNumberedPattern. No condition. -/
import Derived.Test.YtddhommmokdlnaaGNP1
import Derived.Test.YtddhommmokdlnaaGNP2
section
namespace Go.Proofs.Ytddhommmokdlnaa.P
open Go.RowKit Go.Proofs.YtddhommmokdlnaaW.PrintWords Go.Proofs.YtddhommmokdlnaaW.PrintLast Go.Proofs.YtddhommmokdlnaaW.PrintMore
attribute [local go_sem] max2_int min2_int max_two min_two max_three min_three max_four min_four   -- for this text's walks alone
set_option linter.unusedVariables false
set_option linter.unusedSimpArgs false

/-! ### laws_FnExactNumberedPattern: function 6 -/
mutual
def laws_FnExactNumberedPattern.j0 : Nat → Int → Int → Int → Int → List Int → Int → List Int → Bool → Option (Bool)
  | 0, _, _, _, _, _, _, _, _ => none
  | k + 1, x0, x1, x2, x3, x9, x10, x11, x41 => if x41 = true then (some false) else ((laws_markInt64S.f k x11 1).bind fun bt324 => ((laws_heldInt64S.f k bt324.2 1).bind fun t326 => (if t326 < 0 then (some false) else (if t326 = bt324.1 then ((impl_NumberedPattern.f k x0 x1 x2 x3).bind fun bt327 => ((laws_eqInt64S.f k bt327.1 x9).bind fun t331 => (if t331 = true then (laws_FnExactNumberedPattern.j1 k bt324.2 bt324.1 (bt327.2 != x10)) else (laws_FnExactNumberedPattern.j1 k bt324.2 bt324.1 true)))) else (some false)))))
def laws_FnExactNumberedPattern.j1 : Nat → List Int → Int → Bool → Option (Bool)
  | 0, _, _, _ => none
  | k + 1, x11, x13, x69 => if x69 = true then (some false) else ((laws_heldInt64S.f k x11 1).bind fun t332 => (if t332 < 0 then (some false) else (if t332 = x13 then (some true) else (some false))))
end
def laws_FnExactNumberedPattern.f (k : Nat) (a0 : Int) (a1 : Int) (a2 : Int) (a3 : Int) : Option (Bool) := (spec_NumberedPattern.f k a0 a1 a2 a3).bind fun bt315 => ((impl_NumberedPattern.f k a0 a1 a2 a3).bind fun bt319 => ((laws_eqInt64S.f k bt319.1 bt315.1).bind fun t323 => (if t323 = true then (laws_FnExactNumberedPattern.j0 k a0 a1 a2 a3 bt315.1 bt315.2 bt319.1 (bt319.2 != bt315.2)) else (laws_FnExactNumberedPattern.j0 k a0 a1 a2 a3 bt315.1 bt315.2 bt319.1 true))))
theorem laws_FnExactNumberedPattern.mono_l : ∀ k, (∀ y0 y1 y2 y3 y4 y5 y6 y7, LeO (laws_FnExactNumberedPattern.j0 k y0 y1 y2 y3 y4 y5 y6 y7) (laws_FnExactNumberedPattern.j0 (k + 1) y0 y1 y2 y3 y4 y5 y6 y7)) ∧ (∀ y0 y1 y2, LeO (laws_FnExactNumberedPattern.j1 k y0 y1 y2) (laws_FnExactNumberedPattern.j1 (k + 1) y0 y1 y2))
  | 0 => ⟨fun _ _ _ _ _ _ _ _ r h => by simp [laws_FnExactNumberedPattern.j0] at h, fun _ _ _ r h => by simp [laws_FnExactNumberedPattern.j1] at h⟩
  | k + 1 => by
    obtain ⟨ih0, ih1⟩ := laws_FnExactNumberedPattern.mono_l k
    refine ⟨?_, ?_⟩
    · intro y0 y1 y2 y3 y4 y5 y6 y7
      unfold laws_FnExactNumberedPattern.j0
      repeat' first
      | (with_reducible exact ih0 _ _ _ _ _ _ _ _)
      | (with_reducible exact ih1 _ _ _)
      | (with_reducible exact impl_NumberedPattern.mono _ _ _ _ _)
      | (with_reducible exact laws_eqInt64S.mono _ _ _)
      | (with_reducible exact laws_heldInt64S.mono _ _ _)
      | (with_reducible exact laws_markInt64S.mono _ _ _)
      | (with_reducible exact spec_NumberedPattern.mono _ _ _ _ _)
      | (with_reducible exact LeO.refl _)
      | (with_reducible exact LeO.none _)
      | (with_reducible refine LeO.ite ?_ ?_)
      | (with_reducible refine LeO.bind ?_ (fun _ => ?_))
      | exact ih0 _ _ _ _ _ _ _ _
      | exact ih1 _ _ _
      | exact impl_NumberedPattern.mono _ _ _ _ _
      | exact laws_eqInt64S.mono _ _ _
      | exact laws_heldInt64S.mono _ _ _
      | exact laws_markInt64S.mono _ _ _
      | exact spec_NumberedPattern.mono _ _ _ _ _
      | exact LeO.none _
      | refine LeO.ite ?_ ?_
      | refine LeO.bind ?_ (fun _ => ?_)
    · intro y0 y1 y2
      unfold laws_FnExactNumberedPattern.j1
      repeat' first
      | (with_reducible exact ih0 _ _ _ _ _ _ _ _)
      | (with_reducible exact ih1 _ _ _)
      | (with_reducible exact impl_NumberedPattern.mono _ _ _ _ _)
      | (with_reducible exact laws_eqInt64S.mono _ _ _)
      | (with_reducible exact laws_heldInt64S.mono _ _ _)
      | (with_reducible exact laws_markInt64S.mono _ _ _)
      | (with_reducible exact spec_NumberedPattern.mono _ _ _ _ _)
      | (with_reducible exact LeO.refl _)
      | (with_reducible exact LeO.none _)
      | (with_reducible refine LeO.ite ?_ ?_)
      | (with_reducible refine LeO.bind ?_ (fun _ => ?_))
      | exact ih0 _ _ _ _ _ _ _ _
      | exact ih1 _ _ _
      | exact impl_NumberedPattern.mono _ _ _ _ _
      | exact laws_eqInt64S.mono _ _ _
      | exact laws_heldInt64S.mono _ _ _
      | exact laws_markInt64S.mono _ _ _
      | exact spec_NumberedPattern.mono _ _ _ _ _
      | exact LeO.none _
      | refine LeO.ite ?_ ?_
      | refine LeO.bind ?_ (fun _ => ?_)
theorem laws_FnExactNumberedPattern.mono : ∀ a0 a1 a2 a3 k, LeO (laws_FnExactNumberedPattern.f k a0 a1 a2 a3) (laws_FnExactNumberedPattern.f (k + 1) a0 a1 a2 a3) := by
  intro a0 a1 a2 a3 k
  obtain ⟨ih0, ih1⟩ := laws_FnExactNumberedPattern.mono_l k
  unfold laws_FnExactNumberedPattern.f
  repeat' first
      | (with_reducible exact ih0 _ _ _ _ _ _ _ _)
      | (with_reducible exact ih1 _ _ _)
      | (with_reducible exact impl_NumberedPattern.mono _ _ _ _ _)
      | (with_reducible exact laws_eqInt64S.mono _ _ _)
      | (with_reducible exact laws_heldInt64S.mono _ _ _)
      | (with_reducible exact laws_markInt64S.mono _ _ _)
      | (with_reducible exact spec_NumberedPattern.mono _ _ _ _ _)
      | (with_reducible exact LeO.refl _)
      | (with_reducible exact LeO.none _)
      | (with_reducible refine LeO.ite ?_ ?_)
      | (with_reducible refine LeO.bind ?_ (fun _ => ?_))
      | exact ih0 _ _ _ _ _ _ _ _
      | exact ih1 _ _ _
      | exact impl_NumberedPattern.mono _ _ _ _ _
      | exact laws_eqInt64S.mono _ _ _
      | exact laws_heldInt64S.mono _ _ _
      | exact laws_markInt64S.mono _ _ _
      | exact spec_NumberedPattern.mono _ _ _ _ _
      | exact LeO.none _
      | refine LeO.ite ?_ ?_
      | refine LeO.bind ?_ (fun _ => ?_)
set_option maxHeartbeats 8000000 in
set_option maxRecDepth 100000 in
theorem laws_FnExactNumberedPattern.calls (k : Nat) (a0 : Int) (a1 : Int) (a2 : Int) (a3 : Int) (r : Bool) (w : World) (hT : r = true) (h : laws_FnExactNumberedPattern.f k a0 a1 a2 a3 = some r) :
    Calls Try.prog 6 #[.int .i64 a0, .int .i64 a1, .int .i64 a2, .int .i64 a3] w fun e w' => e = .returned (.bool r) ∧ Below w.heap.size w w' := by
  have HT := Aside0.mk hT
  clear hT
  have HB := Aside0.mk (Below.refl w.heap.size w)
  have H : ((spec_NumberedPattern.f k a0 a1 a2 a3).bind fun bt315 => ((impl_NumberedPattern.f k a0 a1 a2 a3).bind fun bt319 => ((laws_eqInt64S.f k bt319.1 bt315.1).bind fun t323 => (if t323 = true then (laws_FnExactNumberedPattern.j0 k a0 a1 a2 a3 bt315.1 bt315.2 bt319.1 (bt319.2 != bt315.2)) else (laws_FnExactNumberedPattern.j0 k a0 a1 a2 a3 bt315.1 bt315.2 bt319.1 true))))) = some r := h
  clear h
  replace H := Option.bind_eq_some_iff.mp H
  obtain ⟨⟨t315, t316⟩, A50, H⟩ := H
  replace H : ((impl_NumberedPattern.f k a0 a1 a2 a3).bind fun bt319 => ((laws_eqInt64S.f k bt319.1 t315).bind fun t323 => (if t323 = true then (laws_FnExactNumberedPattern.j0 k a0 a1 a2 a3 t315 t316 bt319.1 (bt319.2 != t316)) else (laws_FnExactNumberedPattern.j0 k a0 a1 a2 a3 t315 t316 bt319.1 true)))) = some r := H
  have A5 := Aside0.mk A50
  clear A50
  replace H := Option.bind_eq_some_iff.mp H
  obtain ⟨⟨t319, t320⟩, A60, H⟩ := H
  replace H : ((laws_eqInt64S.f k t319 t315).bind fun t323 => (if t323 = true then (laws_FnExactNumberedPattern.j0 k a0 a1 a2 a3 t315 t316 t319 (t320 != t316)) else (laws_FnExactNumberedPattern.j0 k a0 a1 a2 a3 t315 t316 t319 true))) = some r := H
  have A6 := Aside0.mk A60
  clear A60
  have HC7 := Aside0.mk H
  clear H
  go_enter Try.func6, Try.ntmps6
  go_upto_region 3 with (first | ((with_reducible refine gate_callee (f := 25) rfl ?_); refine goesL_ (some 22) rfl rfl Try.func25 (by kernel_rfl) rfl #[.int .i64 a0, .int .i64 a1, .int .i64 a2, .int .i64 a3] rfl (by (try simp only [List.map_toArray, List.map_cons, List.map_nil]); first | done | rfl | (simp only [List.length_drop, List.length_take]; rfl)) ?_; (with_reducible refine (spec_NumberedPattern.calls k a0 a1 a2 a3 t315 t316 _ A5.out).mono ?_); rintro e w8 ⟨v317, rfl, ho0, hb⟩; refine ⟨_, rfl, ?_⟩; have n0_ := Aside0.mk (Kd.R_lower ho0 (below_size (by repeat (first | (with_reducible first | exact HB.out | apply below_alloc | apply pw_below_drewN | apply below_drew1) | exact HB.out)))); have n1_ := Aside0.mk (below_step (by repeat (first | (with_reducible first | exact HB.out | apply below_alloc | apply pw_below_drewN | apply below_drew1) | exact HB.out)) hb); clear HB; have HO318 := n0_; have HB := n1_; clear n0_ n1_; (try clear hb); (try clear hb2); (try clear hk); (try clear hi); (try clear ho0)) | ((with_reducible refine gate_callee (f := 26) rfl ?_); refine goesL_ (some 30) rfl rfl Try.func26 (by kernel_rfl) rfl #[.int .i64 a0, .int .i64 a1, .int .i64 a2, .int .i64 a3] rfl (by (try simp only [List.map_toArray, List.map_cons, List.map_nil]); first | done | rfl | (simp only [List.length_drop, List.length_take]; rfl)) ?_; (with_reducible refine (impl_NumberedPattern.calls k a0 a1 a2 a3 t319 t320 _ A6.out).mono ?_); rintro e w9 ⟨v321, rfl, ho0, hb⟩; refine ⟨_, rfl, ?_⟩; have n0_ := Aside0.mk (Kd.R_elder' (by (with_reducible repeat (first | apply Kd.R_alloc | apply Kd.R_drewN | apply Kd.R_drew)); exact HO318.out) (Kd.R_base ho0) hb); have n1_ := Aside0.mk (Kd.R_lower (Kd.R_new' ho0 (Kd.R_lt (by (with_reducible repeat (first | apply Kd.R_alloc | apply Kd.R_drewN | apply Kd.R_drew)); exact HO318.out))) (below_size (by repeat (first | (with_reducible first | exact HB.out | apply below_alloc | apply pw_below_drewN | apply below_drew1) | exact HB.out)))); have n2_ := Aside0.mk (below_step (by repeat (first | (with_reducible first | exact HB.out | apply below_alloc | apply pw_below_drewN | apply below_drew1) | exact HB.out)) hb); clear HO318; clear HB; have HO318 := n0_; have HO322 := n1_; have HB := n2_; clear n0_ n1_ n2_; (try clear hb); (try clear hb2); (try clear hk); (try clear hi); (try clear ho0)))
  (try simp only [Act.put, List.setIfInBounds_toArray, List.set_cons_zero, List.set_cons_succ])
  go_cut [41] (fun v41 wc => ∃ (kq : Nat) (x41_6 : Bool), v41 = .bool x41_6 ∧ Aside0 (laws_FnExactNumberedPattern.j0 kq a0 a1 a2 a3 t315 t316 t319 x41_6 = some r) ∧ Aside0 (kq ≤ k) ∧ Aside0 (Kd.R (Kd.int .i64) 2 wc w.heap.size (fun k_ => some k_ ≠ (v321 : Value).ownBlock) v317 t315) ∧ Aside0 (Kd.R (Kd.int .i64) 2 wc w.heap.size (fun k_ => some k_ ≠ (v317 : Value).ownBlock) v321 t319) ∧ Aside0 (Below w.heap.size w wc))
  case first =>
    have H := HC7.out
    clear HC7
    replace H := Option.bind_eq_some_iff.mp H
    obtain ⟨t323, A100, H⟩ := H
    replace H : (if t323 = true then (laws_FnExactNumberedPattern.j0 k a0 a1 a2 a3 t315 t316 t319 (t320 != t316)) else (laws_FnExactNumberedPattern.j0 k a0 a1 a2 a3 t315 t316 t319 true)) = some r := H
    have A10 := Aside0.mk A100
    clear A100
    by_cases c11 : t323 = true
    · subst c11
      have H1 : (laws_FnExactNumberedPattern.j0 k a0 a1 a2 a3 t315 t316 t319 (t320 != t316)) = some r := by rw [if_pos rfl] at H; exact H
      clear H
      have H := H1
      clear H1
      have H' := Aside0.mk H
      clear H
      obtain ⟨Ao12, co12, eo12⟩ := Kd.R_slice HO322.out
      subst eo12
      obtain ⟨Ao13, co13, eo13⟩ := Kd.R_slice HO318.out
      subst eo13
      go_wp2_with (first | ((with_reducible refine gate_callee (f := 18) rfl ?_); refine goesL_ (some 35) rfl rfl Try.func18 (by kernel_rfl) rfl #[.slice Ao12 t319.length co12, .slice Ao13 t315.length co13] rfl (by (try simp only [List.map_toArray, List.map_cons, List.map_nil]); first | done | rfl | (simp only [List.length_drop, List.length_take]; rfl)) ?_; (with_reducible refine (laws_eqInt64S.calls k _ _ t319 _ _ t315 true _ ?side1 ?side2 ?side3 ?side4 A10.out).mono ?_); (case side1 => repeat (first | exact (Kd.R_reads' HO322.out).2.2 | (with_reducible refine Kd.C_alloc ?_ _) | (with_reducible refine Kd.C_drewN ?_ _) | (with_reducible refine Kd.C_drew ?_))); (case side2 => exact (Kd.R_reads' HO322.out).2.1); (case side3 => repeat (first | exact (Kd.R_reads' HO318.out).2.2 | (with_reducible refine Kd.C_alloc ?_ _) | (with_reducible refine Kd.C_drewN ?_ _) | (with_reducible refine Kd.C_drew ?_))); (case side4 => exact (Kd.R_reads' HO318.out).2.1); rintro e w' ⟨rfl, ⟨nd, rfl⟩⟩; refine ⟨_, rfl, ?_⟩))
      go_meet
      case rel => exact ⟨_, ((t320 != t316)), (by first | rfl | (simp; done) | (simp [*]; done)), H', ⟨by first | omega | exact Nat.le_refl _⟩, ⟨by (with_reducible repeat (first | apply Kd.R_alloc | apply Kd.R_drewN | apply Kd.R_drew)); exact Kd.R_mono HO318.out (fun _ hk => hk.2)⟩, ⟨by (with_reducible repeat (first | apply Kd.R_alloc | apply Kd.R_drewN | apply Kd.R_drew)); exact Kd.R_mono HO322.out (fun _ hk => hk.2)⟩, ⟨by repeat (first | (with_reducible first | exact HB.out | apply below_alloc | apply pw_below_drewN | apply below_drew1) | exact HB.out)⟩⟩
    · replace c11 := Bool.eq_false_iff.mpr c11
      subst c11
      have H1 : (laws_FnExactNumberedPattern.j0 k a0 a1 a2 a3 t315 t316 t319 true) = some r := by rw [if_neg (show ¬ (false = true) by decide)] at H; exact H
      clear H
      have H := H1
      clear H1
      have H' := Aside0.mk H
      clear H
      obtain ⟨Ao14, co14, eo14⟩ := Kd.R_slice HO322.out
      subst eo14
      obtain ⟨Ao15, co15, eo15⟩ := Kd.R_slice HO318.out
      subst eo15
      go_wp2_with (first | ((with_reducible refine gate_callee (f := 18) rfl ?_); refine goesL_ (some 35) rfl rfl Try.func18 (by kernel_rfl) rfl #[.slice Ao14 t319.length co14, .slice Ao15 t315.length co15] rfl (by (try simp only [List.map_toArray, List.map_cons, List.map_nil]); first | done | rfl | (simp only [List.length_drop, List.length_take]; rfl)) ?_; (with_reducible refine (laws_eqInt64S.calls k _ _ t319 _ _ t315 false _ ?side1 ?side2 ?side3 ?side4 A10.out).mono ?_); (case side1 => repeat (first | exact (Kd.R_reads' HO322.out).2.2 | (with_reducible refine Kd.C_alloc ?_ _) | (with_reducible refine Kd.C_drewN ?_ _) | (with_reducible refine Kd.C_drew ?_))); (case side2 => exact (Kd.R_reads' HO322.out).2.1); (case side3 => repeat (first | exact (Kd.R_reads' HO318.out).2.2 | (with_reducible refine Kd.C_alloc ?_ _) | (with_reducible refine Kd.C_drewN ?_ _) | (with_reducible refine Kd.C_drew ?_))); (case side4 => exact (Kd.R_reads' HO318.out).2.1); rintro e w' ⟨rfl, ⟨nd, rfl⟩⟩; refine ⟨_, rfl, ?_⟩))
      go_meet
      case rel => exact ⟨_, (true), (by first | rfl | (simp; done) | (simp [*]; done)), H', ⟨by first | omega | exact Nat.le_refl _⟩, ⟨by (with_reducible repeat (first | apply Kd.R_alloc | apply Kd.R_drewN | apply Kd.R_drew)); exact Kd.R_mono HO318.out (fun _ hk => hk.2)⟩, ⟨by (with_reducible repeat (first | apply Kd.R_alloc | apply Kd.R_drewN | apply Kd.R_drew)); exact Kd.R_mono HO322.out (fun _ hk => hk.2)⟩, ⟨by repeat (first | (with_reducible first | exact HB.out | apply below_alloc | apply pw_below_drewN | apply below_drew1) | exact HB.out)⟩⟩
  case rest =>
    clear HC7
    try clear c1
    try clear c2
    try clear p2
    try clear c6
    try clear c11
    obtain ⟨kq, x41_6, rfl, HA, HJ6, HO_9, HO_11, HB⟩ := hcut
    cases kq with
    | zero => exact absurd HA.out (by simp [laws_FnExactNumberedPattern.j0])
    | succ kj6 =>
      have H := HA.out
      clear HA
      simp only [laws_FnExactNumberedPattern.j0] at H
      by_cases c16 : x41_6 = true
      · subst c16
        have H1 : (some false) = some r := by rw [if_pos rfl] at H; exact H
        clear H
        have H := H1
        clear H1
        exact absurd ((Option.some.inj H).trans HT.out) (by decide)
      · replace c16 := Bool.eq_false_iff.mpr c16
        subst c16
        have H1 : ((laws_markInt64S.f kj6 t319 1).bind fun bt324 => ((laws_heldInt64S.f kj6 bt324.2 1).bind fun t326 => (if t326 < 0 then (some false) else (if t326 = bt324.1 then ((impl_NumberedPattern.f kj6 a0 a1 a2 a3).bind fun bt327 => ((laws_eqInt64S.f kj6 bt327.1 t315).bind fun t331 => (if t331 = true then (laws_FnExactNumberedPattern.j1 kj6 bt324.2 bt324.1 (bt327.2 != t316)) else (laws_FnExactNumberedPattern.j1 kj6 bt324.2 bt324.1 true)))) else (some false))))) = some r := by rw [if_neg (show ¬ (false = true) by decide)] at H; exact H
        clear H
        have H := H1
        clear H1
        replace H := Option.bind_eq_some_iff.mp H
        obtain ⟨⟨t324, t325⟩, A170, H⟩ := H
        replace H : ((laws_heldInt64S.f kj6 t325 1).bind fun t326 => (if t326 < 0 then (some false) else (if t326 = t324 then ((impl_NumberedPattern.f kj6 a0 a1 a2 a3).bind fun bt327 => ((laws_eqInt64S.f kj6 bt327.1 t315).bind fun t331 => (if t331 = true then (laws_FnExactNumberedPattern.j1 kj6 t325 t324 (bt327.2 != t316)) else (laws_FnExactNumberedPattern.j1 kj6 t325 t324 true)))) else (some false)))) = some r := H
        have A17 := Aside0.mk A170
        clear A170
        replace H := Option.bind_eq_some_iff.mp H
        obtain ⟨t326, A180, H⟩ := H
        replace H : (if t326 < 0 then (some false) else (if t326 = t324 then ((impl_NumberedPattern.f kj6 a0 a1 a2 a3).bind fun bt327 => ((laws_eqInt64S.f kj6 bt327.1 t315).bind fun t331 => (if t331 = true then (laws_FnExactNumberedPattern.j1 kj6 t325 t324 (bt327.2 != t316)) else (laws_FnExactNumberedPattern.j1 kj6 t325 t324 true)))) else (some false))) = some r := H
        have A18 := Aside0.mk A180
        clear A180
        by_cases c19 : t326 < 0
        · rw [if_pos c19] at H
          have c19b0 : decide (t326 < 0) = true := decide_eq_true c19
          clear c19
          exact absurd ((Option.some.inj H).trans HT.out) (by decide)
        · rw [if_neg c19] at H
          have c19b0 : decide (t326 < 0) = false := decide_eq_false c19
          clear c19
          by_cases c20 : t326 = t324
          · rw [if_pos c20] at H
            have c20b0 : (t326 == t324) = true := beq_iff_eq.mpr c20
            have c20b1 : (t326 != t324) = false := bne_eq_false_iff_eq.mpr c20
            clear c20
            replace H := Option.bind_eq_some_iff.mp H
            obtain ⟨⟨t327, t328⟩, A210, H⟩ := H
            replace H : ((laws_eqInt64S.f kj6 t327 t315).bind fun t331 => (if t331 = true then (laws_FnExactNumberedPattern.j1 kj6 t325 t324 (t328 != t316)) else (laws_FnExactNumberedPattern.j1 kj6 t325 t324 true))) = some r := H
            have A21 := Aside0.mk A210
            clear A210
            have HC22 := Aside0.mk H
            clear H
            obtain ⟨Ao23, co23, eo23⟩ := Kd.R_slice HO_11.out
            subst eo23
            go_upto_region 14 with (first | ((with_reducible refine gate_callee (f := 19) rfl ?_); refine goesL_ (some 44) rfl rfl Try.func19 (by kernel_rfl) rfl #[.slice Ao23 t319.length co23, .int .i64 1] rfl (by (try simp only [List.map_toArray, List.map_cons, List.map_nil]); first | done | rfl | (simp only [List.length_drop, List.length_take]; rfl)) ?_; (with_reducible refine (laws_markInt64S.calls kj6 (fun k_ => some k_ = (.slice Ao23 t319.length co23 : Value).ownBlock) (.slice Ao23 t319.length co23) t319 1 t324 t325 w _ ?side1 ?side2 A17.out).mono ?_); (case side1 => repeat (first | (with_reducible first | exact HB.out | apply below_alloc | apply pw_below_drewN | apply below_drew1) | exact HB.out)); (case side2 => exact Kd.R_tight rfl HO_11.out); rintro e w24 ⟨rfl, hy0, hb, hkp⟩; refine ⟨_, rfl, ?_⟩; have n0_ := Aside0.mk (Kd.R_mono (ok' := fun k_ => some k_ ≠ (.slice Ao23 t319.length co23 : Value).ownBlock) (Kd.R_keptB (HO_9.out) hkp (fun k_ hk_ hs_ => (hk_) hs_)) (fun k_ hk_ => hk_.1)); have n1_ := Aside0.mk (Kd.R_reok rfl hy0 (fun k_ e_ => HO_11.out.1 k_ e_)); have n2_ := Aside0.mk (hb); clear HO_9; clear HO_11; clear HB; have HO_9 := n0_; have HO_11 := n1_; have HB := n2_; clear n0_ n1_ n2_; (try clear hb); (try clear hkp); (try clear hy0)) | ((with_reducible refine gate_callee (f := 20) rfl ?_); refine goesL_ (some 47) rfl rfl Try.func20 (by kernel_rfl) rfl #[.slice Ao23 t325.length co23, .int .i64 1] rfl (by (try simp only [List.map_toArray, List.map_cons, List.map_nil]); first | done | (rw [show t325.length = t319.length from (Kd.R_reads' HO_11.out).1.symm] <;> rfl) | rfl | (simp only [List.length_drop, List.length_take]; rfl)) ?_; (with_reducible refine (laws_heldInt64S.calls kj6 _ _ t325 1 t326 _ ?side1 ?side2 A18.out).mono ?_); (case side1 => repeat (first | exact (Kd.R_reads' HO_11.out).2.2 | (with_reducible refine Kd.C_alloc ?_ _) | (with_reducible refine Kd.C_drewN ?_ _) | (with_reducible refine Kd.C_drew ?_))); (case side2 => rw [show t325.length = t319.length from (Kd.R_reads' HO_11.out).1.symm]; exact (Kd.R_reads' HO_11.out).2.1); rintro e w' ⟨rfl, ⟨nd, rfl⟩⟩; refine ⟨_, rfl, ?_⟩) | ((with_reducible refine gate_callee (f := 26) rfl ?_); refine goesL_ (some 58) rfl rfl Try.func26 (by kernel_rfl) rfl #[.int .i64 a0, .int .i64 a1, .int .i64 a2, .int .i64 a3] rfl (by (try simp only [List.map_toArray, List.map_cons, List.map_nil]); first | done | rfl | (simp only [List.length_drop, List.length_take]; rfl)) ?_; (with_reducible refine (impl_NumberedPattern.calls kj6 a0 a1 a2 a3 t327 t328 _ A21.out).mono ?_); rintro e w25 ⟨v329, rfl, ho0, hb⟩; refine ⟨_, rfl, ?_⟩; have n0_ := Aside0.mk (Kd.R_elder' (by (with_reducible repeat (first | apply Kd.R_alloc | apply Kd.R_drewN | apply Kd.R_drew)); exact HO_9.out) (Kd.R_base ho0) hb); have n1_ := Aside0.mk (Kd.R_elder' (by (with_reducible repeat (first | apply Kd.R_alloc | apply Kd.R_drewN | apply Kd.R_drew)); exact HO_11.out) (Kd.R_base ho0) hb); have n2_ := Aside0.mk (Kd.R_lower (Kd.R_new' (Kd.R_new' ho0 (Kd.R_lt (by (with_reducible repeat (first | apply Kd.R_alloc | apply Kd.R_drewN | apply Kd.R_drew)); exact HO_9.out))) (Kd.R_lt (by (with_reducible repeat (first | apply Kd.R_alloc | apply Kd.R_drewN | apply Kd.R_drew)); exact HO_11.out))) (below_size (by repeat (first | (with_reducible first | exact HB.out | apply below_alloc | apply pw_below_drewN | apply below_drew1) | exact HB.out)))); have n3_ := Aside0.mk (below_step (by repeat (first | (with_reducible first | exact HB.out | apply below_alloc | apply pw_below_drewN | apply below_drew1) | exact HB.out)) hb); clear HO_9; clear HO_11; clear HB; have HO_9 := n0_; have HO_11 := n1_; have HO330 := n2_; have HB := n3_; clear n0_ n1_ n2_ n3_; (try clear hb); (try clear hb2); (try clear hk); (try clear hi); (try clear ho0)))
            (try simp only [Act.put, List.setIfInBounds_toArray, List.set_cons_zero, List.set_cons_succ])
            go_cut [69] (fun v69 wc => ∃ (kq : Nat) (x69_21 : Bool), v69 = .bool x69_21 ∧ Aside0 (laws_FnExactNumberedPattern.j1 kq t325 t324 x69_21 = some r) ∧ Aside0 (kq ≤ kj6) ∧ Aside0 (Kd.R (Kd.int .i64) 2 wc w.heap.size (fun _ => True) (.slice Ao23 t319.length co23) t325) ∧ Aside0 (Below w.heap.size w wc))
            case first =>
              have H := HC22.out
              clear HC22
              replace H := Option.bind_eq_some_iff.mp H
              obtain ⟨t331, A260, H⟩ := H
              replace H : (if t331 = true then (laws_FnExactNumberedPattern.j1 kj6 t325 t324 (t328 != t316)) else (laws_FnExactNumberedPattern.j1 kj6 t325 t324 true)) = some r := H
              have A26 := Aside0.mk A260
              clear A260
              by_cases c27 : t331 = true
              · subst c27
                have H1 : (laws_FnExactNumberedPattern.j1 kj6 t325 t324 (t328 != t316)) = some r := by rw [if_pos rfl] at H; exact H
                clear H
                have H := H1
                clear H1
                have H' := Aside0.mk H
                clear H
                obtain ⟨Ao28, co28, eo28⟩ := Kd.R_slice HO330.out
                subst eo28
                obtain ⟨Ao29, co29, eo29⟩ := Kd.R_slice HO_9.out
                subst eo29
                go_wp2_with (first | ((with_reducible refine gate_callee (f := 18) rfl ?_); refine goesL_ (some 63) rfl rfl Try.func18 (by kernel_rfl) rfl #[.slice Ao28 t327.length co28, .slice Ao29 t315.length co29] rfl (by (try simp only [List.map_toArray, List.map_cons, List.map_nil]); first | done | rfl | (simp only [List.length_drop, List.length_take]; rfl)) ?_; (with_reducible refine (laws_eqInt64S.calls kj6 _ _ t327 _ _ t315 true _ ?side1 ?side2 ?side3 ?side4 A26.out).mono ?_); (case side1 => repeat (first | exact (Kd.R_reads' HO330.out).2.2 | (with_reducible refine Kd.C_alloc ?_ _) | (with_reducible refine Kd.C_drewN ?_ _) | (with_reducible refine Kd.C_drew ?_))); (case side2 => exact (Kd.R_reads' HO330.out).2.1); (case side3 => repeat (first | exact (Kd.R_reads' HO_9.out).2.2 | (with_reducible refine Kd.C_alloc ?_ _) | (with_reducible refine Kd.C_drewN ?_ _) | (with_reducible refine Kd.C_drew ?_))); (case side4 => exact (Kd.R_reads' HO_9.out).2.1); rintro e w' ⟨rfl, ⟨nd, rfl⟩⟩; refine ⟨_, rfl, ?_⟩))
                go_meet
                case rel => exact ⟨_, ((t328 != t316)), (by first | rfl | (simp; done) | (simp [*]; done)), H', ⟨by have := HJ6.out; first | omega | exact Nat.le_refl _⟩, ⟨by (with_reducible repeat (first | apply Kd.R_alloc | apply Kd.R_drewN | apply Kd.R_drew)); exact Kd.R_mono HO_11.out (fun _ hk => trivial)⟩, ⟨by repeat (first | (with_reducible first | exact HB.out | apply below_alloc | apply pw_below_drewN | apply below_drew1) | exact HB.out)⟩⟩
              · replace c27 := Bool.eq_false_iff.mpr c27
                subst c27
                have H1 : (laws_FnExactNumberedPattern.j1 kj6 t325 t324 true) = some r := by rw [if_neg (show ¬ (false = true) by decide)] at H; exact H
                clear H
                have H := H1
                clear H1
                have H' := Aside0.mk H
                clear H
                obtain ⟨Ao30, co30, eo30⟩ := Kd.R_slice HO330.out
                subst eo30
                obtain ⟨Ao31, co31, eo31⟩ := Kd.R_slice HO_9.out
                subst eo31
                go_wp2_with (first | ((with_reducible refine gate_callee (f := 18) rfl ?_); refine goesL_ (some 63) rfl rfl Try.func18 (by kernel_rfl) rfl #[.slice Ao30 t327.length co30, .slice Ao31 t315.length co31] rfl (by (try simp only [List.map_toArray, List.map_cons, List.map_nil]); first | done | rfl | (simp only [List.length_drop, List.length_take]; rfl)) ?_; (with_reducible refine (laws_eqInt64S.calls kj6 _ _ t327 _ _ t315 false _ ?side1 ?side2 ?side3 ?side4 A26.out).mono ?_); (case side1 => repeat (first | exact (Kd.R_reads' HO330.out).2.2 | (with_reducible refine Kd.C_alloc ?_ _) | (with_reducible refine Kd.C_drewN ?_ _) | (with_reducible refine Kd.C_drew ?_))); (case side2 => exact (Kd.R_reads' HO330.out).2.1); (case side3 => repeat (first | exact (Kd.R_reads' HO_9.out).2.2 | (with_reducible refine Kd.C_alloc ?_ _) | (with_reducible refine Kd.C_drewN ?_ _) | (with_reducible refine Kd.C_drew ?_))); (case side4 => exact (Kd.R_reads' HO_9.out).2.1); rintro e w' ⟨rfl, ⟨nd, rfl⟩⟩; refine ⟨_, rfl, ?_⟩))
                go_meet
                case rel => exact ⟨_, (true), (by first | rfl | (simp; done) | (simp [*]; done)), H', ⟨by have := HJ6.out; first | omega | exact Nat.le_refl _⟩, ⟨by (with_reducible repeat (first | apply Kd.R_alloc | apply Kd.R_drewN | apply Kd.R_drew)); exact Kd.R_mono HO_11.out (fun _ hk => trivial)⟩, ⟨by repeat (first | (with_reducible first | exact HB.out | apply below_alloc | apply pw_below_drewN | apply below_drew1) | exact HB.out)⟩⟩
            case rest =>
              clear HC22
              try clear c1
              try clear c2
              try clear p2
              try clear c6
              try clear c11
              try clear c16
              try clear c18
              try clear c19
              try clear c19b0
              try clear c20
              try clear c20b0
              try clear c20b1
              try clear c25
              try clear c26
              try clear c27
              try clear p2
              obtain ⟨kq, x69_21, rfl, HA, HJ21, HO_11, HB⟩ := hcut
              have hl11_21 := (Kd.R_reads' HO_11.out).1
              rw [hl11_21] at HO_11
              (try simp only [hl11_21])
              cases kq with
              | zero => exact absurd HA.out (by simp [laws_FnExactNumberedPattern.j1])
              | succ kj21 =>
                have H := HA.out
                clear HA
                simp only [laws_FnExactNumberedPattern.j1] at H
                by_cases c32 : x69_21 = true
                · subst c32
                  have H1 : (some false) = some r := by rw [if_pos rfl] at H; exact H
                  clear H
                  have H := H1
                  clear H1
                  exact absurd ((Option.some.inj H).trans HT.out) (by decide)
                · replace c32 := Bool.eq_false_iff.mpr c32
                  subst c32
                  have H1 : ((laws_heldInt64S.f kj21 t325 1).bind fun t332 => (if t332 < 0 then (some false) else (if t332 = t324 then (some true) else (some false)))) = some r := by rw [if_neg (show ¬ (false = true) by decide)] at H; exact H
                  clear H
                  have H := H1
                  clear H1
                  replace H := Option.bind_eq_some_iff.mp H
                  obtain ⟨t332, A330, H⟩ := H
                  replace H : (if t332 < 0 then (some false) else (if t332 = t324 then (some true) else (some false))) = some r := H
                  have A33 := Aside0.mk A330
                  clear A330
                  by_cases c34 : t332 < 0
                  · rw [if_pos c34] at H
                    have c34b0 : decide (t332 < 0) = true := decide_eq_true c34
                    have c34b2 := c34b0; (try simp only [hl11_21] at c34b2)
                    clear c34
                    exact absurd ((Option.some.inj H).trans HT.out) (by decide)
                  · rw [if_neg c34] at H
                    have c34b0 : decide (t332 < 0) = false := decide_eq_false c34
                    have c34b2 := c34b0; (try simp only [hl11_21] at c34b2)
                    clear c34
                    by_cases c35 : t332 = t324
                    · rw [if_pos c35] at H
                      have c35b0 : (t332 == t324) = true := beq_iff_eq.mpr c35
                      have c35b1 : (t332 != t324) = false := bne_eq_false_iff_eq.mpr c35
                      clear c35
                      obtain rfl := Option.some.inj H
                      go_wp2_with (first | ((with_reducible refine gate_callee (f := 20) rfl ?_); refine goesL_ (some 72) rfl rfl Try.func20 (by kernel_rfl) rfl #[.slice Ao23 t325.length co23, .int .i64 1] rfl (by (try simp only [List.map_toArray, List.map_cons, List.map_nil]); first | done | rfl | (simp only [List.length_drop, List.length_take]; rfl)) ?_; (with_reducible refine (laws_heldInt64S.calls kj21 _ _ t325 1 t332 _ ?side1 ?side2 A33.out).mono ?_); (case side1 => repeat (first | exact (Kd.R_reads' HO_11.out).2.2 | (with_reducible refine Kd.C_alloc ?_ _) | (with_reducible refine Kd.C_drewN ?_ _) | (with_reducible refine Kd.C_drew ?_))); (case side2 => exact (Kd.R_reads' HO_11.out).2.1); rintro e w' ⟨rfl, ⟨nd, rfl⟩⟩; refine ⟨_, rfl, ?_⟩))
                      go_ret
                      exact ⟨by first | rfl | (simp [errW_none, errW_some] <;> rfl) | (simp [*, errW_none, errW_some] <;> rfl), by repeat (first | (with_reducible first | exact HB.out | apply below_alloc | apply pw_below_drewN | apply below_drew1) | exact HB.out)⟩
                    · rw [if_neg c35] at H
                      have c35b0 : (t332 == t324) = false := beq_eq_false_iff_ne.mpr c35
                      have c35b1 : (t332 != t324) = true := bne_iff_ne.mpr c35
                      exact absurd ((Option.some.inj H).trans HT.out) (by decide)
          · rw [if_neg c20] at H
            have c20b0 : (t326 == t324) = false := beq_eq_false_iff_ne.mpr c20
            have c20b1 : (t326 != t324) = true := bne_iff_ne.mpr c20
            exact absurd ((Option.some.inj H).trans HT.out) (by decide)

/-- THE ONE PURE STATEMENT of laws_FnExactNumberedPattern. -/
def laws_FnExactNumberedPattern.Pure : Prop := ∀ (a0 : Int) (a1 : Int) (a2 : Int) (a3 : Int), (Lit.int .i64 a0).wf = true → (Lit.int .i64 a1).wf = true → (Lit.int .i64 a2).wf = true → (Lit.int .i64 a3).wf = true → ∃ k, laws_FnExactNumberedPattern.f k a0 a1 a2 a3 = some true
theorem laws_FnExactNumberedPattern.walk (P : laws_FnExactNumberedPattern.Pure) (a0 : Int) (a1 : Int) (a2 : Int) (a3 : Int) (w : World)  (w0 : (Lit.int .i64 a0).wf = true) (w1 : (Lit.int .i64 a1).wf = true) (w2 : (Lit.int .i64 a2).wf = true) (w3 : (Lit.int .i64 a3).wf = true) :
    Calls Try.prog 6 #[.int .i64 a0, .int .i64 a1, .int .i64 a2, .int .i64 a3] w fun e w' => e = .returned (.bool true) ∧ Below w.heap.size w w' := by
  obtain ⟨k, h⟩ := P a0 a1 a2 a3 w0 w1 w2 w3
  refine (laws_FnExactNumberedPattern.calls k a0 a1 a2 a3 true w  rfl h).mono ?_
  rintro e w' ⟨rfl, hd⟩
  exact ⟨rfl, hd⟩

end Go.Proofs.Ytddhommmokdlnaa.P
end

section
namespace Go.Proofs.Ytddhommmokdlnaa.Pure
open Go.RowKit Go.Proofs.Ytddhommmokdlnaa.P Go.Proofs.YtddhommmokdlnaaW.PrintWords Go.Proofs.YtddhommmokdlnaaW.PrintLast Go.Proofs.YtddhommmokdlnaaW.PrintMore
set_option linter.unusedVariables false
set_option linter.unusedSimpArgs false

theorem numPat_S (D L : Nat) (leap num : Int) (out row : List Int) (a e : Nat) (hD : D ≤ 12) (he : e < D) (ha : a < D) (hrl : row.length = D) (ho : out.length ≤ 8) (o1 : (e : Int) ≠ a) (o2 : ¬ (max ((e : Int) - a) (-((e : Int) - a)) > leap)) (r : List Int × Int) (h : Ev (fun k => if num < rd row e then spec_NumberedPattern.l0 k D L leap num (out ++ [(e : Int)]) else spec_NumberedPattern.l1 k D L leap (wrap64 (num - rd row e)) out row a ((e + 1 : Nat) : Int)) r) : Ev (fun k => spec_NumberedPattern.l1 k D L leap num out row a e) r := by
  have w1 : wrap64 ((e : Int) + 1) = ((e + 1 : Nat) : Int) := by rw [w64 (by omega) (by omega)]; omega
  have w2 : wrap64 ((e : Int) - a) = (e : Int) - a := w64 (by omega) (by omega)
  have f1 : (e : Int) < (D : Int) := by omega
  have f2 : (0 : Int) ≤ (e : Int) := by omega
  have f3 : (e : Int) < (row.length : Int) := by omega
  have f4 : out.length < 17592186044416 := by omega
  have f5 : -9223372036854775807 ≤ (e : Int) - a := by omega
  have f6 : (e : Int) - a ≤ 9223372036854775807 := by omega
  refine Ev.succ ?_
  simp only [spec_NumberedPattern.l1, w2]
  refine Ev.ite_pos f1 (Ev.ite_neg o1 (Ev.bindc (spec_l04Abs_eq _ f5 f6) ?_))
  rw [decide_eq_false o2]
  refine Ev.succ ?_
  simp only [spec_NumberedPattern.j2, w1]
  refine Ev.ite_neg (by decide) (Ev.ite_pos f2 (Ev.ite_pos f3 ?_))
  by_cases q : num < rd row e
  · simp only [if_pos q] at h
    exact Ev.ite_pos q (Ev.ite_pos f4 h)
  · simp only [if_neg q] at h
    exact Ev.ite_neg q h
theorem numPat_I (D L : Nat) (leap num : Int) (out row : List Int) (T : List (List Int)) (a e : Nat) (left : Int) (hD : D ≤ 12) (hL : L ≤ 8) (he : e < D) (ha : a < D) (hrl : row.length = D) (ho : out.length ≤ 8) (o1 : (e : Int) ≠ a) (o2 : max ((e : Int) - a) (-((e : Int) - a)) ≤ leap) (l0 : 0 ≤ left) (l1 : left < T.length) (rT : rd_L1 T left = row) (hl : left ≤ 8) (r : List Int × Int) (h : Ev (fun k => if num < rd row e then impl_NumberedPattern.l0 k D leap num T (out ++ [(e : Int)]) (left - 1) else impl_NumberedPattern.l1 k D leap (wrap64 (num - rd row e)) T out left a D ((e + 1 : Nat) : Int)) r) : Ev (fun k => impl_NumberedPattern.l1 k D leap num T out left a D e) r := by
  have w1 : wrap64 ((e : Int) + 1) = ((e + 1 : Nat) : Int) := by rw [w64 (by clear o2 h rT; omega) (by clear o2 h rT; omega)]; clear o2 h rT; omega
  have w3 : wrap64 (left - 1) = left - 1 := w64 (by clear o2 h rT; omega) (by clear o2 h rT; omega)
  have f1 : (e : Int) < (D : Int) := by clear o2 h rT; omega
  have f2 : (0 : Int) ≤ (e : Int) := by clear o2 h rT; omega
  have f3 : (e : Int) < (row.length : Int) := by clear o2 h rT; omega
  have f4 : out.length < 17592186044416 := by clear o2 h rT; omega
  have ga : (0 : Int) ≤ (a : Int) ∧ (a : Int) ≤ 100 := by clear o2 h rT; omega
  have ge : (0 : Int) ≤ (e : Int) ∧ (e : Int) ≤ 100 := by clear o2 h rT; omega
  refine Ev.succ ?_
  simp only [impl_NumberedPattern.l1, w1, w3]
  refine Ev.ite_pos f1 (Ev.bindc (impl_leaps_eq _ _ _ ga ge) ?_)
  refine Ev.ite_pos (by rw [if_neg o1]; exact decide_eq_true o2) (Ev.ite_pos l0 (Ev.ite_pos l1 (Ev.ite_pos f2 ?_)))
  rw [rT]
  refine Ev.ite_pos f3 ?_
  by_cases q : num < rd row e
  · simp only [if_pos q] at h
    exact Ev.ite_pos q (Ev.ite_pos f4 h)
  · simp only [if_neg q] at h
    exact Ev.ite_neg q h
theorem numPat_N (D L : Nat) (leap num : Int) (out row : List Int) (T : List (List Int)) (a e : Nat) (left : Int) (hD : D ≤ 12) (he : e < D) (ha : a < D) (no : ¬ ((e : Int) ≠ a ∧ max ((e : Int) - a) (-((e : Int) - a)) ≤ leap)) (r : List Int × Int) (es : Ev (fun k => spec_NumberedPattern.l1 k D L leap num out row a ((e + 1 : Nat) : Int)) r) (ei : Ev (fun k => impl_NumberedPattern.l1 k D leap num T out left a D ((e + 1 : Nat) : Int)) r) : Ev (fun k => spec_NumberedPattern.l1 k D L leap num out row a e) r ∧ Ev (fun k => impl_NumberedPattern.l1 k D leap num T out left a D e) r := by
  have w1 : wrap64 ((e : Int) + 1) = ((e + 1 : Nat) : Int) := by rw [w64 (by clear no es ei; omega) (by clear no es ei; omega)]; clear no es ei; omega
  have w2 : wrap64 ((e : Int) - a) = (e : Int) - a := w64 (by clear no es ei; omega) (by clear no es ei; omega)
  have f1 : (e : Int) < (D : Int) := by clear no es ei; omega
  have f5 : -9223372036854775807 ≤ (e : Int) - a := by clear no es ei; omega
  have f6 : (e : Int) - a ≤ 9223372036854775807 := by clear no es ei; omega
  have ga : (0 : Int) ≤ (a : Int) ∧ (a : Int) ≤ 100 := by clear no es ei; omega
  have ge : (0 : Int) ≤ (e : Int) ∧ (e : Int) ≤ 100 := by clear no es ei; omega
  constructor
  · have j2 : Ev (fun k => spec_NumberedPattern.j2 k D L leap num out row a e true) r := by
      refine Ev.succ ?_
      simp only [spec_NumberedPattern.j2, w1]
      exact Ev.ite_pos trivial es
    refine Ev.succ ?_
    simp only [spec_NumberedPattern.l1, w2]
    refine Ev.ite_pos f1 ?_
    by_cases q : (e : Int) = a
    · exact Ev.ite_pos q j2
    · refine Ev.ite_neg q (Ev.bindc (spec_l04Abs_eq _ f5 f6) ?_)
      rw [decide_eq_true (show max ((e : Int) - a) (-((e : Int) - a)) > leap from Int.not_le.mp (fun z => no ⟨q, z⟩))]
      exact j2
  · refine Ev.succ ?_
    simp only [impl_NumberedPattern.l1, w1]
    refine Ev.ite_pos f1 (Ev.bindc (impl_leaps_eq _ _ _ ga ge) ?_)
    refine Ev.ite_neg ?_ ei
    by_cases q : (e : Int) = a
    · rw [if_pos q]; decide
    · rw [if_neg q, decide_eq_false (fun z => no ⟨q, z⟩)]
      decide
theorem numPat_run (D L : Nat) (leap : Int) (hD : D ≤ 12) (hL : L ≤ 8) : ∀ (m : Nat) (out : List Int) (a : Nat) (num : Int), L - out.length = m → 1 ≤ out.length → out.length ≤ L → a < D → rd out ((out.length : Int) - 1) = a → 0 ≤ num → num < rd (wlN D leap m) a → ∃ r : List Int, r.length ≤ L ∧ Ev (fun k => spec_NumberedPattern.l0 k D L leap num out) (r, 0) ∧ Ev (fun k => impl_NumberedPattern.l0 k D leap num (wtN D leap L) out ((L : Int) - 1 - out.length)) (r, 0) := by
  intro m
  induction m with
  | zero =>
    intro out a num hm h1 h2 _ _ _ _
    refine ⟨out, h2, ?_, ?_⟩
    · refine Ev.succ ?_
      simp only [spec_NumberedPattern.l0]
      exact Ev.ite_neg (by omega) (Ev.now _)
    · refine Ev.succ ?_
      simp only [impl_NumberedPattern.l0]
      exact Ev.ite_neg (by omega) (Ev.now _)
  | succ m ih =>
    intro out a num hm h1 h2 ha hlast h3 h4
    have el : ((L - 1 - out.length : Nat) : Int) = (L : Int) - 1 - out.length := by omega
    have em : L - 1 - out.length = m := by omega
    have hb := wlN_bound D leap hD m (by omega)
    have hq := wmax_le m (by omega)
    have hp := wmax_pos m
    have hrl := wlN_len D leap m
    rw [wlN_succ_at D leap hD m (by omega) a ha] at h4
    have key : ∀ (c e : Nat) (num : Int), D - e = c → e ≤ D → 0 ≤ num → num < wtail (wlN D leap m) leap a c e → ∃ r : List Int, r.length ≤ L ∧ Ev (fun k => spec_NumberedPattern.l1 k D L leap num out (wlN D leap m) a e) (r, 0) ∧ Ev (fun k => impl_NumberedPattern.l1 k D leap num (wtN D leap L) out ((L : Int) - 1 - out.length) a D e) (r, 0) := by
      intro c
      induction c with
      | zero =>
        intro e num _ _ h5 h6
        rw [wtail] at h6
        omega
      | succ c ic =>
        intro e num hc he h5 h6
        have hbe := hb e (by omega)
        have heD : e < D := by omega
        have hoL : out.length ≤ 8 := by omega
        have lT := wtN_len D leap L
        have rT : rd_L1 (wtN D leap L) ((L : Int) - 1 - out.length) = wlN D leap m := by rw [← el, wtN_at D leap L _ (by omega), em]
        have g0 : 0 ≤ (L : Int) - 1 - out.length := by omega
        have g1 : (L : Int) - 1 - out.length < ((wtN D leap L).length : Int) := by omega
        have g2 : (L : Int) - 1 - out.length ≤ 8 := by omega
        have g3 : ((out ++ [(e : Int)]).length : Int) = (out.length : Int) + 1 := by simp
        have g4 : (L : Int) - 1 - ((out ++ [(e : Int)]).length : Nat) = (L : Int) - 1 - out.length - 1 := by omega
        rw [wtail] at h6
        by_cases ok : (e : Int) ≠ a ∧ max ((e : Int) - a) (-((e : Int) - a)) ≤ leap
        · obtain ⟨o1, o2⟩ := ok
          rw [if_neg o1, if_pos o2] at h6
          have o3 : ¬ (max ((e : Int) - a) (-((e : Int) - a)) > leap) := Int.not_lt.mpr o2
          have S := numPat_S D L leap num out (wlN D leap m) a e hD heD ha hrl hoL o1 o3
          have I := numPat_I D L leap num out (wlN D leap m) (wtN D leap L) a e ((L : Int) - 1 - out.length) hD hL heD ha hrl hoL o1 o2 g0 g1 rT g2
          clear o2 o3
          by_cases q : num < rd (wlN D leap m) e
          · obtain ⟨r, lr, es, ei⟩ := ih (out ++ [(e : Int)]) e num (by simp; omega) (by simp) (by simp; omega) heD (by
              have : (((out ++ [(e : Int)]).length : Nat) : Int) - 1 = (out.length : Int) := by simp
              rw [this]
              simp [rd]) h5 q
            rw [g4] at ei
            exact ⟨r, lr, S _ (Ev.ite_pos q es), I _ (Ev.ite_pos q ei)⟩
          · obtain ⟨r, lr, es, ei⟩ := ic (e + 1) (num - rd (wlN D leap m) e) (by omega) (by omega) (by omega) (by omega)
            have ht := wtail_bound (wlN D leap m) leap a (wmax m) hp c (e + 1) (fun j h1 h2 => hb j (by omega))
            have hm2 : (c : Int) * wmax m ≤ 12 * wmax m := Int.mul_le_mul_of_nonneg_right (by omega) hp
            have w4 : wrap64 (num - rd (wlN D leap m) e) = num - rd (wlN D leap m) e := w64 (by omega) (by omega)
            exact ⟨r, lr, S _ (Ev.ite_neg q (by rw [w4]; exact es)), I _ (Ev.ite_neg q (by rw [w4]; exact ei))⟩
        · have h7 : num < wtail (wlN D leap m) leap a c (e + 1) := by
            by_cases q : (e : Int) = a
            · rw [if_pos q] at h6
              clear ok
              omega
            · rw [if_neg q, if_neg (fun z => ok ⟨q, z⟩)] at h6
              clear ok
              omega
          obtain ⟨r, lr, es, ei⟩ := ic (e + 1) num (by clear ok h6; omega) (by clear ok h6; omega) h5 h7
          have N := numPat_N D L leap num out (wlN D leap m) (wtN D leap L) a e ((L : Int) - 1 - out.length) hD heD ha ok (r, 0) es ei
          exact ⟨r, lr, N.1, N.2⟩
    obtain ⟨r, lr, es, ei⟩ := key D 0 num (by omega) (by omega) h3 h4
    have w5 : wrap64 ((out.length : Int) - 1) = (out.length : Int) - 1 := w64 (by omega) (by omega)
    refine ⟨r, lr, ?_, ?_⟩
    · refine Ev.succ ?_
      simp only [spec_NumberedPattern.l0, w5, hlast]
      have w6 : wrap64 (wrap64 ((L : Int) - 1) - (out.length : Int)) = (m : Int) := by rw [w64 (x := (L : Int) - 1) (by omega) (by omega), w64 (by omega) (by omega)]; omega
      rw [w6]
      exact Ev.ite_pos (by omega) (Ev.bind (spec_l14Ways_ev D m leap hD (by omega)) (Ev.ite_pos (by omega) (Ev.ite_pos (by omega) es)))
    · refine Ev.succ ?_
      simp only [impl_NumberedPattern.l0, w5, hlast]
      exact Ev.ite_pos (by omega) (Ev.ite_pos (by omega) (Ev.ite_pos (by omega) ei))
theorem bothNumberedPattern (d n leap num : Int) (wm : (Lit.int .i64 num).wf = true) : ∃ (r : List Int) (c : Int), r.length ≤ 8 ∧ Ev (fun k => spec_NumberedPattern.f k d n leap num) (r, c) ∧ Ev (fun k => impl_NumberedPattern.f k d n leap num) (r, c) := by
  cases h : askedN d n leap with
  | false =>
    refine ⟨[], 2, by simp, ?_, ?_⟩
    · unfold spec_NumberedPattern.f
      exact Ev.bindc (spec_l14Asked_eq d n leap) (Ev.ite_neg (by rw [h]; decide) (Ev.now _))
    · unfold impl_NumberedPattern.f
      exact Ev.bindc (impl_countOk_eq d n leap) (Ev.ite_neg (by rw [h]; decide) (Ev.now _))
  | true =>
    obtain ⟨hd, hn, hl⟩ := askedN_ok h
    obtain ⟨D, rfl⟩ := Int.eq_ofNat_of_zero_le (show 0 ≤ d by omega)
    obtain ⟨L, rfl⟩ := Int.eq_ofNat_of_zero_le (show 0 ≤ n by omega)
    have e : wrap64 ((L : Int) - 1) = ((L - 1 : Nat) : Int) := by rw [w64 (by omega) (by omega)]; omega
    have e2 : wrap64 ((L : Int) - 2) = (L : Int) - 1 - (([0] : List Int).length : Nat) := by rw [w64 (by omega) (by omega)]; simp; omega
    have wl := wlN_len D leap (L - 1)
    have hb := wlN_bound D leap (by omega) (L - 1) (by omega) 0 (by omega)
    have hq := wmax_le (L - 1) (by omega)
    have e3 : wrap64 (rd (wlN D leap (L - 1)) 0 - 1) = rd (wlN D leap (L - 1)) 0 - 1 := w64 (by have := hb.1; simp only [Int.natCast_zero] at this; omega) (by have := hb.2; simp only [Int.natCast_zero] at this; omega)
    have S : ∀ r, Ev (fun k => if 0 ≤ num ∧ num ≤ rd (wlN D leap (L - 1)) 0 - 1 then spec_NumberedPattern.l0 k D L leap num [0] else some ([], 3)) r → Ev (fun k => spec_NumberedPattern.f k D L leap num) r := by
      intro r hr
      unfold spec_NumberedPattern.f
      rw [e]
      refine Ev.bindc (spec_l14Asked_eq _ _ _) (Ev.ite_pos h (Ev.bind (spec_l14Ways_ev D (L - 1) leap (by omega) (by omega)) (Ev.ite_pos (by omega) (Ev.bindc (spec_l00In_eq _ _ _) ?_))))
      rw [e3]
      by_cases q : 0 ≤ num ∧ num ≤ rd (wlN D leap (L - 1)) 0 - 1
      · simp only [if_pos q] at hr
        exact Ev.ite_pos (by simpa using q) hr
      · simp only [if_neg q] at hr
        exact Ev.ite_neg (by simpa using q) hr
    have I : ∀ r, Ev (fun k => if 0 ≤ num ∧ num ≤ rd (wlN D leap (L - 1)) 0 - 1 then impl_NumberedPattern.l0 k D leap num (wtN D leap L) [0] ((L : Int) - 1 - (([0] : List Int).length : Nat)) else some ([], 3)) r → Ev (fun k => impl_NumberedPattern.f k D L leap num) r := by
      intro r hr
      unfold impl_NumberedPattern.f
      rw [e, e2]
      refine Ev.bindc (impl_countOk_eq _ _ _) (Ev.ite_pos h (Ev.bind (impl_patternCounts_ev D L leap (by omega) (by omega) (by omega)) ?_))
      rw [wtN_len, wtN_at D leap L (L - 1) (by omega)]
      refine Ev.ite_pos (by omega) (Ev.ite_pos (by omega) (Ev.ite_pos (by omega) (Ev.bindc (impl_within_eq _ _ _) ?_)))
      rw [e3]
      by_cases q : 0 ≤ num ∧ num ≤ rd (wlN D leap (L - 1)) 0 - 1
      · simp only [if_pos q] at hr
        exact Ev.ite_pos (by simpa using q) hr
      · simp only [if_neg q] at hr
        exact Ev.ite_neg (by simpa using q) hr
    by_cases q : 0 ≤ num ∧ num ≤ rd (wlN D leap (L - 1)) 0 - 1
    · obtain ⟨r, lr, es, ei⟩ := numPat_run D L leap (by omega) (by omega) (L - 1) [0] 0 num (by simp) (by simp) (by simp; omega) (by omega) (by simp [rd]) q.1 (by have := q.2; simp only [Int.natCast_zero]; omega)
      exact ⟨r, 0, by omega, S _ (Ev.ite_pos q es), I _ (Ev.ite_pos q ei)⟩
    · exact ⟨[], 3, by simp, S _ (Ev.ite_neg q (Ev.now _)), I _ (Ev.ite_neg q (Ev.now _))⟩
theorem FnExactNumberedPattern : laws_FnExactNumberedPattern.Pure := by
  intro a b c d wa wb wc wd
  refine Ev.out (r := true) ?_
  unfold laws_FnExactNumberedPattern.f
  obtain ⟨r, q, lr, es, ei⟩ := bothNumberedPattern a b c d wd
  refine Ev.bind es (Ev.bind ei (Ev.bind (eqInt64S_self r (by omega)) (Ev.ite_pos rfl (Ev.succ ?_))))
  simp only [laws_FnExactNumberedPattern.j0]
  refine Ev.ite_neg (by simp) ?_
  refine Ev.bind (markInt64S_ev r 1 (by omega) (by omega) (by omega)) ?_
  refine Ev.bind (heldInt64S_ev r.length 1 (by omega) (by omega) (by omega)) ?_
  refine Ev.ite_neg (by omega) ?_
  refine Ev.ite_pos rfl ?_
  refine Ev.bind ei (Ev.bind (eqInt64S_self r (by omega)) (Ev.ite_pos rfl (Ev.succ ?_)))
  simp only [laws_FnExactNumberedPattern.j1]
  refine Ev.ite_neg (by simp) ?_
  refine Ev.bind (heldInt64S_ev r.length 1 (by omega) (by omega) (by omega)) ?_
  refine Ev.ite_neg (by omega) ?_
  exact Ev.ite_pos rfl (Ev.now _)

end Go.Proofs.Ytddhommmokdlnaa.Pure
end
