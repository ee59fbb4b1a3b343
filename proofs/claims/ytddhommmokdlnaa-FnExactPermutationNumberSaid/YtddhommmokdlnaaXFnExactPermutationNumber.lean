/- The pure statement of FnExactPermutationNumber. No condition. -/
import Derived.Test.YtddhommmokdlnaaGb1
import Derived.Test.YtddhommmokdlnaaGb2
import Derived.Test.YtddhommmokdlnaaGb3
import Derived.Test.YtddhommmokdlnaaGb4
section
namespace Go.Proofs.Ytddhommmokdlnaa.P
open Go.RowKit Go.Proofs.YtddhommmokdlnaaW.PrintWords Go.Proofs.YtddhommmokdlnaaW.PrintLast Go.Proofs.YtddhommmokdlnaaW.PrintMore
attribute [local go_sem] max2_int min2_int max_two min_two max_three min_three max_four min_four   -- for this text's walks alone
set_option linter.unusedVariables false
set_option linter.unusedSimpArgs false

/-! ### laws_FnExactPermutationNumber: function 4 -/
def laws_FnExactPermutationNumber.j0 : Nat → List Int → List Int → Bool → Option (Bool)
  | 0, _, _, _ => none
  | k + 1, x0, x5, x31 => if x31 = true then (some false) else ((laws_toInt64S.f k x0).bind fun t198 => ((laws_eqInt64S.f k x5 t198).bind fun t201 => (if t201 = true then (some true) else (some false))))
def laws_FnExactPermutationNumber.f (k : Nat) (l0 : List Int) : Option (Bool) := if (l0.length : Int) > 1048576 then (some true) else ((laws_toInt64S.f k l0).bind fun t188 => ((spec_PermutationNumber.f k t188).bind fun bt191 => ((laws_toInt64S.f k l0).bind fun t193 => ((impl_PermutationNumber.f k t193).bind fun bt196 => (if bt196.1 = bt191.1 then (laws_FnExactPermutationNumber.j0 k l0 t193 (bt196.2 != bt191.2)) else (laws_FnExactPermutationNumber.j0 k l0 t193 true))))))
theorem laws_FnExactPermutationNumber.mono_l : ∀ k, (∀ y0 y1 y2, LeO (laws_FnExactPermutationNumber.j0 k y0 y1 y2) (laws_FnExactPermutationNumber.j0 (k + 1) y0 y1 y2))
  | 0 => fun _ _ _ r h => by simp [laws_FnExactPermutationNumber.j0] at h
  | k + 1 => by
    have ih0 := laws_FnExactPermutationNumber.mono_l k
    · intro y0 y1 y2
      unfold laws_FnExactPermutationNumber.j0
      repeat' first
      | (with_reducible exact ih0 _ _ _)
      | (with_reducible exact impl_PermutationNumber.mono _ _)
      | (with_reducible exact laws_eqInt64S.mono _ _ _)
      | (with_reducible exact laws_toInt64S.mono _ _)
      | (with_reducible exact spec_PermutationNumber.mono _ _)
      | (with_reducible exact LeO.refl _)
      | (with_reducible exact LeO.none _)
      | (with_reducible refine LeO.ite ?_ ?_)
      | (with_reducible refine LeO.bind ?_ (fun _ => ?_))
      | exact ih0 _ _ _
      | exact impl_PermutationNumber.mono _ _
      | exact laws_eqInt64S.mono _ _ _
      | exact laws_toInt64S.mono _ _
      | exact spec_PermutationNumber.mono _ _
      | exact LeO.none _
      | refine LeO.ite ?_ ?_
      | refine LeO.bind ?_ (fun _ => ?_)
theorem laws_FnExactPermutationNumber.mono : ∀ a0 k, LeO (laws_FnExactPermutationNumber.f k a0) (laws_FnExactPermutationNumber.f (k + 1) a0) := by
  intro a0 k
  have ih0 := laws_FnExactPermutationNumber.mono_l k
  unfold laws_FnExactPermutationNumber.f
  repeat' first
      | (with_reducible exact ih0 _ _ _)
      | (with_reducible exact impl_PermutationNumber.mono _ _)
      | (with_reducible exact laws_eqInt64S.mono _ _ _)
      | (with_reducible exact laws_toInt64S.mono _ _)
      | (with_reducible exact spec_PermutationNumber.mono _ _)
      | (with_reducible exact LeO.refl _)
      | (with_reducible exact LeO.none _)
      | (with_reducible refine LeO.ite ?_ ?_)
      | (with_reducible refine LeO.bind ?_ (fun _ => ?_))
      | exact ih0 _ _ _
      | exact impl_PermutationNumber.mono _ _
      | exact laws_eqInt64S.mono _ _ _
      | exact laws_toInt64S.mono _ _
      | exact spec_PermutationNumber.mono _ _
      | exact LeO.none _
      | refine LeO.ite ?_ ?_
      | refine LeO.bind ?_ (fun _ => ?_)
set_option maxHeartbeats 8000000 in
set_option maxRecDepth 100000 in
theorem laws_FnExactPermutationNumber.calls (k : Nat) (A0 : Option Addr) (c0 : Nat) (l0 : List Int) (r : Bool) (w : World) (hr0 : Kd.C (Kd.int .i64) w A0 l0.length l0) (hc0 : l0.length ≤ c0) (hT : r = true) (h : laws_FnExactPermutationNumber.f k l0 = some r) :
    Calls Try.prog 4 #[.slice A0 l0.length c0] w fun e w' => e = .returned (.bool r) ∧ Below w.heap.size w w' := by
  have HR0 := Aside0.mk hr0
  have HC0 := Aside0.mk hc0
  clear hr0 hc0
  have HT := Aside0.mk hT
  clear hT
  have HB := Aside0.mk (Below.refl w.heap.size w)
  have H : (if (l0.length : Int) > 1048576 then (some true) else ((laws_toInt64S.f k l0).bind fun t188 => ((spec_PermutationNumber.f k t188).bind fun bt191 => ((laws_toInt64S.f k l0).bind fun t193 => ((impl_PermutationNumber.f k t193).bind fun bt196 => (if bt196.1 = bt191.1 then (laws_FnExactPermutationNumber.j0 k l0 t193 (bt196.2 != bt191.2)) else (laws_FnExactPermutationNumber.j0 k l0 t193 true))))))) = some r := h
  clear h
  by_cases c2 : (l0.length : Int) > 1048576
  · rw [if_pos c2] at H
    have c2b0 : decide (1048576 < (l0.length : Int)) = true := decide_eq_true c2
    have c2b1 : decide (1048576 < l0.length) = true := decide_eq_true (by omega)
    clear c2
    obtain rfl := Option.some.inj H
    go_enter Try.func4, Try.ntmps4
    go_wp2
    go_ret
    exact ⟨by first | rfl | (simp [errW_none, errW_some] <;> rfl) | (simp [*, errW_none, errW_some] <;> rfl), by repeat (first | (with_reducible first | exact HB.out | apply below_alloc | apply pw_below_drewN | apply below_drew1) | exact HB.out)⟩
  · rw [if_neg c2] at H
    have c2b0 : decide (1048576 < (l0.length : Int)) = false := decide_eq_false c2
    have c2b1 : decide (1048576 < l0.length) = false := decide_eq_false (by omega)
    clear c2
    replace H := Option.bind_eq_some_iff.mp H
    obtain ⟨t188, A30, H⟩ := H
    replace H : ((spec_PermutationNumber.f k t188).bind fun bt191 => ((laws_toInt64S.f k l0).bind fun t193 => ((impl_PermutationNumber.f k t193).bind fun bt196 => (if bt196.1 = bt191.1 then (laws_FnExactPermutationNumber.j0 k l0 t193 (bt196.2 != bt191.2)) else (laws_FnExactPermutationNumber.j0 k l0 t193 true))))) = some r := H
    have A3 := Aside0.mk A30
    clear A30
    replace H := Option.bind_eq_some_iff.mp H
    obtain ⟨⟨t191, t192⟩, A40, H⟩ := H
    replace H : ((laws_toInt64S.f k l0).bind fun t193 => ((impl_PermutationNumber.f k t193).bind fun bt196 => (if bt196.1 = t191 then (laws_FnExactPermutationNumber.j0 k l0 t193 (bt196.2 != t192)) else (laws_FnExactPermutationNumber.j0 k l0 t193 true)))) = some r := H
    have A4 := Aside0.mk A40
    clear A40
    replace H := Option.bind_eq_some_iff.mp H
    obtain ⟨t193, A50, H⟩ := H
    replace H : ((impl_PermutationNumber.f k t193).bind fun bt196 => (if bt196.1 = t191 then (laws_FnExactPermutationNumber.j0 k l0 t193 (bt196.2 != t192)) else (laws_FnExactPermutationNumber.j0 k l0 t193 true))) = some r := H
    have A5 := Aside0.mk A50
    clear A50
    replace H := Option.bind_eq_some_iff.mp H
    obtain ⟨⟨t196, t197⟩, A60, H⟩ := H
    replace H : (if t196 = t191 then (laws_FnExactPermutationNumber.j0 k l0 t193 (t197 != t192)) else (laws_FnExactPermutationNumber.j0 k l0 t193 true)) = some r := H
    have A6 := Aside0.mk A60
    clear A60
    have HC7 := Aside0.mk H
    clear H
    go_enter Try.func4, Try.ntmps4
    go_upto_region 6 with (first | ((with_reducible refine gate_callee (f := 16) rfl ?_); refine goesL_ (some 13) rfl rfl Try.func16 (by kernel_rfl) rfl #[.slice A0 l0.length c0] rfl (by (try simp only [List.map_toArray, List.map_cons, List.map_nil]); first | done | rfl | (simp only [List.length_drop, List.length_take]; rfl)) ?_; (with_reducible refine (laws_toInt64S.calls k _ _ l0 t188 _ ?side1 ?side2 A3.out).mono ?_); (case side1 => repeat (first | exact HR0.out | (with_reducible refine Kd.C_alloc ?_ _) | (with_reducible refine Kd.C_drewN ?_ _) | (with_reducible refine Kd.C_drew ?_))); (case side2 => exact HC0.out); rintro e w8 ⟨v189, rfl, ho0, hb⟩; refine ⟨_, rfl, ?_⟩; have n0_ := Aside0.mk (Kd.R_lower ho0 (below_size (by repeat (first | (with_reducible first | exact HB.out | apply below_alloc | apply pw_below_drewN | apply below_drew1) | exact HB.out)))); have n1_ := Aside0.mk (below_step (by repeat (first | (with_reducible first | exact HB.out | apply below_alloc | apply pw_below_drewN | apply below_drew1) | exact HB.out)) hb); clear HB; have HO190 := n0_; have HB := n1_; clear n0_ n1_; (try clear hb); (try clear hb2); (try clear hk); (try clear hi); (try clear ho0); obtain ⟨Ao9, co9, eo9⟩ := Kd.R_slice HO190.out; subst eo9) | ((with_reducible refine gate_callee (f := 21) rfl ?_); refine goesL_ (some 14) rfl rfl Try.func21 (by kernel_rfl) rfl #[.slice Ao9 t188.length co9] rfl (by (try simp only [List.map_toArray, List.map_cons, List.map_nil]); first | done | rfl | (simp only [List.length_drop, List.length_take]; rfl)) ?_; (with_reducible refine (spec_PermutationNumber.calls k _ _ t188 t191 t192 _ ?side1 ?side2 A4.out).mono ?_); (case side1 => repeat (first | exact (Kd.R_reads' HO190.out).2.2 | (with_reducible refine Kd.C_alloc ?_ _) | (with_reducible refine Kd.C_drewN ?_ _) | (with_reducible refine Kd.C_drew ?_))); (case side2 => exact (Kd.R_reads' HO190.out).2.1); rintro e w' ⟨rfl, ⟨nd, rfl⟩⟩; refine ⟨_, rfl, ?_⟩) | ((with_reducible refine gate_callee (f := 16) rfl ?_); refine goesL_ (some 18) rfl rfl Try.func16 (by kernel_rfl) rfl #[.slice A0 l0.length c0] rfl (by (try simp only [List.map_toArray, List.map_cons, List.map_nil]); first | done | rfl | (simp only [List.length_drop, List.length_take]; rfl)) ?_; (with_reducible refine (laws_toInt64S.calls k _ _ l0 t193 _ ?side1 ?side2 A5.out).mono ?_); (case side1 => repeat (first | exact (Kd.C_below HR0.out (by repeat (first | (with_reducible first | exact HB.out | apply below_alloc | apply pw_below_drewN | apply below_drew1) | exact HB.out))) | (with_reducible refine Kd.C_alloc ?_ _) | (with_reducible refine Kd.C_drewN ?_ _) | (with_reducible refine Kd.C_drew ?_))); (case side2 => exact HC0.out); rintro e w10 ⟨v194, rfl, ho0, hb⟩; refine ⟨_, rfl, ?_⟩; have n0_ := Aside0.mk (Kd.R_elder' (by (with_reducible repeat (first | apply Kd.R_alloc | apply Kd.R_drewN | apply Kd.R_drew)); exact HO190.out) (Kd.R_base ho0) hb); have n1_ := Aside0.mk (Kd.R_lower (Kd.R_new' ho0 (Kd.R_lt (by (with_reducible repeat (first | apply Kd.R_alloc | apply Kd.R_drewN | apply Kd.R_drew)); exact HO190.out))) (below_size (by repeat (first | (with_reducible first | exact HB.out | apply below_alloc | apply pw_below_drewN | apply below_drew1) | exact HB.out)))); have n2_ := Aside0.mk (below_step (by repeat (first | (with_reducible first | exact HB.out | apply below_alloc | apply pw_below_drewN | apply below_drew1) | exact HB.out)) hb); clear HO190; clear HB; have HO190 := n0_; have HO195 := n1_; have HB := n2_; clear n0_ n1_ n2_; (try clear hb); (try clear hb2); (try clear hk); (try clear hi); (try clear ho0); obtain ⟨Ao11, co11, eo11⟩ := Kd.R_slice HO195.out; subst eo11) | ((with_reducible refine gate_callee (f := 22) rfl ?_); refine goesL_ (some 21) rfl rfl Try.func22 (by kernel_rfl) rfl #[.slice Ao11 t193.length co11] rfl (by (try simp only [List.map_toArray, List.map_cons, List.map_nil]); first | done | rfl | (simp only [List.length_drop, List.length_take]; rfl)) ?_; (with_reducible refine (impl_PermutationNumber.calls k _ _ t193 t196 t197 _ ?side1 ?side2 A6.out).mono ?_); (case side1 => repeat (first | exact (Kd.R_reads' HO195.out).2.2 | (with_reducible refine Kd.C_alloc ?_ _) | (with_reducible refine Kd.C_drewN ?_ _) | (with_reducible refine Kd.C_drew ?_))); (case side2 => exact (Kd.R_reads' HO195.out).2.1); rintro e w12 ⟨rfl, hb⟩; refine ⟨_, rfl, ?_⟩; have n0_ := Aside0.mk (Kd.R_below (by (with_reducible repeat (first | apply Kd.R_alloc | apply Kd.R_drewN | apply Kd.R_drew)); exact HO190.out) hb); have n1_ := Aside0.mk (Kd.R_below (by (with_reducible repeat (first | apply Kd.R_alloc | apply Kd.R_drewN | apply Kd.R_drew)); exact HO195.out) hb); have n2_ := Aside0.mk (below_step (by repeat (first | (with_reducible first | exact HB.out | apply below_alloc | apply pw_below_drewN | apply below_drew1) | exact HB.out)) hb); clear HO190; clear HO195; clear HB; have HO190 := n0_; have HO195 := n1_; have HB := n2_; clear n0_ n1_ n2_; (try clear hb); (try clear hb2); (try clear hk); (try clear hi)))
    (try simp only [Act.put, List.setIfInBounds_toArray, List.set_cons_zero, List.set_cons_succ])
    go_cut [31] (fun v31 wc => ∃ (kq : Nat) (x31_6 : Bool), v31 = .bool x31_6 ∧ Aside0 (laws_FnExactPermutationNumber.j0 kq l0 t193 x31_6 = some r) ∧ Aside0 (kq ≤ k) ∧ Aside0 (Kd.R (Kd.int .i64) 2 wc w.heap.size (fun _ => True) (.slice Ao11 t193.length co11) t193) ∧ Aside0 (Below w.heap.size w wc))
    case first =>
      have H := HC7.out
      clear HC7
      by_cases c13 : t196 = t191
      · rw [if_pos c13] at H
        have c13b0 : (t196 == t191) = true := beq_iff_eq.mpr c13
        have c13b1 : (t196 != t191) = false := bne_eq_false_iff_eq.mpr c13
        clear c13
        (first | rw [c13b0] | (simp only [i64_w, i32_w]; rw [c13b0]) | skip)
        have H' := Aside0.mk H
        clear H
        go_wp2
        go_meet
        case rel => exact ⟨_, ((t197 != t192)), (by first | rfl | (simp; done) | (simp [*]; done)), H', ⟨by first | omega | exact Nat.le_refl _⟩, ⟨by (with_reducible repeat (first | apply Kd.R_alloc | apply Kd.R_drewN | apply Kd.R_drew)); exact Kd.R_mono HO195.out (fun _ hk => trivial)⟩, ⟨by repeat (first | (with_reducible first | exact HB.out | apply below_alloc | apply pw_below_drewN | apply below_drew1) | exact HB.out)⟩⟩
      · rw [if_neg c13] at H
        have c13b0 : (t196 == t191) = false := beq_eq_false_iff_ne.mpr c13
        have c13b1 : (t196 != t191) = true := bne_iff_ne.mpr c13
        (first | rw [c13b0] | (simp only [i64_w, i32_w]; rw [c13b0]) | skip)
        have H' := Aside0.mk H
        clear H
        go_wp2
        go_meet
        case rel => exact ⟨_, (true), (by first | rfl | (simp; done) | (simp [*]; done)), H', ⟨by first | omega | exact Nat.le_refl _⟩, ⟨by (with_reducible repeat (first | apply Kd.R_alloc | apply Kd.R_drewN | apply Kd.R_drew)); exact Kd.R_mono HO195.out (fun _ hk => trivial)⟩, ⟨by repeat (first | (with_reducible first | exact HB.out | apply below_alloc | apply pw_below_drewN | apply below_drew1) | exact HB.out)⟩⟩
    case rest =>
      clear HC7
      try clear c1
      try clear c2
      try clear c2b0
      try clear c2b1
      try clear p2
      try clear c4
      try clear c13
      try clear c13b0
      try clear c13b1
      obtain ⟨kq, x31_6, rfl, HA, HJ6, HO_5, HB⟩ := hcut
      cases kq with
      | zero => exact absurd HA.out (by simp [laws_FnExactPermutationNumber.j0])
      | succ kj6 =>
        have H := HA.out
        clear HA
        simp only [laws_FnExactPermutationNumber.j0] at H
        by_cases c14 : x31_6 = true
        · subst c14
          have H1 : (some false) = some r := by rw [if_pos rfl] at H; exact H
          clear H
          have H := H1
          clear H1
          exact absurd ((Option.some.inj H).trans HT.out) (by decide)
        · replace c14 := Bool.eq_false_iff.mpr c14
          subst c14
          have H1 : ((laws_toInt64S.f kj6 l0).bind fun t198 => ((laws_eqInt64S.f kj6 t193 t198).bind fun t201 => (if t201 = true then (some true) else (some false)))) = some r := by rw [if_neg (show ¬ (false = true) by decide)] at H; exact H
          clear H
          have H := H1
          clear H1
          replace H := Option.bind_eq_some_iff.mp H
          obtain ⟨t198, A150, H⟩ := H
          replace H : ((laws_eqInt64S.f kj6 t193 t198).bind fun t201 => (if t201 = true then (some true) else (some false))) = some r := H
          have A15 := Aside0.mk A150
          clear A150
          replace H := Option.bind_eq_some_iff.mp H
          obtain ⟨t201, A160, H⟩ := H
          replace H : (if t201 = true then (some true) else (some false)) = some r := H
          have A16 := Aside0.mk A160
          clear A160
          by_cases c17 : t201 = true
          · subst c17
            have H1 : (some true) = some r := by rw [if_pos rfl] at H; exact H
            clear H
            have H := H1
            clear H1
            obtain rfl := Option.some.inj H
            go_wp2_with (first | ((with_reducible refine gate_callee (f := 16) rfl ?_); refine goesL_ (some 34) rfl rfl Try.func16 (by kernel_rfl) rfl #[.slice A0 l0.length c0] rfl (by (try simp only [List.map_toArray, List.map_cons, List.map_nil]); first | done | rfl | (simp only [List.length_drop, List.length_take]; rfl)) ?_; (with_reducible refine (laws_toInt64S.calls kj6 _ _ l0 t198 _ ?side1 ?side2 A15.out).mono ?_); (case side1 => repeat (first | exact (Kd.C_below HR0.out HB.out) | (with_reducible refine Kd.C_alloc ?_ _) | (with_reducible refine Kd.C_drewN ?_ _) | (with_reducible refine Kd.C_drew ?_))); (case side2 => exact HC0.out); rintro e w18 ⟨v199, rfl, ho0, hb⟩; refine ⟨_, rfl, ?_⟩; have n0_ := Aside0.mk (Kd.R_elder' (by (with_reducible repeat (first | apply Kd.R_alloc | apply Kd.R_drewN | apply Kd.R_drew)); exact HO_5.out) (Kd.R_base ho0) hb); have n1_ := Aside0.mk (Kd.R_lower (Kd.R_new' ho0 (Kd.R_lt (by (with_reducible repeat (first | apply Kd.R_alloc | apply Kd.R_drewN | apply Kd.R_drew)); exact HO_5.out))) (below_size (by repeat (first | (with_reducible first | exact HB.out | apply below_alloc | apply pw_below_drewN | apply below_drew1) | exact HB.out)))); have n2_ := Aside0.mk (below_step (by repeat (first | (with_reducible first | exact HB.out | apply below_alloc | apply pw_below_drewN | apply below_drew1) | exact HB.out)) hb); clear HO_5; clear HB; have HO_5 := n0_; have HO200 := n1_; have HB := n2_; clear n0_ n1_ n2_; (try clear hb); (try clear hb2); (try clear hk); (try clear hi); (try clear ho0); obtain ⟨Ao19, co19, eo19⟩ := Kd.R_slice HO200.out; subst eo19) | ((with_reducible refine gate_callee (f := 18) rfl ?_); refine goesL_ (some 35) rfl rfl Try.func18 (by kernel_rfl) rfl #[.slice Ao11 t193.length co11, .slice Ao19 t198.length co19] rfl (by (try simp only [List.map_toArray, List.map_cons, List.map_nil]); first | done | rfl | (simp only [List.length_drop, List.length_take]; rfl)) ?_; (with_reducible refine (laws_eqInt64S.calls kj6 _ _ t193 _ _ t198 true _ ?side1 ?side2 ?side3 ?side4 A16.out).mono ?_); (case side1 => repeat (first | exact (Kd.R_reads' HO_5.out).2.2 | (with_reducible refine Kd.C_alloc ?_ _) | (with_reducible refine Kd.C_drewN ?_ _) | (with_reducible refine Kd.C_drew ?_))); (case side2 => exact (Kd.R_reads' HO_5.out).2.1); (case side3 => repeat (first | exact (Kd.R_reads' HO200.out).2.2 | (with_reducible refine Kd.C_alloc ?_ _) | (with_reducible refine Kd.C_drewN ?_ _) | (with_reducible refine Kd.C_drew ?_))); (case side4 => exact (Kd.R_reads' HO200.out).2.1); rintro e w' ⟨rfl, ⟨nd, rfl⟩⟩; refine ⟨_, rfl, ?_⟩))
            go_ret
            exact ⟨by first | rfl | (simp [errW_none, errW_some] <;> rfl) | (simp [*, errW_none, errW_some] <;> rfl), by repeat (first | (with_reducible first | exact HB.out | apply below_alloc | apply pw_below_drewN | apply below_drew1) | exact HB.out)⟩
          · replace c17 := Bool.eq_false_iff.mpr c17
            subst c17
            have H1 : (some false) = some r := by rw [if_neg (show ¬ (false = true) by decide)] at H; exact H
            clear H
            have H := H1
            clear H1
            exact absurd ((Option.some.inj H).trans HT.out) (by decide)

/-- THE ONE PURE STATEMENT of laws_FnExactPermutationNumber. -/
def laws_FnExactPermutationNumber.Pure : Prop := ∀ (l0 : List Int), (l0.length ≤ maxLen ∧ ∀ y0 ∈ l0, (Lit.int .i64 y0).wf = true) → ∃ k, laws_FnExactPermutationNumber.f k l0 = some true
theorem laws_FnExactPermutationNumber.walk (P : laws_FnExactPermutationNumber.Pure) (A0 : Option Addr) (c0 : Nat) (l0 : List Int) (w : World) (hr0 : Kd.C (Kd.int .i64) w A0 l0.length l0) (hc0 : l0.length ≤ c0) (w0 : (l0.length ≤ maxLen ∧ ∀ y0 ∈ l0, (Lit.int .i64 y0).wf = true)) :
    Calls Try.prog 4 #[.slice A0 l0.length c0] w fun e w' => e = .returned (.bool true) ∧ Below w.heap.size w w' := by
  obtain ⟨k, h⟩ := P l0 w0
  refine (laws_FnExactPermutationNumber.calls k _ _ l0 true w hr0 hc0 rfl h).mono ?_
  rintro e w' ⟨rfl, hd⟩
  exact ⟨rfl, hd⟩

end Go.Proofs.Ytddhommmokdlnaa.P
end

section
namespace Go.Proofs.Ytddhommmokdlnaa.Pure
open Go.RowKit Go.Proofs.Ytddhommmokdlnaa.P Go.Proofs.YtddhommmokdlnaaW.PrintWords Go.Proofs.YtddhommmokdlnaaW.PrintLast Go.Proofs.YtddhommmokdlnaaW.PrintMore
set_option linter.unusedVariables false
set_option linter.unusedSimpArgs false

def hasM (l : List Int) (v : Int) : Bool := l.any fun n => decide (n = v)
theorem idxM_has (s : List Int) (t : Int) : ∀ d i, s.length - i = d → decide (idxM s t d i ≥ 0) = hasM (s.drop i) t := by
  intro d
  induction d with
  | zero =>
    intro i hd
    rw [List.drop_of_length_le (by omega)]
    simp [idxM, hasM]
  | succ d ih =>
    intro i hd
    have hi : i < s.length := by omega
    by_cases h : rd s i = t
    · have e : idxM s t (d + 1) i = (i : Int) := by
        simp only [idxM]
        rw [if_pos h]
      rw [e, List.drop_eq_getElem_cons hi, ← rd_at hi, decide_eq_true (show (i : Int) ≥ 0 by omega)]
      simp [hasM, h]
    · have e : idxM s t (d + 1) i = idxM s t d (i + 1) := by
        simp only [idxM]
        rw [if_neg h]
      rw [e, ih (i + 1) (by omega), List.drop_eq_getElem_cons hi, ← rd_at hi]
      simp [hasM, h]
theorem slices_Contains_ev (s : List Int) (t : Int) (hl : s.length ≤ 1048576) : Ev (fun k => slices_Contains_int64_int64.f k s t) (hasM s t) := by
  unfold slices_Contains_int64_int64.f
  refine Ev.bind (a := idxM s t s.length 0) ?_ ?_
  · unfold slices_Index_int64_int64.f
    simpa using slices_Index_l0 s t hl s.length 0 (by omega)
  · refine Ev.cast (Ev.now _) ?_
    simpa using idxM_has s t s.length 0 (by omega)
theorem spec_l00Has_l0 (s : List Int) (t : Int) (hl : s.length ≤ 1048576) : ∀ (d i : Nat), s.length - i = d → Ev (fun k => spec_l00Has.l0 k s t i) (hasM (s.drop i) t) := by
  intro d
  induction d with
  | zero =>
    intro i hd
    refine Ev.succ ?_
    simp only [spec_l00Has.l0]
    refine Ev.ite_neg (by omega) ?_
    rw [List.drop_of_length_le (by omega)]
    exact Ev.now _
  | succ d ih =>
    intro i hd
    have hi : i < s.length := by omega
    refine Ev.succ ?_
    simp only [spec_l00Has.l0]
    rw [w64 (x := (i : Int) + 1) (by omega) (by omega), List.drop_eq_getElem_cons hi, ← rd_at hi]
    refine Ev.ite_pos (by omega) (Ev.ite_pos (by omega) ?_)
    by_cases h : rd s i = t
    · refine Ev.ite_pos h (Ev.cast (Ev.now _) ?_)
      simp [hasM, h]
    · refine Ev.ite_neg h (Ev.cast (by simpa using ih (i + 1) (by omega)) ?_)
      simp [hasM, h]
theorem spec_l00Has_ev (s : List Int) (t : Int) (hl : s.length ≤ 1048576) : Ev (fun k => spec_l00Has.f k s t) (hasM s t) := by
  unfold spec_l00Has.f
  simpa using spec_l00Has_l0 s t hl s.length 0 (by omega)
def dupF (l : List Int) : Nat → Nat → Bool
  | 0, _ => true
  | d + 1, i => !(hasM (l.take i) (rd l i)) && dupF l d (i + 1)
def permB (l : List Int) : Bool := (l.all inP && dupF l l.length 0) && (decide (1 ≤ l.length) && decide (l.length ≤ 8))
theorem impl_permutedOk_l0 (l : List Int) (hl : l.length ≤ 1048576) : ∀ (d i : Nat), l.length - i = d → i ≤ l.length → Ev (fun k => impl_permutedOk.l0 k l l (l.length : Int) i) ((dupF l d i) && (decide (1 ≤ l.length) && (decide (l.length ≤ 8) && l.all inP))) := by
  intro d
  induction d with
  | zero =>
    intro i hd hi
    refine Ev.succ ?_
    simp only [impl_permutedOk.l0]
    refine Ev.ite_neg (by omega) ?_
    by_cases h : (l.length : Int) ≥ 1
    · have h' : 1 ≤ l.length := by omega
      refine Ev.ite_pos h ?_
      by_cases g : (l.length : Int) ≤ 8
      · have g' : l.length ≤ 8 := by omega
        refine Ev.ite_pos g (Ev.bindc (show impl_allWithin.f l (-12) 23 = some _ from rfl) (Ev.cast (Ev.now _) ?_))
        simp only [dupF, h', g', decide_true, Bool.true_and]
        rfl
      · have g' : ¬ l.length ≤ 8 := by omega
        refine Ev.ite_neg g (Ev.cast (Ev.now _) ?_)
        simp [g']
    · have h' : ¬ 1 ≤ l.length := by omega
      refine Ev.ite_neg h (Ev.cast (Ev.now _) ?_)
      simp [h']
  | succ d ih =>
    intro i hd hi
    refine Ev.succ ?_
    simp only [impl_permutedOk.l0]
    rw [w64 (x := (i : Int) + 1) (by omega) (by omega), Int.toNat_natCast]
    refine Ev.ite_pos (by omega) (Ev.ite_pos (by omega) (Ev.ite_pos (by omega) (Ev.ite_pos (by omega) (Ev.bind (slices_Contains_ev (l.take i) (rd l i) (by simp; omega)) ?_))))
    cases h : hasM (l.take i) (rd l i) with
    | true =>
      refine Ev.ite_pos rfl (Ev.cast (Ev.now _) ?_)
      simp [dupF, h]
    | false =>
      refine Ev.ite_neg (by decide) (Ev.cast (by simpa using ih (i + 1) (by omega) (by omega)) ?_)
      simp [dupF, h]
theorem impl_permutedOk_ev (l : List Int) (hl : l.length ≤ 1048576) : Ev (fun k => impl_permutedOk.f k l) (permB l) := by
  unfold impl_permutedOk.f
  refine Ev.cast (by simpa using impl_permutedOk_l0 l hl l.length 0 (by omega) (by omega)) ?_
  unfold permB
  cases dupF l l.length 0 <;> cases l.all inP <;> simp
theorem spec_l14Permuted_l0 (l : List Int) (hl : l.length ≤ 1048576) : ∀ (d i : Nat), l.length - i = d → i ≤ l.length → Ev (fun k => spec_l14Permuted.l0 k l i) (((l.drop i).all inP && dupF l d i) && (decide (1 ≤ l.length) && decide (l.length ≤ 8))) := by
  intro d
  induction d with
  | zero =>
    intro i hd hi
    refine Ev.succ ?_
    simp only [spec_l14Permuted.l0]
    refine Ev.ite_neg (by omega) ?_
    rw [List.drop_of_length_le (by omega)]
    by_cases h : (l.length : Int) ≥ 1
    · have h' : 1 ≤ l.length := by omega
      refine Ev.ite_pos h (Ev.cast (Ev.now _) ?_)
      simp [dupF, h']
      omega
    · have h' : ¬ 1 ≤ l.length := by omega
      refine Ev.ite_neg h (Ev.cast (Ev.now _) ?_)
      simp [h']
  | succ d ih =>
    intro i hd hi
    refine Ev.succ ?_
    simp only [spec_l14Permuted.l0]
    rw [w64 (x := (i : Int) + 1) (by omega) (by omega), Int.toNat_natCast, all_drop_at inP (by omega)]
    refine Ev.ite_pos (by omega) (Ev.ite_pos (by omega) (Ev.bindc (spec_l03Pitch_eq _) ?_))
    cases hp : inP (rd l i) with
    | false =>
      refine Ev.ite_neg (by decide) (Ev.cast (Ev.now _) ?_)
      simp
    | true =>
      refine Ev.ite_pos rfl (Ev.ite_pos (by omega) (Ev.bind (spec_l00Has_ev (l.take i) (rd l i) (by simp; omega)) ?_))
      cases h : hasM (l.take i) (rd l i) with
      | true =>
        refine Ev.ite_pos rfl (Ev.cast (Ev.now _) ?_)
        simp [dupF, h]
      | false =>
        refine Ev.ite_neg (by decide) (Ev.cast (by simpa using ih (i + 1) (by omega) (by omega)) ?_)
        simp [dupF, h]
theorem spec_l14Permuted_ev (l : List Int) (hl : l.length ≤ 1048576) : Ev (fun k => spec_l14Permuted.f k l) (permB l) := by
  unfold spec_l14Permuted.f permB
  simpa using spec_l14Permuted_l0 l hl l.length 0 (by omega) (by omega)
/-- How many of the numbers from a place on are less than v. -/
def lessM (l : List Int) (v : Int) : Nat → Nat → Int
  | 0, _ => 0
  | d + 1, i => (if rd l i < v then 1 else 0) + lessM l v d (i + 1)
theorem lessM_bound (l : List Int) (v : Int) : ∀ d i, 0 ≤ lessM l v d i ∧ lessM l v d i ≤ d := by
  intro d
  induction d with
  | zero => intro i; simp [lessM]
  | succ d ih =>
    intro i
    have := ih (i + 1)
    simp only [lessM]
    split <;> omega
def fact : Nat → Int
  | 0 => 1
  | n + 1 => ((n : Int) + 1) * fact n
theorem fact_bound : ∀ n, n ≤ 8 → 1 ≤ fact n ∧ fact n ≤ 40320 := by
  intro n hn
  have : n = 0 ∨ n = 1 ∨ n = 2 ∨ n = 3 ∨ n = 4 ∨ n = 5 ∨ n = 6 ∨ n = 7 ∨ n = 8 := by omega
  rcases this with rfl | rfl | rfl | rfl | rfl | rfl | rfl | rfl | rfl <;> decide
theorem spec_l14Factorial_l0 (n : Nat) (hn : n ≤ 8) : ∀ (d i : Nat), n - i = d → i ≤ n → 1 ≤ i → Ev (fun k => spec_l14Factorial.l0 k (n : Int) (fact i) ((i : Int) + 1)) (fact n) := by
  intro d
  induction d with
  | zero =>
    intro i hd hi h1
    have : i = n := by omega
    subst this
    refine Ev.succ ?_
    simp only [spec_l14Factorial.l0]
    exact Ev.ite_neg (by omega) (Ev.now _)
  | succ d ih =>
    intro i hd hi h1
    have hb := fact_bound (i + 1) (by omega)
    have e : fact i * ((i : Int) + 1) = fact (i + 1) := by simp only [fact]; rw [Int.mul_comm]
    refine Ev.succ ?_
    simp only [spec_l14Factorial.l0]
    rw [e, w64 (x := fact (i + 1)) (by omega) (by omega), w64 (x := (i : Int) + 1 + 1) (by omega) (by omega)]
    refine Ev.ite_pos (by omega) ?_
    have := ih (i + 1) (by omega) (by omega) (by omega)
    rw [show ((i + 1 : Nat) : Int) + 1 = (i : Int) + 1 + 1 by omega] at this
    exact this
theorem spec_l14Factorial_ev (n : Nat) (hn : n ≤ 8) : Ev (fun k => spec_l14Factorial.f k (n : Int)) (fact n) := by
  unfold spec_l14Factorial.f
  rcases Nat.eq_zero_or_pos n with rfl | h
  · refine Ev.succ ?_
    simp only [spec_l14Factorial.l0]
    exact Ev.ite_neg (by omega) (Ev.now _)
  · simpa [fact] using spec_l14Factorial_l0 n hn (n - 1) 1 (by omega) (by omega) (by omega)
def horM (l : List Int) : Nat → Nat → Int → Int
  | 0, _, acc => acc
  | d + 1, i, acc => horM l d (i + 1) (acc * ((d : Int) + 1) + lessM l (rd l i) d (i + 1))
def sumP (l : List Int) : Nat → Nat → Int
  | 0, _ => 0
  | d + 1, i => lessM l (rd l i) d (i + 1) * fact d + sumP l d (i + 1)
theorem hor_sum (l : List Int) : ∀ d i acc, horM l d i acc = acc * fact d + sumP l d i := by
  intro d
  induction d with
  | zero => intro i acc; simp [horM, sumP, fact]
  | succ d ih =>
    intro i acc
    simp only [horM, sumP]
    rw [ih, Int.add_mul, Int.mul_assoc]
    simp only [fact]
    omega
theorem impl_PN_l1 (l : List Int) (hl : l.length ≤ 8) (x4 v : Int) (i : Nat) (hi : i < l.length) (r : Int × Int) : ∀ (d j : Nat) (less : Int), (l.length - (i + 1)) - j = d → 0 ≤ less → less ≤ j →
    Ev (fun k => impl_PermutationNumber.l0 k l (wrap64 ((wrap64 (x4 * (wrap64 ((l.length : Int) - i)))) + (less + lessM l v d (i + 1 + j)))) l (l.length : Int) (wrap64 ((i : Int) + 1))) r →
    Ev (fun k => impl_PermutationNumber.l1 k l x4 (i : Int) v less l (l.length : Int) (i : Int) (l.drop (i + 1)) ((l.drop (i + 1)).length : Int) (j : Int)) r := by
  intro d
  induction d with
  | zero =>
    intro j less hd h0 h1 h
    refine Ev.succ ?_
    simp only [impl_PermutationNumber.l1]
    refine Ev.ite_neg (by simp; omega) ?_
    simpa [lessM] using h
  | succ d ih =>
    intro j less hd h0 h1 h
    have hj : j < (l.drop (i + 1)).length := by simp; omega
    have e : rd (l.drop (i + 1)) (j : Int) = rd l ((i + 1 + j : Nat) : Int) := by
      rw [rd_at hj, rd_at (show i + 1 + j < l.length by omega), List.getElem_drop]
    refine Ev.succ ?_
    simp only [impl_PermutationNumber.l1]
    rw [w64 (x := (j : Int) + 1) (by omega) (by omega), e]
    refine Ev.ite_pos (by simp; omega) (Ev.ite_pos (by omega) (Ev.ite_pos (by simp; omega) ?_))
    simp only [lessM] at h
    by_cases hc : rd l ((i + 1 + j : Nat) : Int) < v
    · rw [if_pos hc] at h
      refine Ev.ite_pos hc ?_
      rw [w64 (x := less + 1) (by omega) (by omega)]
      have := ih (j + 1) (less + 1) (by omega) (by omega) (by omega) (by rw [show i + 1 + (j + 1) = i + 1 + j + 1 by omega, show less + 1 + lessM l v d (i + 1 + j + 1) = less + (1 + lessM l v d (i + 1 + j + 1)) by omega]; exact h)
      simpa using this
    · rw [if_neg hc] at h
      refine Ev.ite_neg hc ?_
      have := ih (j + 1) less (by omega) (by omega) (by omega) (by rw [show i + 1 + (j + 1) = i + 1 + j + 1 by omega, show less + lessM l v d (i + 1 + j + 1) = less + (0 + lessM l v d (i + 1 + j + 1)) by omega]; exact h)
      simpa using this
theorem impl_PN_l0 (l : List Int) (hl : l.length ≤ 8) : ∀ (d i : Nat) (acc : Int), l.length - i = d → i ≤ l.length → 0 ≤ acc → acc ≤ 16 ^ i → Ev (fun k => impl_PermutationNumber.l0 k l acc l (l.length : Int) i) (horM l d i acc, 0) := by
  intro d
  induction d with
  | zero =>
    intro i acc hd hi h0 h1
    refine Ev.succ ?_
    simp only [impl_PermutationNumber.l0]
    exact Ev.ite_neg (by omega) (Ev.now _)
  | succ d ih =>
    intro i acc hd hi h0 h1
    have hb : (16 : Int) ^ i ≤ 4294967296 := by
      have : i = 0 ∨ i = 1 ∨ i = 2 ∨ i = 3 ∨ i = 4 ∨ i = 5 ∨ i = 6 ∨ i = 7 ∨ i = 8 := by omega
      rcases this with rfl | rfl | rfl | rfl | rfl | rfl | rfl | rfl | rfl <;> decide
    have hb1 : (1 : Int) ≤ (16 : Int) ^ i := by
      have : i = 0 ∨ i = 1 ∨ i = 2 ∨ i = 3 ∨ i = 4 ∨ i = 5 ∨ i = 6 ∨ i = 7 ∨ i = 8 := by omega
      rcases this with rfl | rfl | rfl | rfl | rfl | rfl | rfl | rfl | rfl <;> decide
    have hlb := lessM_bound l (rd l i) d (i + 1)
    have hd8 : (d : Int) + 1 ≤ 8 := by omega
    have m0 : 0 ≤ acc * ((d : Int) + 1) := Int.mul_nonneg h0 (by omega)
    have m1 : acc * ((d : Int) + 1) ≤ acc * 8 := Int.mul_le_mul_of_nonneg_left hd8 h0
    refine Ev.succ ?_
    simp only [impl_PermutationNumber.l0]
    rw [w64 (x := (i : Int) + 1) (by omega) (by omega), show ((i : Int) + 1).toNat = i + 1 by omega]
    refine Ev.ite_pos (by omega) (Ev.ite_pos (by omega) (Ev.ite_pos (by omega) (Ev.ite_pos (by omega) (Ev.ite_pos (by omega) ?_))))
    refine impl_PN_l1 l hl acc (rd l i) i (by omega) _ d 0 0 (by omega) (by omega) (by omega) ?_
    rw [w64 (x := (i : Int) + 1) (by omega) (by omega), w64 (x := (l.length : Int) - i) (by omega) (by omega), show (l.length : Int) - i = (d : Int) + 1 by omega, w64 (x := acc * ((d : Int) + 1)) (by omega) (by omega), Int.zero_add, Nat.add_zero, w64 (x := _ + _) (by omega) (by omega)]
    simp only [horM]
    have := ih (i + 1) (acc * ((d : Int) + 1) + lessM l (rd l i) d (i + 1)) (by omega) (by omega) (by omega) (by rw [Int.pow_succ]; omega)
    simpa using this
theorem spec_PN_l1 (l : List Int) (hl : l.length ≤ 8) (x4 : Int) (i : Nat) (hi : i < l.length) (r : Int × Int) : ∀ (d j : Nat) (less : Int), l.length - j = d → 0 ≤ less → less ≤ j →
    Ev (fun k => spec_PermutationNumber.l0 k l (wrap64 (x4 + (wrap64 ((less + lessM l (rd l i) d j) * fact (l.length - 1 - i))))) (wrap64 ((i : Int) + 1))) r →
    Ev (fun k => spec_PermutationNumber.l1 k l x4 (i : Int) less (j : Int)) r := by
  intro d
  induction d with
  | zero =>
    intro j less hd h0 h1 h
    refine Ev.succ ?_
    simp only [spec_PermutationNumber.l1]
    rw [w64 (x := (l.length : Int) - 1) (by omega) (by omega), w64 (x := (l.length : Int) - 1 - i) (by omega) (by omega), show (l.length : Int) - 1 - i = ((l.length - 1 - i : Nat) : Int) by omega]
    refine Ev.ite_neg (by omega) (Ev.bind (spec_l14Factorial_ev _ (by omega)) ?_)
    simpa [lessM] using h
  | succ d ih =>
    intro j less hd h0 h1 h
    refine Ev.succ ?_
    simp only [spec_PermutationNumber.l1]
    rw [w64 (x := (j : Int) + 1) (by omega) (by omega)]
    refine Ev.ite_pos (by omega) (Ev.ite_pos (by omega) (Ev.ite_pos (by omega) (Ev.ite_pos (by omega) ?_)))
    simp only [lessM] at h
    by_cases hc : rd l (j : Int) < rd l i
    · rw [if_pos hc] at h
      refine Ev.ite_pos hc ?_
      rw [w64 (x := less + 1) (by omega) (by omega)]
      have := ih (j + 1) (less + 1) (by omega) (by omega) (by omega) (by rw [show less + 1 + lessM l (rd l i) d (j + 1) = less + (1 + lessM l (rd l i) d (j + 1)) by omega]; exact h)
      simpa using this
    · rw [if_neg hc] at h
      refine Ev.ite_neg hc ?_
      have := ih (j + 1) less (by omega) (by omega) (by omega) (by rw [show less + lessM l (rd l i) d (j + 1) = less + (0 + lessM l (rd l i) d (j + 1)) by omega]; exact h)
      simpa using this
theorem spec_PN_l0 (l : List Int) (hl : l.length ≤ 8) : ∀ (d i : Nat) (acc : Int), l.length - i = d → i ≤ l.length → 0 ≤ acc → acc ≤ 1000000 * i → Ev (fun k => spec_PermutationNumber.l0 k l acc i) (acc + sumP l d i, 0) := by
  intro d
  induction d with
  | zero =>
    intro i acc hd hi h0 h1
    refine Ev.succ ?_
    simp only [spec_PermutationNumber.l0]
    refine Ev.ite_neg (by omega) ?_
    simpa [sumP] using Ev.now _
  | succ d ih =>
    intro i acc hd hi h0 h1
    have hf := fact_bound d (by omega)
    have hlb := lessM_bound l (rd l i) d (i + 1)
    have m0 : 0 ≤ lessM l (rd l i) d (i + 1) * fact d := Int.mul_nonneg hlb.1 (by omega)
    have m1 : lessM l (rd l i) d (i + 1) * fact d ≤ lessM l (rd l i) d (i + 1) * 40320 := Int.mul_le_mul_of_nonneg_left hf.2 hlb.1
    refine Ev.succ ?_
    simp only [spec_PermutationNumber.l0]
    rw [w64 (x := (i : Int) + 1) (by omega) (by omega)]
    refine Ev.ite_pos (by omega) ?_
    have := spec_PN_l1 l hl acc i (by omega) (acc + sumP l (d + 1) i, 0) d (i + 1) 0 (by omega) (by omega) (by omega) (by
      rw [w64 (x := (i : Int) + 1) (by omega) (by omega), Int.zero_add, show l.length - 1 - i = d by omega, w64 (x := _ * _) (by omega) (by omega), w64 (x := acc + _) (by omega) (by omega)]
      refine Ev.cast (by simpa using ih (i + 1) (acc + lessM l (rd l i) d (i + 1) * fact d) (by omega) (by omega) (by omega) (by omega)) ?_
      simp [sumP, Int.add_assoc])
    simpa using this
theorem bothPermutationNumber (l : List Int) (hl : l.length ≤ 1048576) : Ev (fun k => spec_PermutationNumber.f k l) (if permB l = true then (sumP l l.length 0, 0) else (0, 1)) ∧ Ev (fun k => impl_PermutationNumber.f k l) (if permB l = true then (sumP l l.length 0, 0) else (0, 1)) := by
  unfold spec_PermutationNumber.f impl_PermutationNumber.f
  cases h : permB l with
  | false => exact ⟨Ev.bind (spec_l14Permuted_ev l hl) (Ev.ite_neg (by rw [h]; decide) (Ev.now _)), Ev.bind (impl_permutedOk_ev l hl) (Ev.ite_neg (by rw [h]; decide) (Ev.now _))⟩
  | true =>
    have h' := h
    simp only [permB, Bool.and_eq_true, decide_eq_true_eq] at h'
    refine ⟨Ev.bind (spec_l14Permuted_ev l hl) (Ev.ite_pos h ?_), Ev.bind (impl_permutedOk_ev l hl) (Ev.ite_pos h ?_)⟩
    · simpa using spec_PN_l0 l h'.2.2 l.length 0 0 (by omega) (by omega) (by omega) (by omega)
    · have := impl_PN_l0 l h'.2.2 l.length 0 0 (by omega) (by omega) (by omega) (by simp)
      rw [hor_sum] at this
      simpa using this
theorem FnExactPermutationNumber : laws_FnExactPermutationNumber.Pure := by
  intro l ⟨hl, _⟩
  refine Ev.out (r := true) ?_
  unfold laws_FnExactPermutationNumber.f
  by_cases gl : (l.length : Int) > 1048576
  · exact Ev.ite_pos gl (Ev.now _)
  refine Ev.ite_neg gl ?_
  have tl := toInt64S_ev l (by omega)
  have ll : l.length ≤ 1048576 := by omega
  obtain ⟨es, ei⟩ := bothPermutationNumber l ll
  refine Ev.bind tl ?_
  refine Ev.bind es ?_
  refine Ev.bind tl ?_
  refine Ev.bind ei ?_
  refine Ev.ite_pos rfl ?_
  refine Ev.succ ?_
  simp only [laws_FnExactPermutationNumber.j0]
  refine Ev.ite_neg (by simp) ?_
  refine Ev.bind tl ?_
  refine Ev.bind (eqInt64S_self l (by omega)) ?_
  exact Ev.ite_pos rfl (Ev.now _)

end Go.Proofs.Ytddhommmokdlnaa.Pure
end
