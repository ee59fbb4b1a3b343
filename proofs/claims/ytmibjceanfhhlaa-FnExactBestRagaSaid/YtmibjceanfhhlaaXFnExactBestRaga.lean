/- The pure statement of FnExactBestRaga. No condition. -/
import Derived.Test.YtmibjceanfhhlaaGBR1
import Derived.Test.YtmibjceanfhhlaaGBR6
import Derived.Test.YtmibjceanfhhlaaGBR7
import Derived.Test.YtmibjceanfhhlaaGBR8
import Derived.Test.YtmibjceanfhhlaaGBR13
import Derived.Test.YtmibjceanfhhlaaGBR14
section
namespace Go.Proofs.Ytmibjceanfhhlaa.P
open Go.RowKit Go.Proofs.YtmibjceanfhhlaaW.PrintWords Go.Proofs.YtmibjceanfhhlaaW.PrintLast Go.Proofs.YtmibjceanfhhlaaW.PrintMore
attribute [local go_sem] max2_int min2_int max_two min_two max_three min_three max_four min_four   -- for this text's walks alone
set_option linter.unusedVariables false
set_option linter.unusedSimpArgs false

/-! ### laws_FnExactBestRaga: function 3 -/
def laws_FnExactBestRaga.j0 : Nat → List (S36) → List Int → List (S42) → List Int → Bool → Option (Bool)
 | 0, _, _, _, _, _ => none
 | k + 1, x0, x1, x9, x10, x54 => if x54 = true then (some false) else ((laws_toRagaS.f k x0).bind fun t334 => ((laws_eqRagaS.f k x9 t334).bind fun t337 => (if t337 = true then ((laws_toInt64S.f k x1).bind fun t338 => ((laws_eqInt64S.f k x10 t338).bind fun t341 => (if t341 = true then (some true) else (some false)))) else (some false))))
def laws_FnExactBestRaga.f (k : Nat) (l0 : List (S36)) (l1 : List Int) : Option (Bool) := if (l1.length : Int) > 1048576 then (some true) else ((laws_szRagaS.f k l0 1048576).bind fun t315 => (if t315 < 0 then (some true) else ((laws_toRagaS.f k l0).bind fun t316 => ((laws_toInt64S.f k l1).bind fun t319 => ((spec_BestRaga.f k t316 t319).bind fun bt322 => ((laws_toRagaS.f k l0).bind fun t325 => ((laws_toInt64S.f k l1).bind fun t328 => ((impl_BestRaga.f k t325 t328).bind fun bt331 => (if bt331.1 = bt322.1 then (if bt331.2.1 = bt322.2.1 then (laws_FnExactBestRaga.j0 k l0 l1 t325 t328 (bt331.2.2 != bt322.2.2)) else (laws_FnExactBestRaga.j0 k l0 l1 t325 t328 true)) else (laws_FnExactBestRaga.j0 k l0 l1 t325 t328 true))))))))))
set_option maxHeartbeats 8000000 in
set_option maxRecDepth 100000 in
theorem laws_FnExactBestRaga.calls (k : Nat) (A0 : Option Addr) (c0 : Nat) (l0 : List (S36)) (A1 : Option Addr) (c1 : Nat) (l1 : List Int) (r : Bool) (w : World) (hr0 : Kd.C k36 w A0 l0.length l0) (hc0 : l0.length ≤ c0) (hr1 : Kd.C (Kd.int .i64) w A1 l1.length l1) (hc1 : l1.length ≤ c1) (hT : r = true) (h : laws_FnExactBestRaga.f k l0 l1 = some r) :
  Calls Try.prog 3 #[.slice A0 l0.length c0, .slice A1 l1.length c1] w fun e w' => e = .returned (.bool r) ∧ Below w.heap.size w w' := by
 have HR0 := Aside0.mk hr0
 have HC0 := Aside0.mk hc0
 clear hr0 hc0
 have HR1 := Aside0.mk hr1
 have HC1 := Aside0.mk hc1
 clear hr1 hc1
 have HT := Aside0.mk hT
 clear hT
 have HB := Aside0.mk (Below.refl w.heap.size w)
 have H : (if (l1.length : Int) > 1048576 then (some true) else ((laws_szRagaS.f k l0 1048576).bind fun t315 => (if t315 < 0 then (some true) else ((laws_toRagaS.f k l0).bind fun t316 => ((laws_toInt64S.f k l1).bind fun t319 => ((spec_BestRaga.f k t316 t319).bind fun bt322 => ((laws_toRagaS.f k l0).bind fun t325 => ((laws_toInt64S.f k l1).bind fun t328 => ((impl_BestRaga.f k t325 t328).bind fun bt331 => (if bt331.1 = bt322.1 then (if bt331.2.1 = bt322.2.1 then (laws_FnExactBestRaga.j0 k l0 l1 t325 t328 (bt331.2.2 != bt322.2.2)) else (laws_FnExactBestRaga.j0 k l0 l1 t325 t328 true)) else (laws_FnExactBestRaga.j0 k l0 l1 t325 t328 true))))))))))) = some r := h
 clear h
 by_cases c3 : (l1.length : Int) > 1048576
 ·rw [if_pos c3] at H
  have c3b0 : decide (1048576 < (l1.length : Int)) = true := decide_eq_true c3
  have c3b1 : decide (1048576 < l1.length) = true := decide_eq_true (by omega)
  clear c3
  obtain rfl := Option.some.inj H
  go_enter Try.func3, Try.ntmps3
  go_wp2
  go_ret
  exact ⟨by first | rfl | (simp [errW_none, errW_some] <;> rfl) | (simp [*, errW_none, errW_some] <;> rfl), bb_ HB.out⟩
 ·rw [if_neg c3] at H
  have c3b0 : decide (1048576 < (l1.length : Int)) = false := decide_eq_false c3
  have c3b1 : decide (1048576 < l1.length) = false := decide_eq_false (by omega)
  clear c3
  replace H := Option.bind_eq_some_iff.mp H
  obtain ⟨t315, A40, H⟩ := H
  replace H : (if t315 < 0 then (some true) else ((laws_toRagaS.f k l0).bind fun t316 => ((laws_toInt64S.f k l1).bind fun t319 => ((spec_BestRaga.f k t316 t319).bind fun bt322 => ((laws_toRagaS.f k l0).bind fun t325 => ((laws_toInt64S.f k l1).bind fun t328 => ((impl_BestRaga.f k t325 t328).bind fun bt331 => (if bt331.1 = bt322.1 then (if bt331.2.1 = bt322.2.1 then (laws_FnExactBestRaga.j0 k l0 l1 t325 t328 (bt331.2.2 != bt322.2.2)) else (laws_FnExactBestRaga.j0 k l0 l1 t325 t328 true)) else (laws_FnExactBestRaga.j0 k l0 l1 t325 t328 true))))))))) = some r := H
  have A4 := Aside0.mk A40
  clear A40
  by_cases c5 : t315 < 0
  ·rw [if_pos c5] at H
   have c5b0 : decide (t315 < 0) = true := decide_eq_true c5
   clear c5
   obtain rfl := Option.some.inj H
   go_enter Try.func3, Try.ntmps3
   go_wp2_with (first | ((with_reducible refine gate_callee (f := 4) rfl ?_); refine goesL_ (some 19) rfl rfl Try.func4 (by kernel_rfl) rfl #[.slice A0 l0.length c0, .int .i64 1048576] rfl av_ ?_; (with_reducible refine (laws_szRagaS.calls k _ _ l0 1048576 t315 _ ?side1 ?side2 A4.out).mono ?_); (case side1 => exact cr_ HR0.out); (case side2 => exact HC0.out); rintro e w6 ⟨rfl, hb⟩; refine ⟨_, rfl, ?_⟩; have n0_ := Aside0.mk (below_step (bb_ HB.out) hb); clear HB; have HB := n0_; clear n0_; (try clear hb); (try clear hb2); (try clear hk); (try clear hi)))
   go_ret
   exact ⟨by first | rfl | (simp [errW_none, errW_some] <;> rfl) | (simp [*, errW_none, errW_some] <;> rfl), bb_ HB.out⟩
  ·rw [if_neg c5] at H
   have c5b0 : decide (t315 < 0) = false := decide_eq_false c5
   clear c5
   replace H := Option.bind_eq_some_iff.mp H
   obtain ⟨t316, A70, H⟩ := H
   replace H : ((laws_toInt64S.f k l1).bind fun t319 => ((spec_BestRaga.f k t316 t319).bind fun bt322 => ((laws_toRagaS.f k l0).bind fun t325 => ((laws_toInt64S.f k l1).bind fun t328 => ((impl_BestRaga.f k t325 t328).bind fun bt331 => (if bt331.1 = bt322.1 then (if bt331.2.1 = bt322.2.1 then (laws_FnExactBestRaga.j0 k l0 l1 t325 t328 (bt331.2.2 != bt322.2.2)) else (laws_FnExactBestRaga.j0 k l0 l1 t325 t328 true)) else (laws_FnExactBestRaga.j0 k l0 l1 t325 t328 true))))))) = some r := H
   have A7 := Aside0.mk A70
   clear A70
   replace H := Option.bind_eq_some_iff.mp H
   obtain ⟨t319, A80, H⟩ := H
   replace H : ((spec_BestRaga.f k t316 t319).bind fun bt322 => ((laws_toRagaS.f k l0).bind fun t325 => ((laws_toInt64S.f k l1).bind fun t328 => ((impl_BestRaga.f k t325 t328).bind fun bt331 => (if bt331.1 = bt322.1 then (if bt331.2.1 = bt322.2.1 then (laws_FnExactBestRaga.j0 k l0 l1 t325 t328 (bt331.2.2 != bt322.2.2)) else (laws_FnExactBestRaga.j0 k l0 l1 t325 t328 true)) else (laws_FnExactBestRaga.j0 k l0 l1 t325 t328 true)))))) = some r := H
   have A8 := Aside0.mk A80
   clear A80
   replace H := Option.bind_eq_some_iff.mp H
   obtain ⟨⟨t322, t323, t324⟩, A90, H⟩ := H
   replace H : ((laws_toRagaS.f k l0).bind fun t325 => ((laws_toInt64S.f k l1).bind fun t328 => ((impl_BestRaga.f k t325 t328).bind fun bt331 => (if bt331.1 = t322 then (if bt331.2.1 = t323 then (laws_FnExactBestRaga.j0 k l0 l1 t325 t328 (bt331.2.2 != t324)) else (laws_FnExactBestRaga.j0 k l0 l1 t325 t328 true)) else (laws_FnExactBestRaga.j0 k l0 l1 t325 t328 true))))) = some r := H
   have A9 := Aside0.mk A90
   clear A90
   replace H := Option.bind_eq_some_iff.mp H
   obtain ⟨t325, A100, H⟩ := H
   replace H : ((laws_toInt64S.f k l1).bind fun t328 => ((impl_BestRaga.f k t325 t328).bind fun bt331 => (if bt331.1 = t322 then (if bt331.2.1 = t323 then (laws_FnExactBestRaga.j0 k l0 l1 t325 t328 (bt331.2.2 != t324)) else (laws_FnExactBestRaga.j0 k l0 l1 t325 t328 true)) else (laws_FnExactBestRaga.j0 k l0 l1 t325 t328 true)))) = some r := H
   have A10 := Aside0.mk A100
   clear A100
   replace H := Option.bind_eq_some_iff.mp H
   obtain ⟨t328, A110, H⟩ := H
   replace H : ((impl_BestRaga.f k t325 t328).bind fun bt331 => (if bt331.1 = t322 then (if bt331.2.1 = t323 then (laws_FnExactBestRaga.j0 k l0 l1 t325 t328 (bt331.2.2 != t324)) else (laws_FnExactBestRaga.j0 k l0 l1 t325 t328 true)) else (laws_FnExactBestRaga.j0 k l0 l1 t325 t328 true))) = some r := H
   have A11 := Aside0.mk A110
   clear A110
   replace H := Option.bind_eq_some_iff.mp H
   obtain ⟨⟨t331, t332, t333⟩, A120, H⟩ := H
   replace H : (if t331 = t322 then (if t332 = t323 then (laws_FnExactBestRaga.j0 k l0 l1 t325 t328 (t333 != t324)) else (laws_FnExactBestRaga.j0 k l0 l1 t325 t328 true)) else (laws_FnExactBestRaga.j0 k l0 l1 t325 t328 true)) = some r := H
   have A12 := Aside0.mk A120
   clear A120
   have HC13 := Aside0.mk H
   clear H
   go_enter Try.func3, Try.ntmps3
   go_upto_region 11 with (first | ((with_reducible refine gate_callee (f := 4) rfl ?_); refine goesL_ (some 19) rfl rfl Try.func4 (by kernel_rfl) rfl #[.slice A0 l0.length c0, .int .i64 1048576] rfl av_ ?_; (with_reducible refine (laws_szRagaS.calls k _ _ l0 1048576 t315 _ ?side1 ?side2 A4.out).mono ?_); (case side1 => exact cr_ HR0.out); (case side2 => exact HC0.out); rintro e w14 ⟨rfl, hb⟩; refine ⟨_, rfl, ?_⟩; have n0_ := Aside0.mk (below_step (bb_ HB.out) hb); clear HB; have HB := n0_; clear n0_; (try clear hb); (try clear hb2); (try clear hk); (try clear hi)) | ((with_reducible refine gate_callee (f := 6) rfl ?_); refine goesL_ (some 24) rfl rfl Try.func6 (by kernel_rfl) rfl #[.slice A0 l0.length c0] rfl av_ ?_; (with_reducible refine (laws_toRagaS.calls k _ _ l0 t316 _ ?side1 ?side2 A7.out).mono ?_); (case side1 => exact (Kd.C_below HR0.out HB.out)); (case side2 => exact HC0.out); rintro e w15 ⟨v317, rfl, ho0, hb⟩; refine ⟨_, rfl, ?_⟩; have n0_ := Aside0.mk (Kd.R_lower ho0 (below_size (bb_ HB.out))); have n1_ := Aside0.mk (below_step (bb_ HB.out) hb); clear HB; have HO318 := n0_; have HB := n1_; clear n0_ n1_; (try clear hb); (try clear hb2); (try clear hk); (try clear hi); (try clear ho0)) | ((with_reducible refine gate_callee (f := 7) rfl ?_); refine goesL_ (some 26) rfl rfl Try.func7 (by kernel_rfl) rfl #[.slice A1 l1.length c1] rfl av_ ?_; (with_reducible refine (laws_toInt64S.calls k _ _ l1 t319 _ ?side1 ?side2 A8.out).mono ?_); (case side1 => exact (Kd.C_below HR1.out HB.out)); (case side2 => exact HC1.out); rintro e w16 ⟨v320, rfl, ho0, hb⟩; refine ⟨_, rfl, ?_⟩; have n0_ := Aside0.mk (Kd.R_elder' (rr_ HO318.out) (Kd.R_base ho0) hb); have n1_ := Aside0.mk (Kd.R_lower ho0 (below_size (bb_ HB.out))); have n2_ := Aside0.mk (below_step (bb_ HB.out) hb); clear HO318; clear HB; have HO318 := n0_; have HO321 := n1_; have HB := n2_; clear n0_ n1_ n2_; (try clear hb); (try clear hb2); (try clear hk); (try clear hi); (try clear ho0); obtain ⟨Ao17, co17, eo17⟩ := Kd.R_slice HO318.out; subst eo17; obtain ⟨Ao18, co18, eo18⟩ := Kd.R_slice HO321.out; subst eo18) | ((with_reducible refine gate_callee (f := 5) rfl ?_); refine goesL_ (some 27) rfl rfl Try.func5 (by kernel_rfl) rfl #[.slice Ao17 t316.length co17, .slice Ao18 t319.length co18] rfl av_ ?_; (with_reducible refine (spec_BestRaga.calls k _ _ t316 _ _ t319 t322 t323 t324 _ ?side1 ?side2 ?side3 ?side4 A9.out).mono ?_); (case side1 => exact cs_ (Kd.R_reads' HO318.out).2.2); (case side2 => exact (Kd.R_reads' HO318.out).2.1); (case side3 => exact cs_ (Kd.R_reads' HO321.out).2.2); (case side4 => exact (Kd.R_reads' HO321.out).2.1); rintro e w' ⟨rfl, ⟨nd, rfl⟩⟩; refine ⟨_, rfl, ?_⟩) | ((with_reducible refine gate_callee (f := 6) rfl ?_); refine goesL_ (some 32) rfl rfl Try.func6 (by kernel_rfl) rfl #[.slice A0 l0.length c0] rfl av_ ?_; (with_reducible refine (laws_toRagaS.calls k _ _ l0 t325 _ ?side1 ?side2 A10.out).mono ?_); (case side1 => repeat (first | exact (Kd.C_below HR0.out (bb_ HB.out)) | (with_reducible refine Kd.C_alloc ?_ _) | (with_reducible refine Kd.C_drewN ?_ _) | (with_reducible refine Kd.C_drew ?_))); (case side2 => exact HC0.out); rintro e w19 ⟨v326, rfl, ho0, hb⟩; refine ⟨_, rfl, ?_⟩; have n0_ := Aside0.mk (Kd.R_elder' (rr_ HO318.out) (Kd.R_base ho0) hb); have n1_ := Aside0.mk (Kd.R_below (rr_ HO321.out) hb); have n2_ := Aside0.mk (Kd.R_lower (Kd.R_new' (Kd.R_new' ho0 (Kd.R_lt (rr_ HO318.out))) (Kd.R_lt (rr_ HO321.out))) (below_size (bb_ HB.out))); have n3_ := Aside0.mk (below_step (bb_ HB.out) hb); clear HO318; clear HO321; clear HB; have HO318 := n0_; have HO321 := n1_; have HO327 := n2_; have HB := n3_; clear n0_ n1_ n2_ n3_; (try clear hb); (try clear hb2); (try clear hk); (try clear hi); (try clear ho0)) | ((with_reducible refine gate_callee (f := 7) rfl ?_); refine goesL_ (some 34) rfl rfl Try.func7 (by kernel_rfl) rfl #[.slice A1 l1.length c1] rfl av_ ?_; (with_reducible refine (laws_toInt64S.calls k _ _ l1 t328 _ ?side1 ?side2 A11.out).mono ?_); (case side1 => exact (Kd.C_below HR1.out HB.out)); (case side2 => exact HC1.out); rintro e w20 ⟨v329, rfl, ho0, hb⟩; refine ⟨_, rfl, ?_⟩; have n0_ := Aside0.mk (Kd.R_elder' (rr_ HO318.out) (Kd.R_base ho0) hb); have n1_ := Aside0.mk (Kd.R_elder' (rr_ HO321.out) (Kd.R_base ho0) hb); have n2_ := Aside0.mk (Kd.R_elder' (rr_ HO327.out) (Kd.R_base ho0) hb); have n3_ := Aside0.mk (Kd.R_lower (Kd.R_new' ho0 (Kd.R_lt (rr_ HO321.out))) (below_size (bb_ HB.out))); have n4_ := Aside0.mk (below_step (bb_ HB.out) hb); clear HO318; clear HO321; clear HO327; clear HB; have HO318 := n0_; have HO321 := n1_; have HO327 := n2_; have HO330 := n3_; have HB := n4_; clear n0_ n1_ n2_ n3_ n4_; (try clear hb); (try clear hb2); (try clear hk); (try clear hi); (try clear ho0); obtain ⟨Ao21, co21, eo21⟩ := Kd.R_slice HO327.out; subst eo21; obtain ⟨Ao22, co22, eo22⟩ := Kd.R_slice HO330.out; subst eo22) | ((with_reducible refine gate_callee (f := 8) rfl ?_); refine goesL_ (some 38) rfl rfl Try.func8 (by kernel_rfl) rfl #[.slice Ao21 t325.length co21, .slice Ao22 t328.length co22] rfl av_ ?_; (with_reducible refine (impl_BestRaga.calls k _ _ t325 _ _ t328 t331 t332 t333 _ ?side1 ?side2 ?side3 ?side4 A12.out).mono ?_); (case side1 => exact cs_ (Kd.R_reads' HO327.out).2.2); (case side2 => exact (Kd.R_reads' HO327.out).2.1); (case side3 => exact cs_ (Kd.R_reads' HO330.out).2.2); (case side4 => exact (Kd.R_reads' HO330.out).2.1); rintro e w23 ⟨rfl, hb⟩; refine ⟨_, rfl, ?_⟩; have n0_ := Aside0.mk (Kd.R_below (rr_ HO318.out) hb); have n1_ := Aside0.mk (Kd.R_below (rr_ HO321.out) hb); have n2_ := Aside0.mk (Kd.R_below (rr_ HO327.out) hb); have n3_ := Aside0.mk (Kd.R_below (rr_ HO330.out) hb); have n4_ := Aside0.mk (below_step (bb_ HB.out) hb); clear HO318; clear HO321; clear HO327; clear HO330; clear HB; have HO318 := n0_; have HO321 := n1_; have HO327 := n2_; have HO330 := n3_; have HB := n4_; clear n0_ n1_ n2_ n3_ n4_; (try clear hb); (try clear hb2); (try clear hk); (try clear hi)))
   (try simp only [Act.put, List.setIfInBounds_toArray, List.set_cons_zero, List.set_cons_succ])
   go_cut [54] (fun v54 wc => ∃ (kq : Nat) (x54_12 : Bool), v54 = .bool x54_12 ∧ Aside0 (laws_FnExactBestRaga.j0 kq l0 l1 t325 t328 x54_12 = some r) ∧ Aside0 (kq ≤ k) ∧ Aside0 (Kd.R k42 42 wc w.heap.size (fun k_ => some k_ ≠ ((.slice Ao22 t328.length co22) : Value).ownBlock) (.slice Ao21 t325.length co21) t325) ∧ Aside0 (Kd.R (Kd.int .i64) 2 wc w.heap.size (fun _ => True) (.slice Ao22 t328.length co22) t328) ∧ Aside0 (Below w.heap.size w wc))
   case first =>
    have H := HC13.out
    clear HC13
    by_cases c24 : t331 = t322
    ·rw [if_pos c24] at H
     have c24b0 : (t331 == t322) = true := beq_iff_eq.mpr c24
     have c24b1 : (t331 != t322) = false := bne_eq_false_iff_eq.mpr c24
     clear c24
     (first | rw [c24b0] | (simp only [i64_w, i32_w]; rw [c24b0]) | skip)
     by_cases c25 : t332 = t323
     ·rw [if_pos c25] at H
      have c25b0 : (t332 == t323) = true := beq_iff_eq.mpr c25
      have c25b1 : (t332 != t323) = false := bne_eq_false_iff_eq.mpr c25
      clear c25
      have H' := Aside0.mk H
      clear H
      go_wp2
      go_meet
      case rel => exact ⟨_, ((t333 != t324)), sv_, H', ⟨by first | omega | exact Nat.le_refl _⟩, ⟨by (with_reducible repeat (first | apply Kd.R_alloc | apply Kd.R_drewN | apply Kd.R_drew)); exact Kd.R_mono HO327.out (fun _ hk => hk.2)⟩, ⟨by (with_reducible repeat (first | apply Kd.R_alloc | apply Kd.R_drewN | apply Kd.R_drew)); exact Kd.R_mono HO330.out (fun _ hk => trivial)⟩, ⟨bb_ HB.out⟩⟩
     ·rw [if_neg c25] at H
      have c25b0 : (t332 == t323) = false := beq_eq_false_iff_ne.mpr c25
      have c25b1 : (t332 != t323) = true := bne_iff_ne.mpr c25
      have H' := Aside0.mk H
      clear H
      go_wp2
      go_meet
      case rel => exact ⟨_, (true), sv_, H', ⟨by first | omega | exact Nat.le_refl _⟩, ⟨by (with_reducible repeat (first | apply Kd.R_alloc | apply Kd.R_drewN | apply Kd.R_drew)); exact Kd.R_mono HO327.out (fun _ hk => hk.2)⟩, ⟨by (with_reducible repeat (first | apply Kd.R_alloc | apply Kd.R_drewN | apply Kd.R_drew)); exact Kd.R_mono HO330.out (fun _ hk => trivial)⟩, ⟨bb_ HB.out⟩⟩
    ·rw [if_neg c24] at H
     have c24b0 : (t331 == t322) = false := beq_eq_false_iff_ne.mpr c24
     have c24b1 : (t331 != t322) = true := bne_iff_ne.mpr c24
     (first | rw [c24b0] | (simp only [i64_w, i32_w]; rw [c24b0]) | skip)
     have H' := Aside0.mk H
     clear H
     go_wp2
     go_meet
     case rel => exact ⟨_, (true), sv_, H', ⟨by first | omega | exact Nat.le_refl _⟩, ⟨by (with_reducible repeat (first | apply Kd.R_alloc | apply Kd.R_drewN | apply Kd.R_drew)); exact Kd.R_mono HO327.out (fun _ hk => hk.2)⟩, ⟨by (with_reducible repeat (first | apply Kd.R_alloc | apply Kd.R_drewN | apply Kd.R_drew)); exact Kd.R_mono HO330.out (fun _ hk => trivial)⟩, ⟨bb_ HB.out⟩⟩
   case rest =>
    clear HC13
    (try clear c1); (try clear c2); (try clear p2); (try clear c3); (try clear c3b0); (try clear c3b1); (try clear c4); (try clear c5); (try clear c5b0); (try clear c6); (try clear c7); (try clear c8); (try clear c24); (try clear c24b0); (try clear c24b1); (try clear c25); (try clear c25b0); (try clear c25b1)
    obtain ⟨kq, x54_12, rfl, HA, HJ12, HO_9, HO_10, HB⟩ := hcut
    cases kq with
    | zero => exact absurd HA.out (by simp [laws_FnExactBestRaga.j0])
    | succ kj12 =>
     have H := HA.out
     clear HA
     simp only [laws_FnExactBestRaga.j0] at H
     by_cases c26 : x54_12 = true
     ·subst c26
      have H1 : (some false) = some r := by rw [if_pos rfl] at H; exact H
      clear H
      have H := H1
      clear H1
      exact absurd ((Option.some.inj H).trans HT.out) (by decide)
     ·replace c26 := Bool.eq_false_iff.mpr c26
      subst c26
      have H1 : ((laws_toRagaS.f kj12 l0).bind fun t334 => ((laws_eqRagaS.f kj12 t325 t334).bind fun t337 => (if t337 = true then ((laws_toInt64S.f kj12 l1).bind fun t338 => ((laws_eqInt64S.f kj12 t328 t338).bind fun t341 => (if t341 = true then (some true) else (some false)))) else (some false)))) = some r := by rw [if_neg (show ¬ (false = true) by decide)] at H; exact H
      clear H
      have H := H1
      clear H1
      replace H := Option.bind_eq_some_iff.mp H
      obtain ⟨t334, A270, H⟩ := H
      replace H : ((laws_eqRagaS.f kj12 t325 t334).bind fun t337 => (if t337 = true then ((laws_toInt64S.f kj12 l1).bind fun t338 => ((laws_eqInt64S.f kj12 t328 t338).bind fun t341 => (if t341 = true then (some true) else (some false)))) else (some false))) = some r := H
      have A27 := Aside0.mk A270
      clear A270
      replace H := Option.bind_eq_some_iff.mp H
      obtain ⟨t337, A280, H⟩ := H
      replace H : (if t337 = true then ((laws_toInt64S.f kj12 l1).bind fun t338 => ((laws_eqInt64S.f kj12 t328 t338).bind fun t341 => (if t341 = true then (some true) else (some false)))) else (some false)) = some r := H
      have A28 := Aside0.mk A280
      clear A280
      by_cases c29 : t337 = true
      ·subst c29
       have H1 : ((laws_toInt64S.f kj12 l1).bind fun t338 => ((laws_eqInt64S.f kj12 t328 t338).bind fun t341 => (if t341 = true then (some true) else (some false)))) = some r := by rw [if_pos rfl] at H; exact H
       clear H
       have H := H1
       clear H1
       replace H := Option.bind_eq_some_iff.mp H
       obtain ⟨t338, A300, H⟩ := H
       replace H : ((laws_eqInt64S.f kj12 t328 t338).bind fun t341 => (if t341 = true then (some true) else (some false))) = some r := H
       have A30 := Aside0.mk A300
       clear A300
       replace H := Option.bind_eq_some_iff.mp H
       obtain ⟨t341, A310, H⟩ := H
       replace H : (if t341 = true then (some true) else (some false)) = some r := H
       have A31 := Aside0.mk A310
       clear A310
       by_cases c32 : t341 = true
       ·subst c32
        have H1 : (some true) = some r := by rw [if_pos rfl] at H; exact H
        clear H
        have H := H1
        clear H1
        obtain rfl := Option.some.inj H
        go_wp2_with (first | ((with_reducible refine gate_callee (f := 6) rfl ?_); refine goesL_ (some 57) rfl rfl Try.func6 (by kernel_rfl) rfl #[.slice A0 l0.length c0] rfl av_ ?_; (with_reducible refine (laws_toRagaS.calls kj12 _ _ l0 t334 _ ?side1 ?side2 A27.out).mono ?_); (case side1 => exact (Kd.C_below HR0.out HB.out)); (case side2 => exact HC0.out); rintro e w33 ⟨v335, rfl, ho0, hb⟩; refine ⟨_, rfl, ?_⟩; have n0_ := Aside0.mk (Kd.R_elder' (rr_ HO_9.out) (Kd.R_base ho0) hb); have n1_ := Aside0.mk (Kd.R_below (rr_ HO_10.out) hb); have n2_ := Aside0.mk (Kd.R_lower (Kd.R_new' (Kd.R_new' ho0 (Kd.R_lt (rr_ HO_9.out))) (Kd.R_lt (rr_ HO_10.out))) (below_size (bb_ HB.out))); have n3_ := Aside0.mk (below_step (bb_ HB.out) hb); clear HO_9; clear HO_10; clear HB; have HO_9 := n0_; have HO_10 := n1_; have HO336 := n2_; have HB := n3_; clear n0_ n1_ n2_ n3_; (try clear hb); (try clear hb2); (try clear hk); (try clear hi); (try clear ho0); obtain ⟨Ao34, co34, eo34⟩ := Kd.R_slice HO336.out; subst eo34) | ((with_reducible refine gate_callee (f := 9) rfl ?_); refine goesL_ (some 58) rfl rfl Try.func9 (by kernel_rfl) rfl #[.slice Ao21 t325.length co21, .slice Ao34 t334.length co34] rfl av_ ?_; (with_reducible refine (laws_eqRagaS.calls kj12 _ _ t325 _ _ t334 true _ ?side1 ?side2 ?side3 ?side4 A28.out).mono ?_); (case side1 => exact cs_ (Kd.R_reads' HO_9.out).2.2); (case side2 => exact (Kd.R_reads' HO_9.out).2.1); (case side3 => exact cs_ (Kd.R_reads' HO336.out).2.2); (case side4 => exact (Kd.R_reads' HO336.out).2.1); rintro e w35 ⟨rfl, hb⟩; refine ⟨_, rfl, ?_⟩; have n0_ := Aside0.mk (Kd.R_below (rr_ HO_9.out) hb); have n1_ := Aside0.mk (Kd.R_below (rr_ HO_10.out) hb); have n2_ := Aside0.mk (Kd.R_below (rr_ HO336.out) hb); have n3_ := Aside0.mk (below_step (bb_ HB.out) hb); clear HO_9; clear HO_10; clear HO336; clear HB; have HO_9 := n0_; have HO_10 := n1_; have HO336 := n2_; have HB := n3_; clear n0_ n1_ n2_ n3_; (try clear hb); (try clear hb2); (try clear hk); (try clear hi)) | ((with_reducible refine gate_callee (f := 7) rfl ?_); refine goesL_ (some 62) rfl rfl Try.func7 (by kernel_rfl) rfl #[.slice A1 l1.length c1] rfl av_ ?_; (with_reducible refine (laws_toInt64S.calls kj12 _ _ l1 t338 _ ?side1 ?side2 A30.out).mono ?_); (case side1 => exact (Kd.C_below HR1.out HB.out)); (case side2 => exact HC1.out); rintro e w36 ⟨v339, rfl, ho0, hb⟩; refine ⟨_, rfl, ?_⟩; have n0_ := Aside0.mk (Kd.R_elder' (rr_ HO_9.out) (Kd.R_base ho0) hb); have n1_ := Aside0.mk (Kd.R_elder' (rr_ HO_10.out) (Kd.R_base ho0) hb); have n2_ := Aside0.mk (Kd.R_elder' (rr_ HO336.out) (Kd.R_base ho0) hb); have n3_ := Aside0.mk (Kd.R_lower (Kd.R_new' ho0 (Kd.R_lt (rr_ HO_10.out))) (below_size (bb_ HB.out))); have n4_ := Aside0.mk (below_step (bb_ HB.out) hb); clear HO_9; clear HO_10; clear HO336; clear HB; have HO_9 := n0_; have HO_10 := n1_; have HO336 := n2_; have HO340 := n3_; have HB := n4_; clear n0_ n1_ n2_ n3_ n4_; (try clear hb); (try clear hb2); (try clear hk); (try clear hi); (try clear ho0); obtain ⟨Ao37, co37, eo37⟩ := Kd.R_slice HO340.out; subst eo37) | ((with_reducible refine gate_callee (f := 10) rfl ?_); refine goesL_ (some 63) rfl rfl Try.func10 (by kernel_rfl) rfl #[.slice Ao22 t328.length co22, .slice Ao37 t338.length co37] rfl av_ ?_; (with_reducible refine (laws_eqInt64S.calls kj12 _ _ t328 _ _ t338 true _ ?side1 ?side2 ?side3 ?side4 A31.out).mono ?_); (case side1 => exact cs_ (Kd.R_reads' HO_10.out).2.2); (case side2 => exact (Kd.R_reads' HO_10.out).2.1); (case side3 => exact cs_ (Kd.R_reads' HO340.out).2.2); (case side4 => exact (Kd.R_reads' HO340.out).2.1); rintro e w' ⟨rfl, ⟨nd, rfl⟩⟩; refine ⟨_, rfl, ?_⟩))
        go_ret
        exact ⟨by first | rfl | (simp [errW_none, errW_some] <;> rfl) | (simp [*, errW_none, errW_some] <;> rfl), bb_ HB.out⟩
       ·replace c32 := Bool.eq_false_iff.mpr c32
        subst c32
        have H1 : (some false) = some r := by rw [if_neg (show ¬ (false = true) by decide)] at H; exact H
        clear H
        have H := H1
        clear H1
        exact absurd ((Option.some.inj H).trans HT.out) (by decide)
      ·replace c29 := Bool.eq_false_iff.mpr c29
       subst c29
       have H1 : (some false) = some r := by rw [if_neg (show ¬ (false = true) by decide)] at H; exact H
       clear H
       have H := H1
       clear H1
       exact absurd ((Option.some.inj H).trans HT.out) (by decide)

/-- THE ONE PURE STATEMENT of laws_FnExactBestRaga. -/
def laws_FnExactBestRaga.Pure : Prop := ∀ (l0 : List (S36)) (l1 : List Int), (l0.length ≤ maxLen ∧ ∀ y0 ∈ l0, (y0.f0.size ≤ maxLen ∧ (y0.f1.length ≤ maxLen ∧ ∀ y1 ∈ y0.f1, (Lit.int .i64 y1).wf = true) ∧ (y0.f2.length ≤ maxLen ∧ ∀ y1 ∈ y0.f2, (Lit.int .i64 y1).wf = true) ∧ (Lit.int .i64 y0.f3).wf = true ∧ (Lit.int .i64 y0.f4).wf = true ∧ (y0.f5.length ≤ maxLen ∧ ∀ y1 ∈ y0.f5, (y1.length ≤ maxLen ∧ ∀ y2 ∈ y1, (Lit.int .i64 y2).wf = true)))) → (l1.length ≤ maxLen ∧ ∀ y0 ∈ l1, (Lit.int .i64 y0).wf = true) → ∃ k, laws_FnExactBestRaga.f k l0 l1 = some true
theorem laws_FnExactBestRaga.walk (P : laws_FnExactBestRaga.Pure) (A0 : Option Addr) (c0 : Nat) (l0 : List (S36)) (A1 : Option Addr) (c1 : Nat) (l1 : List Int) (w : World) (hr0 : Kd.C k36 w A0 l0.length l0) (hc0 : l0.length ≤ c0) (hr1 : Kd.C (Kd.int .i64) w A1 l1.length l1) (hc1 : l1.length ≤ c1) (w0 : (l0.length ≤ maxLen ∧ ∀ y0 ∈ l0, (y0.f0.size ≤ maxLen ∧ (y0.f1.length ≤ maxLen ∧ ∀ y1 ∈ y0.f1, (Lit.int .i64 y1).wf = true) ∧ (y0.f2.length ≤ maxLen ∧ ∀ y1 ∈ y0.f2, (Lit.int .i64 y1).wf = true) ∧ (Lit.int .i64 y0.f3).wf = true ∧ (Lit.int .i64 y0.f4).wf = true ∧ (y0.f5.length ≤ maxLen ∧ ∀ y1 ∈ y0.f5, (y1.length ≤ maxLen ∧ ∀ y2 ∈ y1, (Lit.int .i64 y2).wf = true))))) (w1 : (l1.length ≤ maxLen ∧ ∀ y0 ∈ l1, (Lit.int .i64 y0).wf = true)) :
  Calls Try.prog 3 #[.slice A0 l0.length c0, .slice A1 l1.length c1] w fun e w' => e = .returned (.bool true) ∧ Below w.heap.size w w' := by
 obtain ⟨k, h⟩ := P l0 l1 w0 w1
 refine (laws_FnExactBestRaga.calls k _ _ l0 _ _ l1 true w hr0 hc0 hr1 hc1 rfl h).mono ?_
 rintro e w' ⟨rfl, hd⟩
 exact ⟨rfl, hd⟩

end Go.Proofs.Ytmibjceanfhhlaa.P
end

section
namespace Go.Proofs.Ytmibjceanfhhlaa.Pure
open Go.RowKit Go.Proofs.Ytmibjceanfhhlaa.P Go.Proofs.YtmibjceanfhhlaaW.PrintWords Go.Proofs.YtmibjceanfhhlaaW.PrintLast Go.Proofs.YtmibjceanfhhlaaW.PrintMore
set_option linter.unusedVariables false
set_option linter.unusedSimpArgs false

def betR (ps : List Int) (x y : S42) : Bool := decide (wR ps x < wR ps y) || (decide (wR ps x = wR ps y) && decide (zR x < zR y))
def bestR (l : List S42) (ps : List Int) : Nat → Nat → Nat → Nat
  | 0, _, b => b
  | d + 1, i, b => bestR l ps d (i + 1) (if betR ps (rd_T42 l (i : Int)) (rd_T42 l (b : Int)) = true then i else b)
theorem cmp_Or_two (a b : Int) : Ev (fun k => cmp_Or_int.f k [a, b]) (if a = 0 then b else a) := by
  unfold cmp_Or_int.f
  refine Ev.succ ?_
  simp only [cmp_Or_int.l0]
  refine Ev.ite_pos (by simp) (Ev.ite_pos (by omega) (Ev.ite_pos (by simp) ?_))
  by_cases c : a = 0
  · rw [if_pos c]
    refine Ev.ite_pos (by simpa [rd] using c) (Ev.succ ?_)
    simp only [cmp_Or_int.l0]
    refine Ev.ite_pos (by simp [wrap64]) (Ev.ite_pos (by simp [wrap64]) (Ev.ite_pos (by simp [wrap64]) ?_))
    by_cases e : b = 0
    · refine Ev.ite_pos (by simpa [rd, wrap64] using e) (Ev.succ ?_)
      simp only [cmp_Or_int.l0]
      exact Ev.ite_neg (by simp [wrap64]) (Ev.cast (Ev.now _) e.symm)
    · exact Ev.ite_neg (by simpa [rd, wrap64] using e) (Ev.cast (Ev.now _) (by simp [rd, wrap64]))
  · rw [if_neg c]
    exact Ev.ite_neg (by simpa [rd] using c) (Ev.cast (Ev.now _) (by simp [rd]))
theorem cmp_less (p q a b : Int) : ((if cmpM p q = 0 then cmpM a b else cmpM p q) < 0) ↔ (p < q ∨ (p = q ∧ a < b)) := by
  unfold cmpM
  split <;> split <;> (try split) <;> (try split) <;> (try split) <;> omega
theorem spec_BestRaga_l0 (l : List S42) (ps : List Int) (hl : l.length ≤ 12) (hf : ∀ x ∈ l, FitR x) (hv : ∀ x ∈ l, ragR x = true) (hp : pitchesB ps = true) : ∀ (d i b : Nat), l.length - i = d → b < l.length →
    Ev (fun k => spec_BestRaga.l0 k l ps b (wR ps (rd_T42 l (b : Int))) i) ((bestR l ps d i b : Int), wR ps (rd_T42 l (bestR l ps d i b : Int)), 0) := by
  intro d
  induction d with
  | zero =>
    intro i b hd hb
    refine Ev.succ ?_
    simp only [spec_BestRaga.l0]
    exact Ev.ite_neg (by omega) (Ev.now _)
  | succ d ih =>
    intro i b hd hb
    have hi : i < l.length := by omega
    have w1 : wrap64 ((i : Int) + 1) = ((i + 1 : Nat) : Int) := by rw [w64 (by omega) (by omega)]; omega
    have fi := hf l[i] (List.getElem_mem hi)
    have fb := hf l[b] (List.getElem_mem hb)
    obtain ⟨g, eg⟩ := spec_evidence_ev ps hp l[i] fi (hv _ (List.getElem_mem hi))
    have ei := ih (i + 1) i (by omega) hi
    have eb := ih (i + 1) b (by omega) hb
    refine Ev.succ ?_
    simp only [spec_BestRaga.l0, w1]
    clear w1
    rw [bestR]
    rw [rdr_at hi] at ei ⊢
    rw [rdr_at hb] at eb ⊢
    refine Ev.ite_pos (by omega) (Ev.ite_pos (by omega) (Ev.bind eg ?_))
    by_cases c : wR ps l[i] < wR ps l[b]
    · rw [if_pos (by simp [betR, c])]
      exact Ev.ite_pos c ei
    · refine Ev.ite_neg c ?_
      by_cases c2 : wR ps l[i] = wR ps l[b]
      · refine Ev.ite_pos c2 (Ev.bind (spec_l12Size_ev l[i] fi) (Ev.ite_pos (by omega) (Ev.ite_pos (by omega) (Ev.bind (spec_l12Size_ev l[b] fb) ?_))))
        by_cases c3 : zR l[i] < zR l[b]
        · rw [if_pos (by simp [betR, c2, c3])]
          exact Ev.ite_pos c3 ei
        · rw [if_neg (by simp [betR, c2, c3])]
          exact Ev.ite_neg c3 eb
      · rw [if_neg (by simp [betR, c, c2])]
        exact Ev.ite_neg c2 eb
theorem impl_BestRaga_l0 (l : List S42) (ps : List Int) (hl : l.length ≤ 12) (hf : ∀ x ∈ l, FitR x) (hv : ∀ x ∈ l, ragR x = true) (hp : pitchesB ps = true) : ∀ (d i b : Nat), l.length - i = d → b < l.length →
    Ev (fun k => impl_BestRaga.l0 k l ps b l l.length i) ((bestR l ps d i b : Int), wR ps (rd_T42 l (bestR l ps d i b : Int)), 0) := by
  intro d
  induction d with
  | zero =>
    intro i b hd hb
    have fb := hf l[b] (List.getElem_mem hb)
    refine Ev.succ ?_
    simp only [impl_BestRaga.l0, bestR]
    rw [rdr_at hb]
    exact Ev.ite_neg (by omega) (Ev.ite_pos (by omega) (Ev.ite_pos (by omega) (Ev.bind (impl_wrongs_ev ps hp l[b] fb (hv _ (List.getElem_mem hb))) (Ev.now _))))
  | succ d ih =>
    intro i b hd hb
    have hi : i < l.length := by omega
    have w1 : wrap64 ((i : Int) + 1) = ((i + 1 : Nat) : Int) := by rw [w64 (by omega) (by omega)]; omega
    have fi := hf l[i] (List.getElem_mem hi)
    have fb := hf l[b] (List.getElem_mem hb)
    have ei := ih (i + 1) i (by omega) hi
    have eb := ih (i + 1) b (by omega) hb
    refine Ev.succ ?_
    simp only [impl_BestRaga.l0, w1]
    clear w1
    rw [bestR, rdr_at hi, rdr_at hb]
    refine Ev.ite_pos (by omega) (Ev.ite_pos (by omega) (Ev.ite_pos (by omega) (Ev.ite_pos (by omega) (Ev.ite_pos (by omega) (Ev.bind (impl_wrongs_ev ps hp l[i] fi (hv _ (List.getElem_mem hi))) (Ev.bind (impl_wrongs_ev ps hp l[b] fb (hv _ (List.getElem_mem hb))) (Ev.bindc (cmp_Compare_eq _ _) (Ev.bind (impl_toneCount_ev l[i] fi) (Ev.bind (impl_toneCount_ev l[b] fb) (Ev.bindc (cmp_Compare_eq _ _) (Ev.bind (cmp_Or_two _ _) ?_)))))))))))
    by_cases c : betR ps l[i] l[b] = true
    · rw [if_pos c]
      exact Ev.ite_pos ((cmp_less _ _ _ _).2 (by simpa [betR] using c)) ei
    · rw [if_neg c]
      exact Ev.ite_neg (fun h => c (by simpa [betR] using (cmp_less _ _ _ _).1 h)) eb
theorem bothBestRaga (l : List S42) (ps : List Int) (hl : l.length ≤ 1048576) (hf : ∀ x ∈ l, FitR x) (hps : ps.length ≤ 1048576) : ∃ r, Ev (fun k => spec_BestRaga.f k l ps) r ∧ Ev (fun k => impl_BestRaga.f k l ps) r := by
  have a0 := spec_l12List_ev l hl hf
  have b0 := impl_ragasOk_ev l hf
  unfold spec_BestRaga.f impl_BestRaga.f
  cases v0 : ragasB l with
  | false => exact ⟨(0, 0, 1), Ev.bind a0 (Ev.ite_neg (by rw [v0]; decide) (Ev.now _)), Ev.bind b0 (Ev.ite_neg (by rw [v0]; decide) (Ev.now _))⟩
  | true =>
    cases hp : pitchesB ps with
    | false => exact ⟨(0, 0, 7), Ev.bind a0 (Ev.ite_pos v0 (Ev.bind (spec_l05Pitches_ev ps (by omega)) (Ev.ite_neg (by rw [hp]; decide) (Ev.now _)))), Ev.bind b0 (Ev.ite_pos v0 (Ev.bindc (impl_pitchesOk_eq ps) (Ev.ite_neg (by rw [hp]; decide) (Ev.now _))))⟩
    | true =>
      by_cases c : (l.length : Int) = 0
      · exact ⟨(0, 0, 3), Ev.bind a0 (Ev.ite_pos v0 (Ev.bind (spec_l05Pitches_ev ps (by omega)) (Ev.ite_pos hp (Ev.ite_pos c (Ev.now _))))), Ev.bind b0 (Ev.ite_pos v0 (Ev.bindc (impl_pitchesOk_eq ps) (Ev.ite_pos hp (Ev.ite_pos c (Ev.now _)))))⟩
      · have h := v0
        simp only [ragasB, Bool.and_eq_true, decide_eq_true_eq, List.all_eq_true] at h
        obtain ⟨hv, h12⟩ := h
        have h0 : 0 < l.length := by omega
        obtain ⟨g, eg⟩ := spec_evidence_ev ps hp l[0] (hf _ (List.getElem_mem h0)) (hv _ (List.getElem_mem h0))
        have r0 : rd_T42 l (0 : Int) = l[0] := rdr_at h0
        have es := spec_BestRaga_l0 l ps (by omega) hf hv hp (l.length - 1) 1 0 (by omega) h0
        have ei := impl_BestRaga_l0 l ps (by omega) hf hv hp l.length 0 0 (by omega) h0
        have eb : bestR l ps l.length 0 0 = bestR l ps (l.length - 1) 1 0 := by
          obtain ⟨n, hn⟩ : ∃ n, l.length = n + 1 := ⟨l.length - 1, by omega⟩
          rw [hn, bestR, if_neg (by simp [betR])]
          rfl
        rw [eb] at ei
        have r0' : rd_T42 l ((0 : Nat) : Int) = l[0] := rdr_at h0
        rw [r0'] at es
        refine ⟨_, Ev.bind a0 (Ev.ite_pos v0 (Ev.bind (spec_l05Pitches_ev ps (by omega)) (Ev.ite_pos hp (Ev.ite_neg c (Ev.ite_pos (by omega) ?_))))), Ev.bind b0 (Ev.ite_pos v0 (Ev.bindc (impl_pitchesOk_eq ps) (Ev.ite_pos hp (Ev.ite_neg c (by simpa using ei)))))⟩
        rw [r0]
        exact Ev.bind eg (by simpa using es)
theorem FnExactBestRaga : laws_FnExactBestRaga.Pure := by
  intro l ps ⟨hl, hx⟩ ⟨hps, _⟩
  refine Ev.out (r := true) ?_
  unfold laws_FnExactBestRaga.f
  by_cases gl : (ps.length : Int) > 1048576
  · exact Ev.ite_pos gl (Ev.now _)
  refine Ev.ite_neg gl ?_
  obtain ⟨t, et, ct⟩ := szRagaS_ge l hl (fun x h => ⟨(hx x h).1, (hx x h).2.1.1, (hx x h).2.2.1.1, (hx x h).2.2.2.2.2.1, fun y hy => ((hx x h).2.2.2.2.2.2 y hy).1⟩)
  refine Ev.bind et ?_
  by_cases g : t < 0
  · exact Ev.ite_pos g (Ev.now _)
  refine Ev.ite_neg g ?_
  obtain ⟨ll, hf⟩ := ct.resolve_left g
  have tl := toRagaS_ev l ll hf
  have tp := toInt64S_ev ps (by omega)
  have lm : (l.map ragaOf).length ≤ 1048576 := by simpa using ll
  have hf' : ∀ x ∈ l.map ragaOf, FitR x := fun x hx => by
    obtain ⟨y, hy, rfl⟩ := List.mem_map.1 hx
    exact hf y hy
  obtain ⟨r, es, ei⟩ := bothBestRaga (l.map ragaOf) ps lm hf' (by omega)
  refine Ev.bind tl (Ev.bind tp (Ev.bind es (Ev.bind tl (Ev.bind tp (Ev.bind ei (Ev.ite_pos rfl (Ev.ite_pos rfl (Ev.succ ?_))))))))
  simp only [laws_FnExactBestRaga.j0]
  refine Ev.ite_neg (by simp) ?_
  exact Ev.bind tl (Ev.bind (eqRagaS_self _ (by omega) hf') (Ev.ite_pos rfl (Ev.bind tp (Ev.bind (eqInt64S_self ps (by omega)) (Ev.ite_pos rfl (Ev.now _))))))

end Go.Proofs.Ytmibjceanfhhlaa.Pure
end
