/- The pure statement of FnExactWarpDistance. No condition. -/
import Derived.Test.YtddhommmokdlnaaGWDT1
import Derived.Test.YtddhommmokdlnaaGWDT2
import Derived.Test.YtddhommmokdlnaaGWDT3
import Derived.Test.YtddhommmokdlnaaGWDT4
import Derived.Test.YtddhommmokdlnaaGWDT6
section
namespace Go.Proofs.Ytddhommmokdlnaa.P
open Go.RowKit Go.Proofs.YtddhommmokdlnaaW.PrintWords Go.Proofs.YtddhommmokdlnaaW.PrintLast Go.Proofs.YtddhommmokdlnaaW.PrintMore
attribute [local go_sem] max2_int min2_int max_two min_two max_three min_three max_four min_four   -- for this text's walks alone
set_option linter.unusedVariables false
set_option linter.unusedSimpArgs false

/-! ### laws_FnExactWarpDistance: function 12 -/
def laws_FnExactWarpDistance.j0 : Nat → List Int → List Int → List Int → List Int → Bool → Option (Bool)
  | 0, _, _, _, _, _ => none
  | k + 1, x0, x1, x7, x8, x42 => if x42 = true then (some false) else ((laws_toInt64S.f k x0).bind fun t942 => ((laws_eqInt64S.f k x7 t942).bind fun t945 => (if t945 = true then ((laws_toInt64S.f k x1).bind fun t946 => ((laws_eqInt64S.f k x8 t946).bind fun t949 => (if t949 = true then (some true) else (some false)))) else (some false))))
def laws_FnExactWarpDistance.f (k : Nat) (l0 : List Int) (l1 : List Int) : Option (Bool) := if (l0.length : Int) > 1048576 then (some true) else (if (l1.length : Int) > 1048576 then (some true) else ((laws_toInt64S.f k l0).bind fun t926 => ((laws_toInt64S.f k l1).bind fun t929 => ((spec_WarpDistance.f k t926 t929).bind fun bt932 => ((laws_toInt64S.f k l0).bind fun t934 => ((laws_toInt64S.f k l1).bind fun t937 => ((impl_WarpDistance.f k t934 t937).bind fun bt940 => (if bt940.1 = bt932.1 then (laws_FnExactWarpDistance.j0 k l0 l1 t934 t937 (bt940.2 != bt932.2)) else (laws_FnExactWarpDistance.j0 k l0 l1 t934 t937 true)))))))))
theorem laws_FnExactWarpDistance.mono_l : ∀ k, (∀ y0 y1 y2 y3 y4, LeO (laws_FnExactWarpDistance.j0 k y0 y1 y2 y3 y4) (laws_FnExactWarpDistance.j0 (k + 1) y0 y1 y2 y3 y4))
  | 0 => fun _ _ _ _ _ r h => by simp [laws_FnExactWarpDistance.j0] at h
  | k + 1 => by
    have ih0 := laws_FnExactWarpDistance.mono_l k
    · intro y0 y1 y2 y3 y4
      unfold laws_FnExactWarpDistance.j0
      repeat' first
      | (with_reducible exact ih0 _ _ _ _ _)
      | (with_reducible exact impl_WarpDistance.mono _ _ _)
      | (with_reducible exact laws_eqInt64S.mono _ _ _)
      | (with_reducible exact laws_toInt64S.mono _ _)
      | (with_reducible exact spec_WarpDistance.mono _ _ _)
      | (with_reducible exact LeO.refl _)
      | (with_reducible exact LeO.none _)
      | (with_reducible refine LeO.ite ?_ ?_)
      | (with_reducible refine LeO.bind ?_ (fun _ => ?_))
      | exact ih0 _ _ _ _ _
      | exact impl_WarpDistance.mono _ _ _
      | exact laws_eqInt64S.mono _ _ _
      | exact laws_toInt64S.mono _ _
      | exact spec_WarpDistance.mono _ _ _
      | exact LeO.none _
      | refine LeO.ite ?_ ?_
      | refine LeO.bind ?_ (fun _ => ?_)
theorem laws_FnExactWarpDistance.mono : ∀ a0 a1 k, LeO (laws_FnExactWarpDistance.f k a0 a1) (laws_FnExactWarpDistance.f (k + 1) a0 a1) := by
  intro a0 a1 k
  have ih0 := laws_FnExactWarpDistance.mono_l k
  unfold laws_FnExactWarpDistance.f
  repeat' first
      | (with_reducible exact ih0 _ _ _ _ _)
      | (with_reducible exact impl_WarpDistance.mono _ _ _)
      | (with_reducible exact laws_eqInt64S.mono _ _ _)
      | (with_reducible exact laws_toInt64S.mono _ _)
      | (with_reducible exact spec_WarpDistance.mono _ _ _)
      | (with_reducible exact LeO.refl _)
      | (with_reducible exact LeO.none _)
      | (with_reducible refine LeO.ite ?_ ?_)
      | (with_reducible refine LeO.bind ?_ (fun _ => ?_))
      | exact ih0 _ _ _ _ _
      | exact impl_WarpDistance.mono _ _ _
      | exact laws_eqInt64S.mono _ _ _
      | exact laws_toInt64S.mono _ _
      | exact spec_WarpDistance.mono _ _ _
      | exact LeO.none _
      | refine LeO.ite ?_ ?_
      | refine LeO.bind ?_ (fun _ => ?_)
set_option maxHeartbeats 8000000 in
set_option maxRecDepth 100000 in
theorem laws_FnExactWarpDistance.calls (k : Nat) (A0 : Option Addr) (c0 : Nat) (l0 : List Int) (A1 : Option Addr) (c1 : Nat) (l1 : List Int) (r : Bool) (w : World) (hr0 : Kd.C (Kd.int .i64) w A0 l0.length l0) (hc0 : l0.length ≤ c0) (hr1 : Kd.C (Kd.int .i64) w A1 l1.length l1) (hc1 : l1.length ≤ c1) (hT : r = true) (h : laws_FnExactWarpDistance.f k l0 l1 = some r) :
    Calls Try.prog 12 #[.slice A0 l0.length c0, .slice A1 l1.length c1] w fun e w' => e = .returned (.bool r) ∧ Below w.heap.size w w' := by
  have HR0 := Aside0.mk hr0
  have HC0 := Aside0.mk hc0
  clear hr0 hc0
  have HR1 := Aside0.mk hr1
  have HC1 := Aside0.mk hc1
  clear hr1 hc1
  have HT := Aside0.mk hT
  clear hT
  have HB := Aside0.mk (Below.refl w.heap.size w)
  have H : (if (l0.length : Int) > 1048576 then (some true) else (if (l1.length : Int) > 1048576 then (some true) else ((laws_toInt64S.f k l0).bind fun t926 => ((laws_toInt64S.f k l1).bind fun t929 => ((spec_WarpDistance.f k t926 t929).bind fun bt932 => ((laws_toInt64S.f k l0).bind fun t934 => ((laws_toInt64S.f k l1).bind fun t937 => ((impl_WarpDistance.f k t934 t937).bind fun bt940 => (if bt940.1 = bt932.1 then (laws_FnExactWarpDistance.j0 k l0 l1 t934 t937 (bt940.2 != bt932.2)) else (laws_FnExactWarpDistance.j0 k l0 l1 t934 t937 true)))))))))) = some r := h
  clear h
  by_cases c3 : (l0.length : Int) > 1048576
  · rw [if_pos c3] at H
    have c3b0 : decide (1048576 < (l0.length : Int)) = true := decide_eq_true c3
    have c3b1 : decide (1048576 < l0.length) = true := decide_eq_true (by omega)
    clear c3
    obtain rfl := Option.some.inj H
    go_enter Try.func12, Try.ntmps12
    go_wp2
    go_ret
    exact ⟨by first | rfl | (simp [errW_none, errW_some] <;> rfl) | (simp [*, errW_none, errW_some] <;> rfl), by repeat (first | (with_reducible first | exact HB.out | apply below_alloc | apply pw_below_drewN | apply below_drew1) | exact HB.out)⟩
  · rw [if_neg c3] at H
    have c3b0 : decide (1048576 < (l0.length : Int)) = false := decide_eq_false c3
    have c3b1 : decide (1048576 < l0.length) = false := decide_eq_false (by omega)
    clear c3
    by_cases c4 : (l1.length : Int) > 1048576
    · rw [if_pos c4] at H
      have c4b0 : decide (1048576 < (l1.length : Int)) = true := decide_eq_true c4
      have c4b1 : decide (1048576 < l1.length) = true := decide_eq_true (by omega)
      clear c4
      obtain rfl := Option.some.inj H
      go_enter Try.func12, Try.ntmps12
      go_wp2
      go_ret
      exact ⟨by first | rfl | (simp [errW_none, errW_some] <;> rfl) | (simp [*, errW_none, errW_some] <;> rfl), by repeat (first | (with_reducible first | exact HB.out | apply below_alloc | apply pw_below_drewN | apply below_drew1) | exact HB.out)⟩
    · rw [if_neg c4] at H
      have c4b0 : decide (1048576 < (l1.length : Int)) = false := decide_eq_false c4
      have c4b1 : decide (1048576 < l1.length) = false := decide_eq_false (by omega)
      clear c4
      replace H := Option.bind_eq_some_iff.mp H
      obtain ⟨t926, A50, H⟩ := H
      replace H : ((laws_toInt64S.f k l1).bind fun t929 => ((spec_WarpDistance.f k t926 t929).bind fun bt932 => ((laws_toInt64S.f k l0).bind fun t934 => ((laws_toInt64S.f k l1).bind fun t937 => ((impl_WarpDistance.f k t934 t937).bind fun bt940 => (if bt940.1 = bt932.1 then (laws_FnExactWarpDistance.j0 k l0 l1 t934 t937 (bt940.2 != bt932.2)) else (laws_FnExactWarpDistance.j0 k l0 l1 t934 t937 true))))))) = some r := H
      have A5 := Aside0.mk A50
      clear A50
      replace H := Option.bind_eq_some_iff.mp H
      obtain ⟨t929, A60, H⟩ := H
      replace H : ((spec_WarpDistance.f k t926 t929).bind fun bt932 => ((laws_toInt64S.f k l0).bind fun t934 => ((laws_toInt64S.f k l1).bind fun t937 => ((impl_WarpDistance.f k t934 t937).bind fun bt940 => (if bt940.1 = bt932.1 then (laws_FnExactWarpDistance.j0 k l0 l1 t934 t937 (bt940.2 != bt932.2)) else (laws_FnExactWarpDistance.j0 k l0 l1 t934 t937 true)))))) = some r := H
      have A6 := Aside0.mk A60
      clear A60
      replace H := Option.bind_eq_some_iff.mp H
      obtain ⟨⟨t932, t933⟩, A70, H⟩ := H
      replace H : ((laws_toInt64S.f k l0).bind fun t934 => ((laws_toInt64S.f k l1).bind fun t937 => ((impl_WarpDistance.f k t934 t937).bind fun bt940 => (if bt940.1 = t932 then (laws_FnExactWarpDistance.j0 k l0 l1 t934 t937 (bt940.2 != t933)) else (laws_FnExactWarpDistance.j0 k l0 l1 t934 t937 true))))) = some r := H
      have A7 := Aside0.mk A70
      clear A70
      replace H := Option.bind_eq_some_iff.mp H
      obtain ⟨t934, A80, H⟩ := H
      replace H : ((laws_toInt64S.f k l1).bind fun t937 => ((impl_WarpDistance.f k t934 t937).bind fun bt940 => (if bt940.1 = t932 then (laws_FnExactWarpDistance.j0 k l0 l1 t934 t937 (bt940.2 != t933)) else (laws_FnExactWarpDistance.j0 k l0 l1 t934 t937 true)))) = some r := H
      have A8 := Aside0.mk A80
      clear A80
      replace H := Option.bind_eq_some_iff.mp H
      obtain ⟨t937, A90, H⟩ := H
      replace H : ((impl_WarpDistance.f k t934 t937).bind fun bt940 => (if bt940.1 = t932 then (laws_FnExactWarpDistance.j0 k l0 l1 t934 t937 (bt940.2 != t933)) else (laws_FnExactWarpDistance.j0 k l0 l1 t934 t937 true))) = some r := H
      have A9 := Aside0.mk A90
      clear A90
      replace H := Option.bind_eq_some_iff.mp H
      obtain ⟨⟨t940, t941⟩, A100, H⟩ := H
      replace H : (if t940 = t932 then (laws_FnExactWarpDistance.j0 k l0 l1 t934 t937 (t941 != t933)) else (laws_FnExactWarpDistance.j0 k l0 l1 t934 t937 true)) = some r := H
      have A10 := Aside0.mk A100
      clear A100
      have HC11 := Aside0.mk H
      clear H
      go_enter Try.func12, Try.ntmps12
      go_upto_region 9 with (first | ((with_reducible refine gate_callee (f := 16) rfl ?_); refine goesL_ (some 19) rfl rfl Try.func16 (by kernel_rfl) rfl #[.slice A0 l0.length c0] rfl (by (try simp only [List.map_toArray, List.map_cons, List.map_nil]); first | done | rfl | (simp only [List.length_drop, List.length_take]; rfl)) ?_; (with_reducible refine (laws_toInt64S.calls k _ _ l0 t926 _ ?side1 ?side2 A5.out).mono ?_); (case side1 => repeat (first | exact HR0.out | (with_reducible refine Kd.C_alloc ?_ _) | (with_reducible refine Kd.C_drewN ?_ _) | (with_reducible refine Kd.C_drew ?_))); (case side2 => exact HC0.out); rintro e w12 ⟨v927, rfl, ho0, hb⟩; refine ⟨_, rfl, ?_⟩; have n0_ := Aside0.mk (Kd.R_lower ho0 (below_size (by repeat (first | (with_reducible first | exact HB.out | apply below_alloc | apply pw_below_drewN | apply below_drew1) | exact HB.out)))); have n1_ := Aside0.mk (below_step (by repeat (first | (with_reducible first | exact HB.out | apply below_alloc | apply pw_below_drewN | apply below_drew1) | exact HB.out)) hb); clear HB; have HO928 := n0_; have HB := n1_; clear n0_ n1_; (try clear hb); (try clear hb2); (try clear hk); (try clear hi); (try clear ho0)) | ((with_reducible refine gate_callee (f := 16) rfl ?_); refine goesL_ (some 21) rfl rfl Try.func16 (by kernel_rfl) rfl #[.slice A1 l1.length c1] rfl (by (try simp only [List.map_toArray, List.map_cons, List.map_nil]); first | done | rfl | (simp only [List.length_drop, List.length_take]; rfl)) ?_; (with_reducible refine (laws_toInt64S.calls k _ _ l1 t929 _ ?side1 ?side2 A6.out).mono ?_); (case side1 => repeat (first | exact (Kd.C_below HR1.out HB.out) | (with_reducible refine Kd.C_alloc ?_ _) | (with_reducible refine Kd.C_drewN ?_ _) | (with_reducible refine Kd.C_drew ?_))); (case side2 => exact HC1.out); rintro e w13 ⟨v930, rfl, ho0, hb⟩; refine ⟨_, rfl, ?_⟩; have n0_ := Aside0.mk (Kd.R_elder' (by (with_reducible repeat (first | apply Kd.R_alloc | apply Kd.R_drewN | apply Kd.R_drew)); exact HO928.out) (Kd.R_base ho0) hb); have n1_ := Aside0.mk (Kd.R_lower (Kd.R_new' ho0 (Kd.R_lt (by (with_reducible repeat (first | apply Kd.R_alloc | apply Kd.R_drewN | apply Kd.R_drew)); exact HO928.out))) (below_size (by repeat (first | (with_reducible first | exact HB.out | apply below_alloc | apply pw_below_drewN | apply below_drew1) | exact HB.out)))); have n2_ := Aside0.mk (below_step (by repeat (first | (with_reducible first | exact HB.out | apply below_alloc | apply pw_below_drewN | apply below_drew1) | exact HB.out)) hb); clear HO928; clear HB; have HO928 := n0_; have HO931 := n1_; have HB := n2_; clear n0_ n1_ n2_; (try clear hb); (try clear hb2); (try clear hk); (try clear hi); (try clear ho0); obtain ⟨Ao14, co14, eo14⟩ := Kd.R_slice HO928.out; subst eo14; obtain ⟨Ao15, co15, eo15⟩ := Kd.R_slice HO931.out; subst eo15) | ((with_reducible refine gate_callee (f := 37) rfl ?_); refine goesL_ (some 22) rfl rfl Try.func37 (by kernel_rfl) rfl #[.slice Ao14 t926.length co14, .slice Ao15 t929.length co15] rfl (by (try simp only [List.map_toArray, List.map_cons, List.map_nil]); first | done | rfl | (simp only [List.length_drop, List.length_take]; rfl)) ?_; (with_reducible refine (spec_WarpDistance.calls k _ _ t926 _ _ t929 t932 t933 _ ?side1 ?side2 ?side3 ?side4 A7.out).mono ?_); (case side1 => repeat (first | exact (Kd.R_reads' HO928.out).2.2 | (with_reducible refine Kd.C_alloc ?_ _) | (with_reducible refine Kd.C_drewN ?_ _) | (with_reducible refine Kd.C_drew ?_))); (case side2 => exact (Kd.R_reads' HO928.out).2.1); (case side3 => repeat (first | exact (Kd.R_reads' HO931.out).2.2 | (with_reducible refine Kd.C_alloc ?_ _) | (with_reducible refine Kd.C_drewN ?_ _) | (with_reducible refine Kd.C_drew ?_))); (case side4 => exact (Kd.R_reads' HO931.out).2.1); rintro e w16 ⟨rfl, hb⟩; refine ⟨_, rfl, ?_⟩; have n0_ := Aside0.mk (Kd.R_below (by (with_reducible repeat (first | apply Kd.R_alloc | apply Kd.R_drewN | apply Kd.R_drew)); exact HO928.out) hb); have n1_ := Aside0.mk (Kd.R_below (by (with_reducible repeat (first | apply Kd.R_alloc | apply Kd.R_drewN | apply Kd.R_drew)); exact HO931.out) hb); have n2_ := Aside0.mk (below_step (by repeat (first | (with_reducible first | exact HB.out | apply below_alloc | apply pw_below_drewN | apply below_drew1) | exact HB.out)) hb); clear HO928; clear HO931; clear HB; have HO928 := n0_; have HO931 := n1_; have HB := n2_; clear n0_ n1_ n2_; (try clear hb); (try clear hb2); (try clear hk); (try clear hi)) | ((with_reducible refine gate_callee (f := 16) rfl ?_); refine goesL_ (some 26) rfl rfl Try.func16 (by kernel_rfl) rfl #[.slice A0 l0.length c0] rfl (by (try simp only [List.map_toArray, List.map_cons, List.map_nil]); first | done | rfl | (simp only [List.length_drop, List.length_take]; rfl)) ?_; (with_reducible refine (laws_toInt64S.calls k _ _ l0 t934 _ ?side1 ?side2 A8.out).mono ?_); (case side1 => repeat (first | exact (Kd.C_below HR0.out HB.out) | (with_reducible refine Kd.C_alloc ?_ _) | (with_reducible refine Kd.C_drewN ?_ _) | (with_reducible refine Kd.C_drew ?_))); (case side2 => exact HC0.out); rintro e w17 ⟨v935, rfl, ho0, hb⟩; refine ⟨_, rfl, ?_⟩; have n0_ := Aside0.mk (Kd.R_elder' (by (with_reducible repeat (first | apply Kd.R_alloc | apply Kd.R_drewN | apply Kd.R_drew)); exact HO928.out) (Kd.R_base ho0) hb); have n1_ := Aside0.mk (Kd.R_elder' (by (with_reducible repeat (first | apply Kd.R_alloc | apply Kd.R_drewN | apply Kd.R_drew)); exact HO931.out) (Kd.R_base ho0) hb); have n2_ := Aside0.mk (Kd.R_lower (Kd.R_new' (Kd.R_new' ho0 (Kd.R_lt (by (with_reducible repeat (first | apply Kd.R_alloc | apply Kd.R_drewN | apply Kd.R_drew)); exact HO928.out))) (Kd.R_lt (by (with_reducible repeat (first | apply Kd.R_alloc | apply Kd.R_drewN | apply Kd.R_drew)); exact HO931.out))) (below_size (by repeat (first | (with_reducible first | exact HB.out | apply below_alloc | apply pw_below_drewN | apply below_drew1) | exact HB.out)))); have n3_ := Aside0.mk (below_step (by repeat (first | (with_reducible first | exact HB.out | apply below_alloc | apply pw_below_drewN | apply below_drew1) | exact HB.out)) hb); clear HO928; clear HO931; clear HB; have HO928 := n0_; have HO931 := n1_; have HO936 := n2_; have HB := n3_; clear n0_ n1_ n2_ n3_; (try clear hb); (try clear hb2); (try clear hk); (try clear hi); (try clear ho0)) | ((with_reducible refine gate_callee (f := 16) rfl ?_); refine goesL_ (some 28) rfl rfl Try.func16 (by kernel_rfl) rfl #[.slice A1 l1.length c1] rfl (by (try simp only [List.map_toArray, List.map_cons, List.map_nil]); first | done | rfl | (simp only [List.length_drop, List.length_take]; rfl)) ?_; (with_reducible refine (laws_toInt64S.calls k _ _ l1 t937 _ ?side1 ?side2 A9.out).mono ?_); (case side1 => repeat (first | exact (Kd.C_below HR1.out HB.out) | (with_reducible refine Kd.C_alloc ?_ _) | (with_reducible refine Kd.C_drewN ?_ _) | (with_reducible refine Kd.C_drew ?_))); (case side2 => exact HC1.out); rintro e w18 ⟨v938, rfl, ho0, hb⟩; refine ⟨_, rfl, ?_⟩; have n0_ := Aside0.mk (Kd.R_elder' (by (with_reducible repeat (first | apply Kd.R_alloc | apply Kd.R_drewN | apply Kd.R_drew)); exact HO928.out) (Kd.R_base ho0) hb); have n1_ := Aside0.mk (Kd.R_elder' (by (with_reducible repeat (first | apply Kd.R_alloc | apply Kd.R_drewN | apply Kd.R_drew)); exact HO931.out) (Kd.R_base ho0) hb); have n2_ := Aside0.mk (Kd.R_elder' (by (with_reducible repeat (first | apply Kd.R_alloc | apply Kd.R_drewN | apply Kd.R_drew)); exact HO936.out) (Kd.R_base ho0) hb); have n3_ := Aside0.mk (Kd.R_lower (Kd.R_new' (Kd.R_new' (Kd.R_new' ho0 (Kd.R_lt (by (with_reducible repeat (first | apply Kd.R_alloc | apply Kd.R_drewN | apply Kd.R_drew)); exact HO928.out))) (Kd.R_lt (by (with_reducible repeat (first | apply Kd.R_alloc | apply Kd.R_drewN | apply Kd.R_drew)); exact HO931.out))) (Kd.R_lt (by (with_reducible repeat (first | apply Kd.R_alloc | apply Kd.R_drewN | apply Kd.R_drew)); exact HO936.out))) (below_size (by repeat (first | (with_reducible first | exact HB.out | apply below_alloc | apply pw_below_drewN | apply below_drew1) | exact HB.out)))); have n4_ := Aside0.mk (below_step (by repeat (first | (with_reducible first | exact HB.out | apply below_alloc | apply pw_below_drewN | apply below_drew1) | exact HB.out)) hb); clear HO928; clear HO931; clear HO936; clear HB; have HO928 := n0_; have HO931 := n1_; have HO936 := n2_; have HO939 := n3_; have HB := n4_; clear n0_ n1_ n2_ n3_ n4_; (try clear hb); (try clear hb2); (try clear hk); (try clear hi); (try clear ho0); obtain ⟨Ao19, co19, eo19⟩ := Kd.R_slice HO936.out; subst eo19; obtain ⟨Ao20, co20, eo20⟩ := Kd.R_slice HO939.out; subst eo20) | ((with_reducible refine gate_callee (f := 38) rfl ?_); refine goesL_ (some 32) rfl rfl Try.func38 (by kernel_rfl) rfl #[.slice Ao19 t934.length co19, .slice Ao20 t937.length co20] rfl (by (try simp only [List.map_toArray, List.map_cons, List.map_nil]); first | done | rfl | (simp only [List.length_drop, List.length_take]; rfl)) ?_; (with_reducible refine (impl_WarpDistance.calls k _ _ t934 _ _ t937 t940 t941 _ ?side1 ?side2 ?side3 ?side4 A10.out).mono ?_); (case side1 => repeat (first | exact (Kd.R_reads' HO936.out).2.2 | (with_reducible refine Kd.C_alloc ?_ _) | (with_reducible refine Kd.C_drewN ?_ _) | (with_reducible refine Kd.C_drew ?_))); (case side2 => exact (Kd.R_reads' HO936.out).2.1); (case side3 => repeat (first | exact (Kd.R_reads' HO939.out).2.2 | (with_reducible refine Kd.C_alloc ?_ _) | (with_reducible refine Kd.C_drewN ?_ _) | (with_reducible refine Kd.C_drew ?_))); (case side4 => exact (Kd.R_reads' HO939.out).2.1); rintro e w21 ⟨rfl, hb⟩; refine ⟨_, rfl, ?_⟩; have n0_ := Aside0.mk (Kd.R_below (by (with_reducible repeat (first | apply Kd.R_alloc | apply Kd.R_drewN | apply Kd.R_drew)); exact HO928.out) hb); have n1_ := Aside0.mk (Kd.R_below (by (with_reducible repeat (first | apply Kd.R_alloc | apply Kd.R_drewN | apply Kd.R_drew)); exact HO931.out) hb); have n2_ := Aside0.mk (Kd.R_below (by (with_reducible repeat (first | apply Kd.R_alloc | apply Kd.R_drewN | apply Kd.R_drew)); exact HO936.out) hb); have n3_ := Aside0.mk (Kd.R_below (by (with_reducible repeat (first | apply Kd.R_alloc | apply Kd.R_drewN | apply Kd.R_drew)); exact HO939.out) hb); have n4_ := Aside0.mk (below_step (by repeat (first | (with_reducible first | exact HB.out | apply below_alloc | apply pw_below_drewN | apply below_drew1) | exact HB.out)) hb); clear HO928; clear HO931; clear HO936; clear HO939; clear HB; have HO928 := n0_; have HO931 := n1_; have HO936 := n2_; have HO939 := n3_; have HB := n4_; clear n0_ n1_ n2_ n3_ n4_; (try clear hb); (try clear hb2); (try clear hk); (try clear hi)))
      (try simp only [Act.put, List.setIfInBounds_toArray, List.set_cons_zero, List.set_cons_succ])
      go_cut [42] (fun v42 wc => ∃ (kq : Nat) (x42_10 : Bool), v42 = .bool x42_10 ∧ Aside0 (laws_FnExactWarpDistance.j0 kq l0 l1 t934 t937 x42_10 = some r) ∧ Aside0 (kq ≤ k) ∧ Aside0 (Kd.R (Kd.int .i64) 2 wc w.heap.size (fun k_ => some k_ ≠ ((.slice Ao20 t937.length co20) : Value).ownBlock) (.slice Ao19 t934.length co19) t934) ∧ Aside0 (Kd.R (Kd.int .i64) 2 wc w.heap.size (fun k_ => some k_ ≠ ((.slice Ao19 t934.length co19) : Value).ownBlock) (.slice Ao20 t937.length co20) t937) ∧ Aside0 (Below w.heap.size w wc))
      case first =>
        have H := HC11.out
        clear HC11
        by_cases c22 : t940 = t932
        · rw [if_pos c22] at H
          have c22b0 : (t940 == t932) = true := beq_iff_eq.mpr c22
          have c22b1 : (t940 != t932) = false := bne_eq_false_iff_eq.mpr c22
          clear c22
          (first | rw [c22b0] | (simp only [i64_w, i32_w]; rw [c22b0]) | skip)
          have H' := Aside0.mk H
          clear H
          go_wp2
          go_meet
          case rel => exact ⟨_, ((t941 != t933)), (by first | rfl | (simp; done) | (simp [*]; done)), H', ⟨by first | omega | exact Nat.le_refl _⟩, ⟨by (with_reducible repeat (first | apply Kd.R_alloc | apply Kd.R_drewN | apply Kd.R_drew)); exact Kd.R_mono HO936.out (fun _ hk => hk.2)⟩, ⟨by (with_reducible repeat (first | apply Kd.R_alloc | apply Kd.R_drewN | apply Kd.R_drew)); exact Kd.R_mono HO939.out (fun _ hk => hk.2)⟩, ⟨by repeat (first | (with_reducible first | exact HB.out | apply below_alloc | apply pw_below_drewN | apply below_drew1) | exact HB.out)⟩⟩
        · rw [if_neg c22] at H
          have c22b0 : (t940 == t932) = false := beq_eq_false_iff_ne.mpr c22
          have c22b1 : (t940 != t932) = true := bne_iff_ne.mpr c22
          (first | rw [c22b0] | (simp only [i64_w, i32_w]; rw [c22b0]) | skip)
          have H' := Aside0.mk H
          clear H
          go_wp2
          go_meet
          case rel => exact ⟨_, (true), (by first | rfl | (simp; done) | (simp [*]; done)), H', ⟨by first | omega | exact Nat.le_refl _⟩, ⟨by (with_reducible repeat (first | apply Kd.R_alloc | apply Kd.R_drewN | apply Kd.R_drew)); exact Kd.R_mono HO936.out (fun _ hk => hk.2)⟩, ⟨by (with_reducible repeat (first | apply Kd.R_alloc | apply Kd.R_drewN | apply Kd.R_drew)); exact Kd.R_mono HO939.out (fun _ hk => hk.2)⟩, ⟨by repeat (first | (with_reducible first | exact HB.out | apply below_alloc | apply pw_below_drewN | apply below_drew1) | exact HB.out)⟩⟩
      case rest =>
        clear HC11
        try clear c1
        try clear c2
        try clear p2
        try clear c3
        try clear c3b0
        try clear c3b1
        try clear c4
        try clear c4b0
        try clear c4b1
        try clear c12
        try clear c16
        try clear c22
        try clear c22b0
        try clear c22b1
        obtain ⟨kq, x42_10, rfl, HA, HJ10, HO_7, HO_8, HB⟩ := hcut
        cases kq with
        | zero => exact absurd HA.out (by simp [laws_FnExactWarpDistance.j0])
        | succ kj10 =>
          have H := HA.out
          clear HA
          simp only [laws_FnExactWarpDistance.j0] at H
          by_cases c23 : x42_10 = true
          · subst c23
            have H1 : (some false) = some r := by rw [if_pos rfl] at H; exact H
            clear H
            have H := H1
            clear H1
            exact absurd ((Option.some.inj H).trans HT.out) (by decide)
          · replace c23 := Bool.eq_false_iff.mpr c23
            subst c23
            have H1 : ((laws_toInt64S.f kj10 l0).bind fun t942 => ((laws_eqInt64S.f kj10 t934 t942).bind fun t945 => (if t945 = true then ((laws_toInt64S.f kj10 l1).bind fun t946 => ((laws_eqInt64S.f kj10 t937 t946).bind fun t949 => (if t949 = true then (some true) else (some false)))) else (some false)))) = some r := by rw [if_neg (show ¬ (false = true) by decide)] at H; exact H
            clear H
            have H := H1
            clear H1
            replace H := Option.bind_eq_some_iff.mp H
            obtain ⟨t942, A240, H⟩ := H
            replace H : ((laws_eqInt64S.f kj10 t934 t942).bind fun t945 => (if t945 = true then ((laws_toInt64S.f kj10 l1).bind fun t946 => ((laws_eqInt64S.f kj10 t937 t946).bind fun t949 => (if t949 = true then (some true) else (some false)))) else (some false))) = some r := H
            have A24 := Aside0.mk A240
            clear A240
            replace H := Option.bind_eq_some_iff.mp H
            obtain ⟨t945, A250, H⟩ := H
            replace H : (if t945 = true then ((laws_toInt64S.f kj10 l1).bind fun t946 => ((laws_eqInt64S.f kj10 t937 t946).bind fun t949 => (if t949 = true then (some true) else (some false)))) else (some false)) = some r := H
            have A25 := Aside0.mk A250
            clear A250
            by_cases c26 : t945 = true
            · subst c26
              have H1 : ((laws_toInt64S.f kj10 l1).bind fun t946 => ((laws_eqInt64S.f kj10 t937 t946).bind fun t949 => (if t949 = true then (some true) else (some false)))) = some r := by rw [if_pos rfl] at H; exact H
              clear H
              have H := H1
              clear H1
              replace H := Option.bind_eq_some_iff.mp H
              obtain ⟨t946, A270, H⟩ := H
              replace H : ((laws_eqInt64S.f kj10 t937 t946).bind fun t949 => (if t949 = true then (some true) else (some false))) = some r := H
              have A27 := Aside0.mk A270
              clear A270
              replace H := Option.bind_eq_some_iff.mp H
              obtain ⟨t949, A280, H⟩ := H
              replace H : (if t949 = true then (some true) else (some false)) = some r := H
              have A28 := Aside0.mk A280
              clear A280
              by_cases c29 : t949 = true
              · subst c29
                have H1 : (some true) = some r := by rw [if_pos rfl] at H; exact H
                clear H
                have H := H1
                clear H1
                obtain rfl := Option.some.inj H
                go_wp2_with (first | ((with_reducible refine gate_callee (f := 16) rfl ?_); refine goesL_ (some 45) rfl rfl Try.func16 (by kernel_rfl) rfl #[.slice A0 l0.length c0] rfl (by (try simp only [List.map_toArray, List.map_cons, List.map_nil]); first | done | rfl | (simp only [List.length_drop, List.length_take]; rfl)) ?_; (with_reducible refine (laws_toInt64S.calls kj10 _ _ l0 t942 _ ?side1 ?side2 A24.out).mono ?_); (case side1 => repeat (first | exact (Kd.C_below HR0.out HB.out) | (with_reducible refine Kd.C_alloc ?_ _) | (with_reducible refine Kd.C_drewN ?_ _) | (with_reducible refine Kd.C_drew ?_))); (case side2 => exact HC0.out); rintro e w30 ⟨v943, rfl, ho0, hb⟩; refine ⟨_, rfl, ?_⟩; have n0_ := Aside0.mk (Kd.R_elder' (by (with_reducible repeat (first | apply Kd.R_alloc | apply Kd.R_drewN | apply Kd.R_drew)); exact HO_7.out) (Kd.R_base ho0) hb); have n1_ := Aside0.mk (Kd.R_elder' (by (with_reducible repeat (first | apply Kd.R_alloc | apply Kd.R_drewN | apply Kd.R_drew)); exact HO_8.out) (Kd.R_base ho0) hb); have n2_ := Aside0.mk (Kd.R_lower (Kd.R_new' (Kd.R_new' ho0 (Kd.R_lt (by (with_reducible repeat (first | apply Kd.R_alloc | apply Kd.R_drewN | apply Kd.R_drew)); exact HO_7.out))) (Kd.R_lt (by (with_reducible repeat (first | apply Kd.R_alloc | apply Kd.R_drewN | apply Kd.R_drew)); exact HO_8.out))) (below_size (by repeat (first | (with_reducible first | exact HB.out | apply below_alloc | apply pw_below_drewN | apply below_drew1) | exact HB.out)))); have n3_ := Aside0.mk (below_step (by repeat (first | (with_reducible first | exact HB.out | apply below_alloc | apply pw_below_drewN | apply below_drew1) | exact HB.out)) hb); clear HO_7; clear HO_8; clear HB; have HO_7 := n0_; have HO_8 := n1_; have HO944 := n2_; have HB := n3_; clear n0_ n1_ n2_ n3_; (try clear hb); (try clear hb2); (try clear hk); (try clear hi); (try clear ho0); obtain ⟨Ao31, co31, eo31⟩ := Kd.R_slice HO944.out; subst eo31) | ((with_reducible refine gate_callee (f := 18) rfl ?_); refine goesL_ (some 46) rfl rfl Try.func18 (by kernel_rfl) rfl #[.slice Ao19 t934.length co19, .slice Ao31 t942.length co31] rfl (by (try simp only [List.map_toArray, List.map_cons, List.map_nil]); first | done | rfl | (simp only [List.length_drop, List.length_take]; rfl)) ?_; (with_reducible refine (laws_eqInt64S.calls kj10 _ _ t934 _ _ t942 true _ ?side1 ?side2 ?side3 ?side4 A25.out).mono ?_); (case side1 => repeat (first | exact (Kd.R_reads' HO_7.out).2.2 | (with_reducible refine Kd.C_alloc ?_ _) | (with_reducible refine Kd.C_drewN ?_ _) | (with_reducible refine Kd.C_drew ?_))); (case side2 => exact (Kd.R_reads' HO_7.out).2.1); (case side3 => repeat (first | exact (Kd.R_reads' HO944.out).2.2 | (with_reducible refine Kd.C_alloc ?_ _) | (with_reducible refine Kd.C_drewN ?_ _) | (with_reducible refine Kd.C_drew ?_))); (case side4 => exact (Kd.R_reads' HO944.out).2.1); rintro e w' ⟨rfl, ⟨nd, rfl⟩⟩; refine ⟨_, rfl, ?_⟩) | ((with_reducible refine gate_callee (f := 16) rfl ?_); refine goesL_ (some 50) rfl rfl Try.func16 (by kernel_rfl) rfl #[.slice A1 l1.length c1] rfl (by (try simp only [List.map_toArray, List.map_cons, List.map_nil]); first | done | rfl | (simp only [List.length_drop, List.length_take]; rfl)) ?_; (with_reducible refine (laws_toInt64S.calls kj10 _ _ l1 t946 _ ?side1 ?side2 A27.out).mono ?_); (case side1 => repeat (first | exact (Kd.C_below HR1.out (by repeat (first | (with_reducible first | exact HB.out | apply below_alloc | apply pw_below_drewN | apply below_drew1) | exact HB.out))) | (with_reducible refine Kd.C_alloc ?_ _) | (with_reducible refine Kd.C_drewN ?_ _) | (with_reducible refine Kd.C_drew ?_))); (case side2 => exact HC1.out); rintro e w32 ⟨v947, rfl, ho0, hb⟩; refine ⟨_, rfl, ?_⟩; have n0_ := Aside0.mk (Kd.R_elder' (by (with_reducible repeat (first | apply Kd.R_alloc | apply Kd.R_drewN | apply Kd.R_drew)); exact HO_7.out) (Kd.R_base ho0) hb); have n1_ := Aside0.mk (Kd.R_elder' (by (with_reducible repeat (first | apply Kd.R_alloc | apply Kd.R_drewN | apply Kd.R_drew)); exact HO_8.out) (Kd.R_base ho0) hb); have n2_ := Aside0.mk (Kd.R_elder' (by (with_reducible repeat (first | apply Kd.R_alloc | apply Kd.R_drewN | apply Kd.R_drew)); exact HO944.out) (Kd.R_base ho0) hb); have n3_ := Aside0.mk (Kd.R_lower (Kd.R_new' (Kd.R_new' (Kd.R_new' ho0 (Kd.R_lt (by (with_reducible repeat (first | apply Kd.R_alloc | apply Kd.R_drewN | apply Kd.R_drew)); exact HO_7.out))) (Kd.R_lt (by (with_reducible repeat (first | apply Kd.R_alloc | apply Kd.R_drewN | apply Kd.R_drew)); exact HO_8.out))) (Kd.R_lt (by (with_reducible repeat (first | apply Kd.R_alloc | apply Kd.R_drewN | apply Kd.R_drew)); exact HO944.out))) (below_size (by repeat (first | (with_reducible first | exact HB.out | apply below_alloc | apply pw_below_drewN | apply below_drew1) | exact HB.out)))); have n4_ := Aside0.mk (below_step (by repeat (first | (with_reducible first | exact HB.out | apply below_alloc | apply pw_below_drewN | apply below_drew1) | exact HB.out)) hb); clear HO_7; clear HO_8; clear HO944; clear HB; have HO_7 := n0_; have HO_8 := n1_; have HO944 := n2_; have HO948 := n3_; have HB := n4_; clear n0_ n1_ n2_ n3_ n4_; (try clear hb); (try clear hb2); (try clear hk); (try clear hi); (try clear ho0); obtain ⟨Ao33, co33, eo33⟩ := Kd.R_slice HO948.out; subst eo33) | ((with_reducible refine gate_callee (f := 18) rfl ?_); refine goesL_ (some 51) rfl rfl Try.func18 (by kernel_rfl) rfl #[.slice Ao20 t937.length co20, .slice Ao33 t946.length co33] rfl (by (try simp only [List.map_toArray, List.map_cons, List.map_nil]); first | done | rfl | (simp only [List.length_drop, List.length_take]; rfl)) ?_; (with_reducible refine (laws_eqInt64S.calls kj10 _ _ t937 _ _ t946 true _ ?side1 ?side2 ?side3 ?side4 A28.out).mono ?_); (case side1 => repeat (first | exact (Kd.R_reads' HO_8.out).2.2 | (with_reducible refine Kd.C_alloc ?_ _) | (with_reducible refine Kd.C_drewN ?_ _) | (with_reducible refine Kd.C_drew ?_))); (case side2 => exact (Kd.R_reads' HO_8.out).2.1); (case side3 => repeat (first | exact (Kd.R_reads' HO948.out).2.2 | (with_reducible refine Kd.C_alloc ?_ _) | (with_reducible refine Kd.C_drewN ?_ _) | (with_reducible refine Kd.C_drew ?_))); (case side4 => exact (Kd.R_reads' HO948.out).2.1); rintro e w' ⟨rfl, ⟨nd, rfl⟩⟩; refine ⟨_, rfl, ?_⟩))
                go_ret
                exact ⟨by first | rfl | (simp [errW_none, errW_some] <;> rfl) | (simp [*, errW_none, errW_some] <;> rfl), by repeat (first | (with_reducible first | exact HB.out | apply below_alloc | apply pw_below_drewN | apply below_drew1) | exact HB.out)⟩
              · replace c29 := Bool.eq_false_iff.mpr c29
                subst c29
                have H1 : (some false) = some r := by rw [if_neg (show ¬ (false = true) by decide)] at H; exact H
                clear H
                have H := H1
                clear H1
                exact absurd ((Option.some.inj H).trans HT.out) (by decide)
            · replace c26 := Bool.eq_false_iff.mpr c26
              subst c26
              have H1 : (some false) = some r := by rw [if_neg (show ¬ (false = true) by decide)] at H; exact H
              clear H
              have H := H1
              clear H1
              exact absurd ((Option.some.inj H).trans HT.out) (by decide)

/-- THE ONE PURE STATEMENT of laws_FnExactWarpDistance. -/
def laws_FnExactWarpDistance.Pure : Prop := ∀ (l0 : List Int) (l1 : List Int), (l0.length ≤ maxLen ∧ ∀ y0 ∈ l0, (Lit.int .i64 y0).wf = true) → (l1.length ≤ maxLen ∧ ∀ y0 ∈ l1, (Lit.int .i64 y0).wf = true) → ∃ k, laws_FnExactWarpDistance.f k l0 l1 = some true
theorem laws_FnExactWarpDistance.walk (P : laws_FnExactWarpDistance.Pure) (A0 : Option Addr) (c0 : Nat) (l0 : List Int) (A1 : Option Addr) (c1 : Nat) (l1 : List Int) (w : World) (hr0 : Kd.C (Kd.int .i64) w A0 l0.length l0) (hc0 : l0.length ≤ c0) (hr1 : Kd.C (Kd.int .i64) w A1 l1.length l1) (hc1 : l1.length ≤ c1) (w0 : (l0.length ≤ maxLen ∧ ∀ y0 ∈ l0, (Lit.int .i64 y0).wf = true)) (w1 : (l1.length ≤ maxLen ∧ ∀ y0 ∈ l1, (Lit.int .i64 y0).wf = true)) :
    Calls Try.prog 12 #[.slice A0 l0.length c0, .slice A1 l1.length c1] w fun e w' => e = .returned (.bool true) ∧ Below w.heap.size w w' := by
  obtain ⟨k, h⟩ := P l0 l1 w0 w1
  refine (laws_FnExactWarpDistance.calls k _ _ l0 _ _ l1 true w hr0 hc0 hr1 hc1 rfl h).mono ?_
  rintro e w' ⟨rfl, hd⟩
  exact ⟨rfl, hd⟩

end Go.Proofs.Ytddhommmokdlnaa.P
end

section
namespace Go.Proofs.Ytddhommmokdlnaa.Pure
open Go.RowKit Go.Proofs.Ytddhommmokdlnaa.P Go.Proofs.YtddhommmokdlnaaW.PrintWords Go.Proofs.YtddhommmokdlnaaW.PrintLast Go.Proofs.YtddhommmokdlnaaW.PrintMore
set_option linter.unusedVariables false
set_option linter.unusedSimpArgs false

def wbase (last row : List Int) (i k : Nat) : Int :=
  if 0 < i then (if 0 < k then min (min (rd last k) (rd row ((k : Int) - 1))) (rd last ((k : Int) - 1)) else rd last k) else (if 0 < k then rd row ((k : Int) - 1) else 0)
def wcell (a b last row : List Int) (i k : Nat) : Int := wbase last row i k + max (rd a i - rd b k) (-(rd a i - rd b k))
def wrow (a b last : List Int) (i : Nat) : Nat → List Int
  | 0 => []
  | k + 1 => wrow a b last i k ++ [wcell a b last (wrow a b last i k) i k]
def wlast (a b : List Int) : Nat → List Int
  | 0 => []
  | i + 1 => wrow a b (wlast a b i) i b.length
theorem wrow_len (a b last : List Int) (i : Nat) : ∀ k, (wrow a b last i k).length = k
  | 0 => rfl
  | k + 1 => by simp [wrow, wrow_len a b last i k]
def wgood (i : Nat) (l : List Int) (m : Nat) : Prop := ∀ q : Int, 0 ≤ q → q < m → 0 ≤ rd l q ∧ rd l q ≤ 100 * ((i : Int) + q + 1)
theorem rd_app_lt {l r : List Int} {q : Int} (h0 : 0 ≤ q) (h : q < l.length) : rd (l ++ r) q = rd l q := by
  obtain ⟨n, rfl⟩ := Int.eq_ofNat_of_zero_le h0
  have : n < l.length := by omega
  simp [rd, List.getElem?_append_left this]
theorem rd_app_eq (l : List Int) (v : Int) : rd (l ++ [v]) (l.length : Int) = v := by simp [rd]
theorem wcell_bound (a b last : List Int) (ha : pitchesB a = true) (hb : pitchesB b = true) (i k : Nat) (hi : i < a.length) (hk : k < b.length) (row : List Int) (hl : 0 < i → ∀ q : Int, 0 ≤ q → q < b.length → 0 ≤ rd last q ∧ rd last q ≤ 100 * ((i : Int) + q)) (hr : wgood i row k) : 0 ≤ wbase last row i k ∧ wbase last row i k ≤ 100 * ((i : Int) + k) ∧ 0 ≤ wcell a b last row i k ∧ wcell a b last row i k ≤ 100 * ((i : Int) + k + 1) := by
  have p1 := pitchesB_rd ha (i := i) (by omega) (by omega)
  have p2 := pitchesB_rd hb (i := k) (by omega) (by omega)
  have h : 0 ≤ wbase last row i k ∧ wbase last row i k ≤ 100 * ((i : Int) + k) := by
    unfold wbase
    by_cases hi' : 0 < i
    · rw [if_pos hi']
      have q1 := hl hi' k (by omega) (by omega)
      by_cases hk' : 0 < k
      · rw [if_pos hk']
        have q2 := hl hi' ((k : Int) - 1) (by omega) (by omega)
        have q3 := hr ((k : Int) - 1) (by omega) (by omega)
        omega
      · rw [if_neg hk']
        omega
    · rw [if_neg hi']
      by_cases hk' : 0 < k
      · rw [if_pos hk']
        have q3 := hr ((k : Int) - 1) (by omega) (by omega)
        omega
      · rw [if_neg hk']
        omega
  refine ⟨h.1, h.2, ?_⟩
  unfold wcell
  omega
theorem wrow_good (a b last : List Int) (ha : pitchesB a = true) (hb : pitchesB b = true) (i : Nat) (hi : i < a.length) (hl : 0 < i → ∀ q : Int, 0 ≤ q → q < b.length → 0 ≤ rd last q ∧ rd last q ≤ 100 * ((i : Int) + q)) : ∀ k, k ≤ b.length → wgood i (wrow a b last i k) k
  | 0, _ => fun q h0 h1 => absurd h1 (by omega)
  | k + 1, hk => by
    have ih := wrow_good a b last ha hb i hi hl k (by omega)
    have hc := wcell_bound a b last ha hb i k hi (by omega) _ hl ih
    intro q h0 h1
    rw [wrow]
    by_cases e : q < k
    · rw [rd_app_lt h0 (by rw [wrow_len]; exact e)]
      exact ih q h0 e
    · have e2 : q = ((wrow a b last i k).length : Int) := by rw [wrow_len]; omega
      have e3 : q = k := by omega
      rw [e2, rd_app_eq, wrow_len]
      exact hc.2.2
theorem wlast_good (a b : List Int) (ha : pitchesB a = true) (hb : pitchesB b = true) : ∀ i, i ≤ a.length → 0 < i → ∀ q : Int, 0 ≤ q → q < b.length → 0 ≤ rd (wlast a b i) q ∧ rd (wlast a b i) q ≤ 100 * ((i : Int) + q)
  | 0, _, h => absurd h (by omega)
  | i + 1, hi, _ => by
    intro q h0 h1
    have := wrow_good a b (wlast a b i) ha hb i (by omega) (fun z => wlast_good a b ha hb i (by omega) z) b.length (Nat.le_refl _) q h0 h1
    rw [wlast]
    omega
theorem wlast_len (a b : List Int) : ∀ i, 0 < i → (wlast a b i).length = b.length
  | 0, h => absurd h (by omega)
  | i + 1, _ => by rw [wlast, wrow_len]
theorem spec_Warp_l1 (a b : List Int) (ha : pitchesB a = true) (hb : pitchesB b = true) (i : Nat) (hi : i < a.length) (r : Int × Int) (h : Ev (fun k => spec_WarpDistance.l0 k a b (wlast a b (i + 1)) ((i : Int) + 1)) r) : ∀ (d k : Nat), b.length - k = d → k ≤ b.length → Ev (fun f => spec_WarpDistance.l1 f a b (wlast a b i) i (wrow a b (wlast a b i) i k) k) r := by
  have la := pitchesB_len ha
  have lb := pitchesB_len hb
  have hl := wlast_good a b ha hb i (by omega)
  intro d
  induction d with
  | zero =>
    intro k hd hk
    have : k = b.length := by omega
    subst this
    refine Ev.succ ?_
    simp only [spec_WarpDistance.l1]
    refine Ev.ite_neg (by omega) ?_
    rw [w64 (by omega) (by omega)]
    exact h
  | succ d ih =>
    intro k hd hk
    have hk' : k < b.length := by omega
    have f1 : (0 : Int) ≤ (i : Int) := by omega
    have f2 : (i : Int) < (a.length : Int) := by omega
    have f3 : (0 : Int) ≤ (k : Int) := by omega
    have f4 : (k : Int) < (b.length : Int) := by omega
    have f5 : k ≤ 64 := by omega
    have f6 : 0 < i → (i : Int) > 0 := by omega
    have f7 : ¬ 0 < i → ¬ (i : Int) > 0 := by omega
    have f8 : 0 < k → (k : Int) > 0 := by omega
    have f9 : ¬ 0 < k → ¬ (k : Int) > 0 := by omega
    have fa : 0 < k → (0 : Int) ≤ (k : Int) - 1 := by omega
    have fb : 0 < k → (k : Int) - 1 < (k : Int) := by omega
    have fc : 0 < k → (k : Int) - 1 < (b.length : Int) := by omega
    have fd : 0 < i → (0 : Int) ≤ (i : Int) - 1 := by omega
    have fe : (i : Int) - 1 < (a.length : Int) := by omega
    have e1 : wrap64 ((k : Int) - 1) = (k : Int) - 1 := w64 (by omega) (by omega)
    have e2 : wrap64 ((k : Int) + 1) = (k : Int) + 1 := w64 (by omega) (by omega)
    have e4 : wrap64 ((i : Int) - 1) = (i : Int) - 1 := w64 (by omega) (by omega)
    have hg := wrow_good a b (wlast a b i) ha hb i hi hl k hk
    have hc := wcell_bound a b (wlast a b i) ha hb i k hi hk' _ hl hg
    have p1 := pitchesB_rd ha (i := i) (by omega) (by omega)
    have p2 := pitchesB_rd hb (i := k) (by omega) (by omega)
    have ff : -9223372036854775807 ≤ rd a i - rd b k := by clear hc hg; omega
    have fg : rd a i - rd b k ≤ 9223372036854775807 := by clear hc hg; omega
    have e3 : wrap64 (rd a i - rd b k) = rd a i - rd b k := w64 (by omega) fg
    have rl := wrow_len a b (wlast a b i) i k
    have ih' := ih (k + 1) (by omega) (by omega)
    rw [wrow] at ih'
    generalize hR : wrow a b (wlast a b i) i k = row at *
    have rl2 : row.length < 17592186044416 := by rw [rl]; exact Nat.lt_of_le_of_lt f5 (by decide)
    have ih2 : Ev (fun f => spec_WarpDistance.l1 f a b (wlast a b i) i (row ++ [wrap64 (wbase (wlast a b i) row i k + max (rd a i - rd b k) (-(rd a i - rd b k)))]) ((k : Int) + 1)) r := by
      rw [w64 (by unfold wcell at hc; omega) (by unfold wcell at hc; omega)]
      exact ih'
    have j7 : ∀ c x, (x = true → 0 < i ∧ 0 < k ∧ max 0 (min c (rd (wlast a b i) ((k : Int) - 1))) = wbase (wlast a b i) row i k) → (x = false → max 0 c = wbase (wlast a b i) row i k) → Ev (fun f => spec_WarpDistance.j7 f a b (wlast a b i) i row k c x) r := by
      intro c x hx hy
      refine Ev.succ ?_
      simp only [spec_WarpDistance.j7, e1, e2, e3]
      cases x with
      | true =>
        obtain ⟨i0, k0, hm⟩ := hx rfl
        have ll := wlast_len a b i i0
        rw [← hm] at ih2
        exact Ev.ite_pos rfl (Ev.ite_pos (fa k0) (Ev.ite_pos (by rw [ll]; exact fc k0) (Ev.bindc (spec_l00Min_eq _ _) (Ev.bindc (spec_l00Max_eq _ _) (Ev.ite_pos f1 (Ev.ite_pos f2 (Ev.ite_pos f3 (Ev.ite_pos f4 (Ev.bindc (spec_l04Abs_eq _ ff fg) (Ev.ite_pos rl2 ih2))))))))))
      | false =>
        have hm := hy rfl
        rw [← hm] at ih2
        exact Ev.ite_neg (by decide) (Ev.bindc (spec_l00Max_eq _ _) (Ev.ite_pos f1 (Ev.ite_pos f2 (Ev.ite_pos f3 (Ev.ite_pos f4 (Ev.bindc (spec_l04Abs_eq _ ff fg) (Ev.ite_pos rl2 ih2)))))))
    have j6 : ∀ c, (0 < i → 0 < k → max 0 (min c (rd (wlast a b i) ((k : Int) - 1))) = wbase (wlast a b i) row i k) → (¬ (0 < i ∧ 0 < k) → max 0 c = wbase (wlast a b i) row i k) → Ev (fun f => spec_WarpDistance.j6 f a b (wlast a b i) i row k c) r := by
      intro c hx hy
      refine Ev.succ ?_
      simp only [spec_WarpDistance.j6]
      by_cases i0 : 0 < i
      · refine Ev.ite_pos (f6 i0) (j7 c _ ?_ ?_)
        · intro z
          have z' : (k : Int) > 0 := of_decide_eq_true z
          have k0 : 0 < k := by clear hc hg; omega
          exact ⟨i0, k0, hx i0 k0⟩
        · intro z
          have z' : ¬ (k : Int) > 0 := of_decide_eq_false z
          exact hy (fun z => z' (f8 z.2))
      · exact Ev.ite_neg (f7 i0) (j7 c _ (fun z => by simp at z) (fun _ => hy (fun z => i0 z.1)))
    have j4 : ∀ c, (0 < i → c = rd (wlast a b i) k) → (¬ 0 < i → c = -1) → Ev (fun f => spec_WarpDistance.j4 f a b (wlast a b i) i row k c) r := by
      intro c hx hy
      refine Ev.succ ?_
      simp only [spec_WarpDistance.j4, e1]
      by_cases k0 : 0 < k
      · have g1 := hg ((k : Int) - 1) (by omega) (by omega)
        refine Ev.ite_pos (by omega) ?_
        by_cases i0 : 0 < i
        · have q1 := hl i0 k (by omega) (by omega)
          have q2 := hl i0 ((k : Int) - 1) (by omega) (by omega)
          have hx' := hx i0
          refine Ev.ite_neg (by omega) (Ev.ite_pos (by omega) (Ev.ite_pos (by omega) (Ev.succ ?_)))
          simp only [spec_WarpDistance.j5, e1]
          by_cases lt : rd row ((k : Int) - 1) < c
          · refine Ev.ite_pos (decide_eq_true lt) (Ev.ite_pos (by omega) (Ev.ite_pos (by omega) (j6 _ ?_ ?_)))
            · intro _ _
              unfold wbase
              rw [if_pos i0, if_pos k0]
              omega
            · intro z
              exact absurd ⟨i0, k0⟩ z
          · refine Ev.ite_neg (by simpa using lt) (j6 _ ?_ ?_)
            · intro _ _
              unfold wbase
              rw [if_pos i0, if_pos k0]
              omega
            · intro z
              exact absurd ⟨i0, k0⟩ z
        · have hy' := hy i0
          refine Ev.ite_pos (by omega) (Ev.succ ?_)
          simp only [spec_WarpDistance.j5, e1]
          refine Ev.ite_pos trivial (Ev.ite_pos (by omega) (Ev.ite_pos (by omega) (j6 _ ?_ ?_)))
          · intro z
            exact absurd z i0
          · intro _
            unfold wbase
            rw [if_neg i0, if_pos k0]
            omega
      · refine Ev.ite_neg (by omega) (Ev.succ ?_)
        simp only [spec_WarpDistance.j5]
        refine Ev.ite_neg (by decide) (j6 _ ?_ ?_)
        · intro _ z
          exact absurd z k0
        · intro _
          unfold wbase
          by_cases i0 : 0 < i
          · have q1 := hl i0 k (by omega) (by omega)
            have hx' := hx i0
            rw [if_pos i0, if_neg k0]
            omega
          · have hy' := hy i0
            rw [if_neg i0, if_neg k0]
            omega
    refine Ev.succ ?_
    simp only [spec_WarpDistance.l1]
    refine Ev.ite_pos (by omega) ?_
    by_cases i0 : 0 < i
    · have ll := wlast_len a b i i0
      exact Ev.ite_pos (by omega) (Ev.ite_pos (by omega) (Ev.ite_pos (by omega) (j4 _ (fun _ => rfl) (fun z => absurd i0 z))))
    · exact Ev.ite_neg (by omega) (j4 _ (fun z => absurd z i0) (fun _ => rfl))
def wres (a b : List Int) : Int × Int := (rd (wlast a b a.length) ((b.length : Int) - 1), 0)
theorem spec_Warp_l0 (a b : List Int) (ha : pitchesB a = true) (hb : pitchesB b = true) (na : 0 < a.length) (nb : 0 < b.length) : ∀ (d i : Nat), a.length - i = d → i ≤ a.length → Ev (fun k => spec_WarpDistance.l0 k a b (wlast a b i) i) (wres a b) := by
  have la := pitchesB_len ha
  have lb := pitchesB_len hb
  intro d
  induction d with
  | zero =>
    intro i hd hi
    have : i = a.length := by omega
    subst this
    have ll := wlast_len a b a.length na
    refine Ev.succ ?_
    simp only [spec_WarpDistance.l0]
    rw [w64 (x := (b.length : Int) - 1) (by omega) (by omega)]
    exact Ev.ite_neg (by omega) (Ev.ite_pos (by omega) (Ev.ite_pos (by omega) (Ev.now _)))
  | succ d ih =>
    intro i hd hi
    refine Ev.succ ?_
    simp only [spec_WarpDistance.l0]
    refine Ev.ite_pos (by omega) ?_
    exact spec_Warp_l1 a b ha hb i (by omega) _ (ih (i + 1) (by omega) (by omega)) b.length 0 (by omega) (by omega)
theorem impl_Warp_l1 (a b : List Int) (ha : pitchesB a = true) (hb : pitchesB b = true) (i : Nat) (hi : i < a.length) (r : Int × Int) (h : ∀ X : List (List Int), X.length = a.length → rd_L1 X i = wlast a b (i + 1) → Ev (fun k => impl_WarpDistance.l0 k a b X a.length ((i : Int) + 1)) r) : ∀ (d k : Nat), b.length - k = d → k ≤ b.length → ∀ X : List (List Int), X.length = a.length → rd_L1 X i = wrow a b (wlast a b i) i k ++ List.replicate (b.length - k) 0 → (0 < i → rd_L1 X ((i : Int) - 1) = wlast a b i) → Ev (fun f => impl_WarpDistance.l1 f a b X i a.length i b.length k) r := by
  have la := pitchesB_len ha
  have lb := pitchesB_len hb
  have hl := wlast_good a b ha hb i (by omega)
  intro d
  induction d with
  | zero =>
    intro k hd hk X hX h1 h2
    have : k = b.length := by omega
    subst this
    refine Ev.succ ?_
    simp only [impl_WarpDistance.l1]
    refine Ev.ite_neg (by omega) ?_
    rw [w64 (by omega) (by omega)]
    refine h X hX ?_
    rw [h1, Nat.sub_self, wlast]
    simp
  | succ d ih =>
    intro k hd hk X hX h1 h2
    have hk' : k < b.length := by omega
    have f1 : (0 : Int) ≤ (i : Int) := by omega
    have f2 : (i : Int) < (a.length : Int) := by omega
    have f3 : (0 : Int) ≤ (k : Int) := by omega
    have f4 : (k : Int) < (b.length : Int) := by omega
    have f5 : k ≤ 64 := by omega
    have f6 : 0 < i → (i : Int) > 0 := by omega
    have f7 : ¬ 0 < i → ¬ (i : Int) > 0 := by omega
    have f8 : 0 < k → (k : Int) > 0 := by omega
    have f9 : ¬ 0 < k → ¬ (k : Int) > 0 := by omega
    have fa : 0 < k → (0 : Int) ≤ (k : Int) - 1 := by omega
    have fb : 0 < k → (k : Int) - 1 < (k : Int) := by omega
    have fc : 0 < k → (k : Int) - 1 < (b.length : Int) := by omega
    have fd : 0 < i → (0 : Int) ≤ (i : Int) - 1 := by omega
    have fe : (i : Int) - 1 < (a.length : Int) := by omega
    have e1 : wrap64 ((k : Int) - 1) = (k : Int) - 1 := w64 (by omega) (by omega)
    have e2 : wrap64 ((k : Int) + 1) = (k : Int) + 1 := w64 (by omega) (by omega)
    have e4 : wrap64 ((i : Int) - 1) = (i : Int) - 1 := w64 (by omega) (by omega)
    have hg := wrow_good a b (wlast a b i) ha hb i hi hl k hk
    have hc := wcell_bound a b (wlast a b i) ha hb i k hi hk' _ hl hg
    have p1 := pitchesB_rd ha (i := i) (by omega) (by omega)
    have p2 := pitchesB_rd hb (i := k) (by omega) (by omega)
    have ff : -9223372036854775807 ≤ rd a i - rd b k := by clear hc hg; omega
    have fg : rd a i - rd b k ≤ 9223372036854775807 := by clear hc hg; omega
    have e3 : wrap64 (rd a i - rd b k) = rd a i - rd b k := w64 (by omega) fg
    have rl := wrow_len a b (wlast a b i) i k
    have hlen : (rd_L1 X i).length = b.length := by rw [h1]; simp; omega
    have ih2 : Ev (fun f => impl_WarpDistance.l1 f a b (X.set i ((rd_L1 X i).set k (wrap64 (wbase (wlast a b i) (wrow a b (wlast a b i) i k) i k + max (rd a i - rd b k) (-(rd a i - rd b k)))))) i a.length i b.length ((k : Int) + 1)) r := by
      refine ih (k + 1) (by omega) (by omega) _ (by rw [List.length_set]; exact hX) ?_ (fun z => by rw [rdL_set_ne (by omega) (by omega)]; exact h2 z)
      rw [rdL_set_eq (by omega), w64 (by unfold wcell at hc; omega) (by unfold wcell at hc; omega), h1, wrow]
      have e : b.length - k = (b.length - (k + 1)) + 1 := by omega
      rw [e, List.replicate_succ, List.set_append_right _ _ (by omega), rl, Nat.sub_self, List.set_cons_zero, List.append_assoc]
      rfl
    have hrow : 0 < k → rd (rd_L1 X i) ((k : Int) - 1) = rd (wrow a b (wlast a b i) i k) ((k : Int) - 1) := by
      intro z
      rw [h1, rd_app_lt (by omega) (by omega)]
    generalize hR : wrow a b (wlast a b i) i k = row at *
    have x1 : (i : Int) - 1 < (X.length : Int) := by rw [hX]; exact fe
    have x2 : (i : Int) < (X.length : Int) := by rw [hX]; exact f2
    have x3 : (k : Int) < ((rd_L1 X i).length : Int) := by rw [hlen]; exact f4
    have hj3 : ∀ x, (x = true ↔ 0 < i ∧ 0 < k) → Ev (fun f => impl_WarpDistance.j3 f a b X i k 0 a.length i b.length k x) r := by
      intro x hx
      refine Ev.succ ?_
      simp only [impl_WarpDistance.j3, e1, e2, e3, e4, mn_eq, Int.toNat_natCast]
      unfold wbase at ih2
      by_cases i0 : 0 < i
      · have ll := wlast_len a b i i0
        have h2' := h2 i0
        rw [if_pos i0] at ih2
        by_cases k0 : 0 < k
        · rw [if_pos k0] at ih2
          rw [h2', hrow k0]
          exact Ev.ite_pos (hx.2 ⟨i0, k0⟩) (Ev.ite_pos (fd i0) (Ev.ite_pos x1 (Ev.ite_pos f3 (Ev.ite_pos (by rw [ll]; exact f4) (Ev.ite_pos f1 (Ev.ite_pos x2 (Ev.ite_pos (fa k0) (Ev.ite_pos (by rw [hlen]; exact fc k0) (Ev.ite_pos (by rw [ll]; exact fc k0) (Ev.ite_pos f2 (Ev.ite_pos f4 (Ev.bindc (impl_abs_eq _ ff fg) (Ev.ite_pos x3 ih2)))))))))))))
        · rw [if_neg k0] at ih2
          rw [h2']
          exact Ev.ite_neg (fun z => k0 (hx.1 z).2) (Ev.ite_pos (f6 i0) (Ev.ite_pos (fd i0) (Ev.ite_pos x1 (Ev.ite_pos f3 (Ev.ite_pos (by rw [ll]; exact f4) (Ev.ite_pos f1 (Ev.ite_pos x2 (Ev.ite_pos f2 (Ev.ite_pos f4 (Ev.bindc (impl_abs_eq _ ff fg) (Ev.ite_pos x3 ih2)))))))))))
      · rw [if_neg i0] at ih2
        by_cases k0 : 0 < k
        · rw [if_pos k0] at ih2
          rw [hrow k0]
          exact Ev.ite_neg (fun z => i0 (hx.1 z).1) (Ev.ite_neg (f7 i0) (Ev.ite_pos (f8 k0) (Ev.ite_pos f1 (Ev.ite_pos x2 (Ev.ite_pos (fa k0) (Ev.ite_pos (by rw [hlen]; exact fc k0) (Ev.ite_pos f2 (Ev.ite_pos f3 (Ev.ite_pos f4 (Ev.bindc (impl_abs_eq _ ff fg) (Ev.ite_pos x3 ih2)))))))))))
        · rw [if_neg k0] at ih2
          exact Ev.ite_neg (fun z => i0 (hx.1 z).1) (Ev.ite_neg (f7 i0) (Ev.ite_neg (f9 k0) (Ev.ite_pos f1 (Ev.ite_pos x2 (Ev.ite_pos f2 (Ev.ite_pos f3 (Ev.ite_pos f4 (Ev.bindc (impl_abs_eq _ ff fg) (Ev.ite_pos x3 ih2)))))))))
    refine Ev.succ ?_
    simp only [impl_WarpDistance.l1]
    refine Ev.ite_pos f4 ?_
    by_cases i0 : 0 < i
    · refine Ev.ite_pos (f6 i0) (hj3 _ ⟨fun z => ?_, fun z => ?_⟩)
      · have z' : (k : Int) > 0 := of_decide_eq_true z
        exact ⟨i0, Int.natCast_pos.mp z'⟩
      · exact decide_eq_true (f8 z.2)
    · exact Ev.ite_neg (f7 i0) (hj3 _ ⟨fun z => by simp at z, fun z => absurd z.1 i0⟩)
theorem impl_Warp_l0 (a b : List Int) (ha : pitchesB a = true) (hb : pitchesB b = true) (na : 0 < a.length) (nb : 0 < b.length) : ∀ (d i : Nat), a.length - i = d → i ≤ a.length → ∀ X : List (List Int), X.length = a.length → (0 < i → rd_L1 X ((i : Int) - 1) = wlast a b i) → Ev (fun k => impl_WarpDistance.l0 k a b X a.length i) (wres a b) := by
  have la := pitchesB_len ha
  have lb := pitchesB_len hb
  intro d
  induction d with
  | zero =>
    intro i hd hi X hX h
    have : i = a.length := by omega
    subst this
    have ll := wlast_len a b a.length na
    have h' := h na
    refine Ev.succ ?_
    simp only [impl_WarpDistance.l0]
    rw [w64 (x := (b.length : Int) - 1) (by omega) (by omega), w64 (x := (a.length : Int) - 1) (by omega) (by omega), h']
    exact Ev.ite_neg (by omega) (Ev.ite_pos (by omega) (Ev.ite_pos (by omega) (Ev.ite_pos (by omega) (Ev.ite_pos (by omega) (Ev.now _)))))
  | succ d ih =>
    intro i hd hi X hX h
    refine Ev.succ ?_
    simp only [impl_WarpDistance.l0, Int.toNat_natCast]
    refine Ev.ite_pos (by omega) (Ev.ite_pos (by omega) (Ev.ite_pos (by omega) (Ev.ite_pos (by omega) (Ev.ite_pos (by omega) ?_))))
    refine impl_Warp_l1 a b ha hb i (by omega) _ (fun Y hY h1 => ih (i + 1) (by omega) (by omega) Y hY (fun _ => ?_)) b.length 0 (by omega) (by omega) _ (by rw [List.length_set]; exact hX) ?_ (fun z => by rw [rdL_set_ne (by omega) (by omega)]; exact h z)
    · have e : ((i + 1 : Nat) : Int) - 1 = i := by omega
      rw [e]
      exact h1
    · rw [rdL_set_eq (by omega)]
      rfl
def warpR (a b : List Int) : Int × Int := if pitchesB a && pitchesB b then (if 0 < a.length ∧ 0 < b.length then wres a b else (0, 3)) else (0, 7)
theorem bothWarpDistance (a b : List Int) (ha : a.length ≤ 1048576) (hb : b.length ≤ 1048576) : Ev (fun k => spec_WarpDistance.f k a b) (warpR a b) ∧ Ev (fun k => impl_WarpDistance.f k a b) (warpR a b) := by
  unfold warpR
  constructor
  · unfold spec_WarpDistance.f
    refine Ev.bind (spec_l05Pitches_ev a (by omega)) ?_
    cases pa : pitchesB a with
    | false =>
      refine Ev.ite_neg (by decide) (Ev.succ ?_)
      simp only [spec_WarpDistance.j0]
      exact Ev.ite_pos trivial (Ev.now _)
    | true =>
      refine Ev.ite_pos rfl (Ev.bind (spec_l05Pitches_ev b (by omega)) ?_)
      cases pb : pitchesB b with
      | false =>
        refine Ev.succ ?_
        simp only [spec_WarpDistance.j0]
        exact Ev.ite_pos rfl (Ev.now _)
      | true =>
        refine Ev.succ ?_
        simp only [spec_WarpDistance.j0]
        refine Ev.ite_neg (by decide) ?_
        rw [if_pos (show (true && true) = true from rfl)]
        by_cases a0 : 0 < a.length
        · refine Ev.ite_neg (by omega) (Ev.succ ?_)
          simp only [spec_WarpDistance.j1]
          by_cases b0 : 0 < b.length
          · rw [if_pos ⟨a0, b0⟩]
            exact Ev.ite_neg (by simp; exact List.ne_nil_of_length_pos b0) (spec_Warp_l0 a b pa pb a0 b0 a.length 0 (by omega) (by omega))
          · rw [if_neg (fun z => b0 z.2)]
            have b1 : b.length = 0 := by omega
            exact Ev.ite_pos (by rw [b1]; rfl) (Ev.now _)
        · rw [if_neg (fun z => a0 z.1)]
          refine Ev.ite_pos (by omega) (Ev.succ ?_)
          simp only [spec_WarpDistance.j1]
          exact Ev.ite_pos trivial (Ev.now _)
  · unfold impl_WarpDistance.f
    refine Ev.bindc (impl_pitchesOk_eq a) ?_
    cases pa : pitchesB a with
    | false =>
      refine Ev.ite_neg (by decide) (Ev.succ ?_)
      simp only [impl_WarpDistance.j0]
      exact Ev.ite_pos trivial (Ev.now _)
    | true =>
      refine Ev.ite_pos rfl (Ev.bindc (impl_pitchesOk_eq b) ?_)
      cases pb : pitchesB b with
      | false =>
        refine Ev.succ ?_
        simp only [impl_WarpDistance.j0]
        exact Ev.ite_pos rfl (Ev.now _)
      | true =>
        have la := pitchesB_len pa
        refine Ev.succ ?_
        simp only [impl_WarpDistance.j0, Int.toNat_natCast]
        refine Ev.ite_neg (by decide) ?_
        rw [if_pos (show (true && true) = true from rfl)]
        by_cases a0 : 0 < a.length
        · refine Ev.ite_neg (by omega) ?_
          by_cases b0 : 0 < b.length
          · rw [if_pos ⟨a0, b0⟩]
            exact Ev.ite_neg (by omega) (Ev.ite_pos (by omega) (Ev.ite_pos (by omega) (impl_Warp_l0 a b pa pb a0 b0 a.length 0 (by omega) (by omega) _ (by simp) (fun z => absurd z (by omega)))))
          · rw [if_neg (fun z => b0 z.2)]
            exact Ev.ite_pos (by omega) (Ev.now _)
        · rw [if_neg (fun z => a0 z.1)]
          exact Ev.ite_pos (by omega) (Ev.now _)
theorem FnExactWarpDistance : laws_FnExactWarpDistance.Pure := by
  intro a b ⟨ha, _⟩ ⟨hb, _⟩
  refine Ev.out (r := true) ?_
  unfold laws_FnExactWarpDistance.f
  by_cases ga : (a.length : Int) > 1048576
  · exact Ev.ite_pos ga (Ev.now _)
  refine Ev.ite_neg ga ?_
  by_cases gb : (b.length : Int) > 1048576
  · exact Ev.ite_pos gb (Ev.now _)
  refine Ev.ite_neg gb ?_
  have ta := toInt64S_ev a (by omega)
  have la : a.length ≤ 1048576 := by omega
  have tb := toInt64S_ev b (by omega)
  have lb : b.length ≤ 1048576 := by omega
  obtain ⟨es, ei⟩ := bothWarpDistance a b la lb
  refine Ev.bind ta ?_
  refine Ev.bind tb ?_
  refine Ev.bind es ?_
  refine Ev.bind ta ?_
  refine Ev.bind tb ?_
  refine Ev.bind ei ?_
  refine Ev.ite_pos rfl ?_
  refine Ev.succ ?_
  simp only [laws_FnExactWarpDistance.j0]
  refine Ev.ite_neg (by simp) ?_
  refine Ev.bind ta ?_
  refine Ev.bind (eqInt64S_self a (by omega)) ?_
  refine Ev.ite_pos rfl ?_
  refine Ev.bind tb ?_
  refine Ev.bind (eqInt64S_self b (by omega)) ?_
  exact Ev.ite_pos rfl (Ev.now _)

end Go.Proofs.Ytddhommmokdlnaa.Pure
end
