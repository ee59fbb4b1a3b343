/- The pure statement of FnExactEditPath. No condition. -/
import Derived.Test.YtddhommmokdlnaaGEP1
import Derived.Test.YtddhommmokdlnaaGEP3
import Derived.Test.YtddhommmokdlnaaGEP5
section
namespace Go.Proofs.Ytddhommmokdlnaa.P
open Go.RowKit Go.Proofs.YtddhommmokdlnaaW.PrintWords Go.Proofs.YtddhommmokdlnaaW.PrintLast Go.Proofs.YtddhommmokdlnaaW.PrintMore
attribute [local go_sem] max2_int min2_int max_two min_two max_three min_three max_four min_four   -- for this text's walks alone
set_option linter.unusedVariables false
set_option linter.unusedSimpArgs false

/-! ### laws_FnExactEditPath: function 14 -/
def laws_FnExactEditPath.j0 : Nat → List Int → List Int → List Int → List Int → Bool → Option (Bool)
  | 0, _, _, _, _, _ => none
  | k + 1, x0, x1, x11, x12, x50 => if x50 = true then (some false) else ((laws_toInt64S.f k x0).bind fun t1137 => ((laws_eqInt64S.f k x11 t1137).bind fun t1140 => (if t1140 = true then ((laws_toInt64S.f k x1).bind fun t1141 => ((laws_eqInt64S.f k x12 t1141).bind fun t1144 => (if t1144 = true then (some true) else (some false)))) else (some false))))
def laws_FnExactEditPath.f (k : Nat) (l0 : List Int) (l1 : List Int) (a2 : Int) (a3 : Int) : Option (Bool) := if (l0.length : Int) > 1048576 then (some true) else (if (l1.length : Int) > 1048576 then (some true) else ((laws_toInt64S.f k l0).bind fun t1121 => ((laws_toInt64S.f k l1).bind fun t1124 => ((spec_EditPath.f k t1121 t1124 a2 a3).bind fun bt1127 => ((laws_toInt64S.f k l0).bind fun t1129 => ((laws_toInt64S.f k l1).bind fun t1132 => ((impl_EditPath.f k t1129 t1132 a2 a3).bind fun bt1135 => (if bt1135.1.toList = bt1127.1.toList then (laws_FnExactEditPath.j0 k l0 l1 t1129 t1132 (bt1135.2 != bt1127.2)) else (laws_FnExactEditPath.j0 k l0 l1 t1129 t1132 true)))))))))
theorem laws_FnExactEditPath.mono_l : ∀ k, (∀ y0 y1 y2 y3 y4, LeO (laws_FnExactEditPath.j0 k y0 y1 y2 y3 y4) (laws_FnExactEditPath.j0 (k + 1) y0 y1 y2 y3 y4))
  | 0 => fun _ _ _ _ _ r h => by simp [laws_FnExactEditPath.j0] at h
  | k + 1 => by
    have ih0 := laws_FnExactEditPath.mono_l k
    · intro y0 y1 y2 y3 y4
      unfold laws_FnExactEditPath.j0
      repeat' first
      | (with_reducible exact ih0 _ _ _ _ _)
      | (with_reducible exact impl_EditPath.mono _ _ _ _ _)
      | (with_reducible exact laws_eqInt64S.mono _ _ _)
      | (with_reducible exact laws_toInt64S.mono _ _)
      | (with_reducible exact spec_EditPath.mono _ _ _ _ _)
      | (with_reducible exact LeO.refl _)
      | (with_reducible exact LeO.none _)
      | (with_reducible refine LeO.ite ?_ ?_)
      | (with_reducible refine LeO.bind ?_ (fun _ => ?_))
      | exact ih0 _ _ _ _ _
      | exact impl_EditPath.mono _ _ _ _ _
      | exact laws_eqInt64S.mono _ _ _
      | exact laws_toInt64S.mono _ _
      | exact spec_EditPath.mono _ _ _ _ _
      | exact LeO.none _
      | refine LeO.ite ?_ ?_
      | refine LeO.bind ?_ (fun _ => ?_)
theorem laws_FnExactEditPath.mono : ∀ a0 a1 a2 a3 k, LeO (laws_FnExactEditPath.f k a0 a1 a2 a3) (laws_FnExactEditPath.f (k + 1) a0 a1 a2 a3) := by
  intro a0 a1 a2 a3 k
  have ih0 := laws_FnExactEditPath.mono_l k
  unfold laws_FnExactEditPath.f
  repeat' first
      | (with_reducible exact ih0 _ _ _ _ _)
      | (with_reducible exact impl_EditPath.mono _ _ _ _ _)
      | (with_reducible exact laws_eqInt64S.mono _ _ _)
      | (with_reducible exact laws_toInt64S.mono _ _)
      | (with_reducible exact spec_EditPath.mono _ _ _ _ _)
      | (with_reducible exact LeO.refl _)
      | (with_reducible exact LeO.none _)
      | (with_reducible refine LeO.ite ?_ ?_)
      | (with_reducible refine LeO.bind ?_ (fun _ => ?_))
      | exact ih0 _ _ _ _ _
      | exact impl_EditPath.mono _ _ _ _ _
      | exact laws_eqInt64S.mono _ _ _
      | exact laws_toInt64S.mono _ _
      | exact spec_EditPath.mono _ _ _ _ _
      | exact LeO.none _
      | refine LeO.ite ?_ ?_
      | refine LeO.bind ?_ (fun _ => ?_)
set_option maxHeartbeats 8000000 in
set_option maxRecDepth 100000 in
theorem laws_FnExactEditPath.calls (k : Nat) (A0 : Option Addr) (c0 : Nat) (l0 : List Int) (A1 : Option Addr) (c1 : Nat) (l1 : List Int) (a2 : Int) (a3 : Int) (r : Bool) (w : World) (hr0 : Kd.C (Kd.int .i64) w A0 l0.length l0) (hc0 : l0.length ≤ c0) (hr1 : Kd.C (Kd.int .i64) w A1 l1.length l1) (hc1 : l1.length ≤ c1) (hT : r = true) (h : laws_FnExactEditPath.f k l0 l1 a2 a3 = some r) :
    Calls Try.prog 14 #[.slice A0 l0.length c0, .slice A1 l1.length c1, .int .i64 a2, .int .i64 a3] w fun e w' => e = .returned (.bool r) ∧ Below w.heap.size w w' := by
  have HR0 := Aside0.mk hr0
  have HC0 := Aside0.mk hc0
  clear hr0 hc0
  have HR1 := Aside0.mk hr1
  have HC1 := Aside0.mk hc1
  clear hr1 hc1
  have HT := Aside0.mk hT
  clear hT
  have HB := Aside0.mk (Below.refl w.heap.size w)
  have H : (if (l0.length : Int) > 1048576 then (some true) else (if (l1.length : Int) > 1048576 then (some true) else ((laws_toInt64S.f k l0).bind fun t1121 => ((laws_toInt64S.f k l1).bind fun t1124 => ((spec_EditPath.f k t1121 t1124 a2 a3).bind fun bt1127 => ((laws_toInt64S.f k l0).bind fun t1129 => ((laws_toInt64S.f k l1).bind fun t1132 => ((impl_EditPath.f k t1129 t1132 a2 a3).bind fun bt1135 => (if bt1135.1.toList = bt1127.1.toList then (laws_FnExactEditPath.j0 k l0 l1 t1129 t1132 (bt1135.2 != bt1127.2)) else (laws_FnExactEditPath.j0 k l0 l1 t1129 t1132 true)))))))))) = some r := h
  clear h
  by_cases c5 : (l0.length : Int) > 1048576
  · rw [if_pos c5] at H
    have c5b0 : decide (1048576 < (l0.length : Int)) = true := decide_eq_true c5
    have c5b1 : decide (1048576 < l0.length) = true := decide_eq_true (by omega)
    clear c5
    obtain rfl := Option.some.inj H
    go_enter Try.func14, Try.ntmps14
    go_wp2
    go_ret
    exact ⟨by first | rfl | (simp [errW_none, errW_some] <;> rfl) | (simp [*, errW_none, errW_some] <;> rfl), by repeat (first | (with_reducible first | exact HB.out | apply below_alloc | apply pw_below_drewN | apply below_drew1) | exact HB.out)⟩
  · rw [if_neg c5] at H
    have c5b0 : decide (1048576 < (l0.length : Int)) = false := decide_eq_false c5
    have c5b1 : decide (1048576 < l0.length) = false := decide_eq_false (by omega)
    clear c5
    by_cases c6 : (l1.length : Int) > 1048576
    · rw [if_pos c6] at H
      have c6b0 : decide (1048576 < (l1.length : Int)) = true := decide_eq_true c6
      have c6b1 : decide (1048576 < l1.length) = true := decide_eq_true (by omega)
      clear c6
      obtain rfl := Option.some.inj H
      go_enter Try.func14, Try.ntmps14
      go_wp2
      go_ret
      exact ⟨by first | rfl | (simp [errW_none, errW_some] <;> rfl) | (simp [*, errW_none, errW_some] <;> rfl), by repeat (first | (with_reducible first | exact HB.out | apply below_alloc | apply pw_below_drewN | apply below_drew1) | exact HB.out)⟩
    · rw [if_neg c6] at H
      have c6b0 : decide (1048576 < (l1.length : Int)) = false := decide_eq_false c6
      have c6b1 : decide (1048576 < l1.length) = false := decide_eq_false (by omega)
      clear c6
      replace H := Option.bind_eq_some_iff.mp H
      obtain ⟨t1121, A70, H⟩ := H
      replace H : ((laws_toInt64S.f k l1).bind fun t1124 => ((spec_EditPath.f k t1121 t1124 a2 a3).bind fun bt1127 => ((laws_toInt64S.f k l0).bind fun t1129 => ((laws_toInt64S.f k l1).bind fun t1132 => ((impl_EditPath.f k t1129 t1132 a2 a3).bind fun bt1135 => (if bt1135.1.toList = bt1127.1.toList then (laws_FnExactEditPath.j0 k l0 l1 t1129 t1132 (bt1135.2 != bt1127.2)) else (laws_FnExactEditPath.j0 k l0 l1 t1129 t1132 true))))))) = some r := H
      have A7 := Aside0.mk A70
      clear A70
      replace H := Option.bind_eq_some_iff.mp H
      obtain ⟨t1124, A80, H⟩ := H
      replace H : ((spec_EditPath.f k t1121 t1124 a2 a3).bind fun bt1127 => ((laws_toInt64S.f k l0).bind fun t1129 => ((laws_toInt64S.f k l1).bind fun t1132 => ((impl_EditPath.f k t1129 t1132 a2 a3).bind fun bt1135 => (if bt1135.1.toList = bt1127.1.toList then (laws_FnExactEditPath.j0 k l0 l1 t1129 t1132 (bt1135.2 != bt1127.2)) else (laws_FnExactEditPath.j0 k l0 l1 t1129 t1132 true)))))) = some r := H
      have A8 := Aside0.mk A80
      clear A80
      replace H := Option.bind_eq_some_iff.mp H
      obtain ⟨⟨t1127, t1128⟩, A90, H⟩ := H
      replace H : ((laws_toInt64S.f k l0).bind fun t1129 => ((laws_toInt64S.f k l1).bind fun t1132 => ((impl_EditPath.f k t1129 t1132 a2 a3).bind fun bt1135 => (if bt1135.1.toList = t1127.toList then (laws_FnExactEditPath.j0 k l0 l1 t1129 t1132 (bt1135.2 != t1128)) else (laws_FnExactEditPath.j0 k l0 l1 t1129 t1132 true))))) = some r := H
      have A9 := Aside0.mk A90
      clear A90
      replace H := Option.bind_eq_some_iff.mp H
      obtain ⟨t1129, A100, H⟩ := H
      replace H : ((laws_toInt64S.f k l1).bind fun t1132 => ((impl_EditPath.f k t1129 t1132 a2 a3).bind fun bt1135 => (if bt1135.1.toList = t1127.toList then (laws_FnExactEditPath.j0 k l0 l1 t1129 t1132 (bt1135.2 != t1128)) else (laws_FnExactEditPath.j0 k l0 l1 t1129 t1132 true)))) = some r := H
      have A10 := Aside0.mk A100
      clear A100
      replace H := Option.bind_eq_some_iff.mp H
      obtain ⟨t1132, A110, H⟩ := H
      replace H : ((impl_EditPath.f k t1129 t1132 a2 a3).bind fun bt1135 => (if bt1135.1.toList = t1127.toList then (laws_FnExactEditPath.j0 k l0 l1 t1129 t1132 (bt1135.2 != t1128)) else (laws_FnExactEditPath.j0 k l0 l1 t1129 t1132 true))) = some r := H
      have A11 := Aside0.mk A110
      clear A110
      replace H := Option.bind_eq_some_iff.mp H
      obtain ⟨⟨t1135, t1136⟩, A120, H⟩ := H
      replace H : (if t1135.toList = t1127.toList then (laws_FnExactEditPath.j0 k l0 l1 t1129 t1132 (t1136 != t1128)) else (laws_FnExactEditPath.j0 k l0 l1 t1129 t1132 true)) = some r := H
      have A12 := Aside0.mk A120
      clear A120
      have HC13 := Aside0.mk H
      clear H
      go_enter Try.func14, Try.ntmps14
      go_upto_region 9 with (first | ((with_reducible refine gate_callee (f := 16) rfl ?_); refine goesL_ (some 23) rfl rfl Try.func16 (by kernel_rfl) rfl #[.slice A0 l0.length c0] rfl (by (try simp only [List.map_toArray, List.map_cons, List.map_nil]); first | done | rfl | (simp only [List.length_drop, List.length_take]; rfl)) ?_; (with_reducible refine (laws_toInt64S.calls k _ _ l0 t1121 _ ?side1 ?side2 A7.out).mono ?_); (case side1 => repeat (first | exact HR0.out | (with_reducible refine Kd.C_alloc ?_ _) | (with_reducible refine Kd.C_drewN ?_ _) | (with_reducible refine Kd.C_drew ?_))); (case side2 => exact HC0.out); rintro e w14 ⟨v1122, rfl, ho0, hb⟩; refine ⟨_, rfl, ?_⟩; have n0_ := Aside0.mk (Kd.R_lower ho0 (below_size (by repeat (first | (with_reducible first | exact HB.out | apply below_alloc | apply pw_below_drewN | apply below_drew1) | exact HB.out)))); have n1_ := Aside0.mk (below_step (by repeat (first | (with_reducible first | exact HB.out | apply below_alloc | apply pw_below_drewN | apply below_drew1) | exact HB.out)) hb); clear HB; have HO1123 := n0_; have HB := n1_; clear n0_ n1_; (try clear hb); (try clear hb2); (try clear hk); (try clear hi); (try clear ho0)) | ((with_reducible refine gate_callee (f := 16) rfl ?_); refine goesL_ (some 25) rfl rfl Try.func16 (by kernel_rfl) rfl #[.slice A1 l1.length c1] rfl (by (try simp only [List.map_toArray, List.map_cons, List.map_nil]); first | done | rfl | (simp only [List.length_drop, List.length_take]; rfl)) ?_; (with_reducible refine (laws_toInt64S.calls k _ _ l1 t1124 _ ?side1 ?side2 A8.out).mono ?_); (case side1 => repeat (first | exact (Kd.C_below HR1.out HB.out) | (with_reducible refine Kd.C_alloc ?_ _) | (with_reducible refine Kd.C_drewN ?_ _) | (with_reducible refine Kd.C_drew ?_))); (case side2 => exact HC1.out); rintro e w15 ⟨v1125, rfl, ho0, hb⟩; refine ⟨_, rfl, ?_⟩; have n0_ := Aside0.mk (Kd.R_elder' (by (with_reducible repeat (first | apply Kd.R_alloc | apply Kd.R_drewN | apply Kd.R_drew)); exact HO1123.out) (Kd.R_base ho0) hb); have n1_ := Aside0.mk (Kd.R_lower (Kd.R_new' ho0 (Kd.R_lt (by (with_reducible repeat (first | apply Kd.R_alloc | apply Kd.R_drewN | apply Kd.R_drew)); exact HO1123.out))) (below_size (by repeat (first | (with_reducible first | exact HB.out | apply below_alloc | apply pw_below_drewN | apply below_drew1) | exact HB.out)))); have n2_ := Aside0.mk (below_step (by repeat (first | (with_reducible first | exact HB.out | apply below_alloc | apply pw_below_drewN | apply below_drew1) | exact HB.out)) hb); clear HO1123; clear HB; have HO1123 := n0_; have HO1126 := n1_; have HB := n2_; clear n0_ n1_ n2_; (try clear hb); (try clear hb2); (try clear hk); (try clear hi); (try clear ho0); obtain ⟨Ao16, co16, eo16⟩ := Kd.R_slice HO1123.out; subst eo16; obtain ⟨Ao17, co17, eo17⟩ := Kd.R_slice HO1126.out; subst eo17) | ((with_reducible refine gate_callee (f := 41) rfl ?_); refine goesL_ (some 28) rfl rfl Try.func41 (by kernel_rfl) rfl #[.slice Ao16 t1121.length co16, .slice Ao17 t1124.length co17, .int .i64 a2, .int .i64 a3] rfl (by (try simp only [List.map_toArray, List.map_cons, List.map_nil]); first | done | rfl | (simp only [List.length_drop, List.length_take]; rfl)) ?_; (with_reducible refine (spec_EditPath.calls k _ _ t1121 _ _ t1124 a2 a3 t1127 t1128 _ ?side1 ?side2 ?side3 ?side4 A9.out).mono ?_); (case side1 => repeat (first | exact (Kd.R_reads' HO1123.out).2.2 | (with_reducible refine Kd.C_alloc ?_ _) | (with_reducible refine Kd.C_drewN ?_ _) | (with_reducible refine Kd.C_drew ?_))); (case side2 => exact (Kd.R_reads' HO1123.out).2.1); (case side3 => repeat (first | exact (Kd.R_reads' HO1126.out).2.2 | (with_reducible refine Kd.C_alloc ?_ _) | (with_reducible refine Kd.C_drewN ?_ _) | (with_reducible refine Kd.C_drew ?_))); (case side4 => exact (Kd.R_reads' HO1126.out).2.1); rintro e w18 ⟨rfl, hb⟩; refine ⟨_, rfl, ?_⟩; have n0_ := Aside0.mk (Kd.R_below (by (with_reducible repeat (first | apply Kd.R_alloc | apply Kd.R_drewN | apply Kd.R_drew)); exact HO1123.out) hb); have n1_ := Aside0.mk (Kd.R_below (by (with_reducible repeat (first | apply Kd.R_alloc | apply Kd.R_drewN | apply Kd.R_drew)); exact HO1126.out) hb); have n2_ := Aside0.mk (below_step (by repeat (first | (with_reducible first | exact HB.out | apply below_alloc | apply pw_below_drewN | apply below_drew1) | exact HB.out)) hb); clear HO1123; clear HO1126; clear HB; have HO1123 := n0_; have HO1126 := n1_; have HB := n2_; clear n0_ n1_ n2_; (try clear hb); (try clear hb2); (try clear hk); (try clear hi)) | ((with_reducible refine gate_callee (f := 16) rfl ?_); refine goesL_ (some 32) rfl rfl Try.func16 (by kernel_rfl) rfl #[.slice A0 l0.length c0] rfl (by (try simp only [List.map_toArray, List.map_cons, List.map_nil]); first | done | rfl | (simp only [List.length_drop, List.length_take]; rfl)) ?_; (with_reducible refine (laws_toInt64S.calls k _ _ l0 t1129 _ ?side1 ?side2 A10.out).mono ?_); (case side1 => repeat (first | exact (Kd.C_below HR0.out HB.out) | (with_reducible refine Kd.C_alloc ?_ _) | (with_reducible refine Kd.C_drewN ?_ _) | (with_reducible refine Kd.C_drew ?_))); (case side2 => exact HC0.out); rintro e w19 ⟨v1130, rfl, ho0, hb⟩; refine ⟨_, rfl, ?_⟩; have n0_ := Aside0.mk (Kd.R_elder' (by (with_reducible repeat (first | apply Kd.R_alloc | apply Kd.R_drewN | apply Kd.R_drew)); exact HO1123.out) (Kd.R_base ho0) hb); have n1_ := Aside0.mk (Kd.R_elder' (by (with_reducible repeat (first | apply Kd.R_alloc | apply Kd.R_drewN | apply Kd.R_drew)); exact HO1126.out) (Kd.R_base ho0) hb); have n2_ := Aside0.mk (Kd.R_lower (Kd.R_new' (Kd.R_new' ho0 (Kd.R_lt (by (with_reducible repeat (first | apply Kd.R_alloc | apply Kd.R_drewN | apply Kd.R_drew)); exact HO1123.out))) (Kd.R_lt (by (with_reducible repeat (first | apply Kd.R_alloc | apply Kd.R_drewN | apply Kd.R_drew)); exact HO1126.out))) (below_size (by repeat (first | (with_reducible first | exact HB.out | apply below_alloc | apply pw_below_drewN | apply below_drew1) | exact HB.out)))); have n3_ := Aside0.mk (below_step (by repeat (first | (with_reducible first | exact HB.out | apply below_alloc | apply pw_below_drewN | apply below_drew1) | exact HB.out)) hb); clear HO1123; clear HO1126; clear HB; have HO1123 := n0_; have HO1126 := n1_; have HO1131 := n2_; have HB := n3_; clear n0_ n1_ n2_ n3_; (try clear hb); (try clear hb2); (try clear hk); (try clear hi); (try clear ho0)) | ((with_reducible refine gate_callee (f := 16) rfl ?_); refine goesL_ (some 34) rfl rfl Try.func16 (by kernel_rfl) rfl #[.slice A1 l1.length c1] rfl (by (try simp only [List.map_toArray, List.map_cons, List.map_nil]); first | done | rfl | (simp only [List.length_drop, List.length_take]; rfl)) ?_; (with_reducible refine (laws_toInt64S.calls k _ _ l1 t1132 _ ?side1 ?side2 A11.out).mono ?_); (case side1 => repeat (first | exact (Kd.C_below HR1.out HB.out) | (with_reducible refine Kd.C_alloc ?_ _) | (with_reducible refine Kd.C_drewN ?_ _) | (with_reducible refine Kd.C_drew ?_))); (case side2 => exact HC1.out); rintro e w20 ⟨v1133, rfl, ho0, hb⟩; refine ⟨_, rfl, ?_⟩; have n0_ := Aside0.mk (Kd.R_elder' (by (with_reducible repeat (first | apply Kd.R_alloc | apply Kd.R_drewN | apply Kd.R_drew)); exact HO1123.out) (Kd.R_base ho0) hb); have n1_ := Aside0.mk (Kd.R_elder' (by (with_reducible repeat (first | apply Kd.R_alloc | apply Kd.R_drewN | apply Kd.R_drew)); exact HO1126.out) (Kd.R_base ho0) hb); have n2_ := Aside0.mk (Kd.R_elder' (by (with_reducible repeat (first | apply Kd.R_alloc | apply Kd.R_drewN | apply Kd.R_drew)); exact HO1131.out) (Kd.R_base ho0) hb); have n3_ := Aside0.mk (Kd.R_lower (Kd.R_new' (Kd.R_new' (Kd.R_new' ho0 (Kd.R_lt (by (with_reducible repeat (first | apply Kd.R_alloc | apply Kd.R_drewN | apply Kd.R_drew)); exact HO1123.out))) (Kd.R_lt (by (with_reducible repeat (first | apply Kd.R_alloc | apply Kd.R_drewN | apply Kd.R_drew)); exact HO1126.out))) (Kd.R_lt (by (with_reducible repeat (first | apply Kd.R_alloc | apply Kd.R_drewN | apply Kd.R_drew)); exact HO1131.out))) (below_size (by repeat (first | (with_reducible first | exact HB.out | apply below_alloc | apply pw_below_drewN | apply below_drew1) | exact HB.out)))); have n4_ := Aside0.mk (below_step (by repeat (first | (with_reducible first | exact HB.out | apply below_alloc | apply pw_below_drewN | apply below_drew1) | exact HB.out)) hb); clear HO1123; clear HO1126; clear HO1131; clear HB; have HO1123 := n0_; have HO1126 := n1_; have HO1131 := n2_; have HO1134 := n3_; have HB := n4_; clear n0_ n1_ n2_ n3_ n4_; (try clear hb); (try clear hb2); (try clear hk); (try clear hi); (try clear ho0); obtain ⟨Ao21, co21, eo21⟩ := Kd.R_slice HO1131.out; subst eo21; obtain ⟨Ao22, co22, eo22⟩ := Kd.R_slice HO1134.out; subst eo22) | ((with_reducible refine gate_callee (f := 42) rfl ?_); refine goesL_ (some 40) rfl rfl Try.func42 (by kernel_rfl) rfl #[.slice Ao21 t1129.length co21, .slice Ao22 t1132.length co22, .int .i64 a2, .int .i64 a3] rfl (by (try simp only [List.map_toArray, List.map_cons, List.map_nil]); first | done | rfl | (simp only [List.length_drop, List.length_take]; rfl)) ?_; (with_reducible refine (impl_EditPath.calls k _ _ t1129 _ _ t1132 a2 a3 t1135 t1136 _ ?side1 ?side2 ?side3 ?side4 A12.out).mono ?_); (case side1 => repeat (first | exact (Kd.R_reads' HO1131.out).2.2 | (with_reducible refine Kd.C_alloc ?_ _) | (with_reducible refine Kd.C_drewN ?_ _) | (with_reducible refine Kd.C_drew ?_))); (case side2 => exact (Kd.R_reads' HO1131.out).2.1); (case side3 => repeat (first | exact (Kd.R_reads' HO1134.out).2.2 | (with_reducible refine Kd.C_alloc ?_ _) | (with_reducible refine Kd.C_drewN ?_ _) | (with_reducible refine Kd.C_drew ?_))); (case side4 => exact (Kd.R_reads' HO1134.out).2.1); rintro e w23 ⟨rfl, hb⟩; refine ⟨_, rfl, ?_⟩; have n0_ := Aside0.mk (Kd.R_below (by (with_reducible repeat (first | apply Kd.R_alloc | apply Kd.R_drewN | apply Kd.R_drew)); exact HO1123.out) hb); have n1_ := Aside0.mk (Kd.R_below (by (with_reducible repeat (first | apply Kd.R_alloc | apply Kd.R_drewN | apply Kd.R_drew)); exact HO1126.out) hb); have n2_ := Aside0.mk (Kd.R_below (by (with_reducible repeat (first | apply Kd.R_alloc | apply Kd.R_drewN | apply Kd.R_drew)); exact HO1131.out) hb); have n3_ := Aside0.mk (Kd.R_below (by (with_reducible repeat (first | apply Kd.R_alloc | apply Kd.R_drewN | apply Kd.R_drew)); exact HO1134.out) hb); have n4_ := Aside0.mk (below_step (by repeat (first | (with_reducible first | exact HB.out | apply below_alloc | apply pw_below_drewN | apply below_drew1) | exact HB.out)) hb); clear HO1123; clear HO1126; clear HO1131; clear HO1134; clear HB; have HO1123 := n0_; have HO1126 := n1_; have HO1131 := n2_; have HO1134 := n3_; have HB := n4_; clear n0_ n1_ n2_ n3_ n4_; (try clear hb); (try clear hb2); (try clear hk); (try clear hi)))
      (try simp only [Act.put, List.setIfInBounds_toArray, List.set_cons_zero, List.set_cons_succ])
      go_cut [50] (fun v50 wc => ∃ (kq : Nat) (x50_12 : Bool), v50 = .bool x50_12 ∧ Aside0 (laws_FnExactEditPath.j0 kq l0 l1 t1129 t1132 x50_12 = some r) ∧ Aside0 (kq ≤ k) ∧ Aside0 (Kd.R (Kd.int .i64) 2 wc w.heap.size (fun k_ => some k_ ≠ ((.slice Ao22 t1132.length co22) : Value).ownBlock) (.slice Ao21 t1129.length co21) t1129) ∧ Aside0 (Kd.R (Kd.int .i64) 2 wc w.heap.size (fun k_ => some k_ ≠ ((.slice Ao21 t1129.length co21) : Value).ownBlock) (.slice Ao22 t1132.length co22) t1132) ∧ Aside0 (Below w.heap.size w wc))
      case first =>
        have H := HC13.out
        clear HC13
        by_cases c24 : t1135.toList = t1127.toList
        · rw [if_pos c24] at H
          have c24b0 : (t1135.toList == t1127.toList) = true := beq_iff_eq.mpr c24
          have c24b1 : (t1135.toList != t1127.toList) = false := bne_eq_false_iff_eq.mpr c24
          clear c24
          (first | rw [c24b0] | (simp only [i64_w, i32_w]; rw [c24b0]) | skip)
          have H' := Aside0.mk H
          clear H
          go_wp2
          go_meet
          case rel => exact ⟨_, ((t1136 != t1128)), (by first | rfl | (simp; done) | (simp [*]; done)), H', ⟨by first | omega | exact Nat.le_refl _⟩, ⟨by (with_reducible repeat (first | apply Kd.R_alloc | apply Kd.R_drewN | apply Kd.R_drew)); exact Kd.R_mono HO1131.out (fun _ hk => hk.2)⟩, ⟨by (with_reducible repeat (first | apply Kd.R_alloc | apply Kd.R_drewN | apply Kd.R_drew)); exact Kd.R_mono HO1134.out (fun _ hk => hk.2)⟩, ⟨by repeat (first | (with_reducible first | exact HB.out | apply below_alloc | apply pw_below_drewN | apply below_drew1) | exact HB.out)⟩⟩
        · rw [if_neg c24] at H
          have c24b0 : (t1135.toList == t1127.toList) = false := beq_eq_false_iff_ne.mpr c24
          have c24b1 : (t1135.toList != t1127.toList) = true := bne_iff_ne.mpr c24
          (first | rw [c24b0] | (simp only [i64_w, i32_w]; rw [c24b0]) | skip)
          have H' := Aside0.mk H
          clear H
          go_wp2
          go_meet
          case rel => exact ⟨_, (true), (by first | rfl | (simp; done) | (simp [*]; done)), H', ⟨by first | omega | exact Nat.le_refl _⟩, ⟨by (with_reducible repeat (first | apply Kd.R_alloc | apply Kd.R_drewN | apply Kd.R_drew)); exact Kd.R_mono HO1131.out (fun _ hk => hk.2)⟩, ⟨by (with_reducible repeat (first | apply Kd.R_alloc | apply Kd.R_drewN | apply Kd.R_drew)); exact Kd.R_mono HO1134.out (fun _ hk => hk.2)⟩, ⟨by repeat (first | (with_reducible first | exact HB.out | apply below_alloc | apply pw_below_drewN | apply below_drew1) | exact HB.out)⟩⟩
      case rest =>
        clear HC13
        try clear c1
        try clear c2
        try clear p2
        try clear c4
        try clear c5
        try clear c5b0
        try clear c5b1
        try clear c6
        try clear c6b0
        try clear c6b1
        try clear c14
        try clear c16
        try clear c24
        try clear c24b0
        try clear c24b1
        obtain ⟨kq, x50_12, rfl, HA, HJ12, HO_11, HO_12, HB⟩ := hcut
        cases kq with
        | zero => exact absurd HA.out (by simp [laws_FnExactEditPath.j0])
        | succ kj12 =>
          have H := HA.out
          clear HA
          simp only [laws_FnExactEditPath.j0] at H
          by_cases c25 : x50_12 = true
          · subst c25
            have H1 : (some false) = some r := by rw [if_pos rfl] at H; exact H
            clear H
            have H := H1
            clear H1
            exact absurd ((Option.some.inj H).trans HT.out) (by decide)
          · replace c25 := Bool.eq_false_iff.mpr c25
            subst c25
            have H1 : ((laws_toInt64S.f kj12 l0).bind fun t1137 => ((laws_eqInt64S.f kj12 t1129 t1137).bind fun t1140 => (if t1140 = true then ((laws_toInt64S.f kj12 l1).bind fun t1141 => ((laws_eqInt64S.f kj12 t1132 t1141).bind fun t1144 => (if t1144 = true then (some true) else (some false)))) else (some false)))) = some r := by rw [if_neg (show ¬ (false = true) by decide)] at H; exact H
            clear H
            have H := H1
            clear H1
            replace H := Option.bind_eq_some_iff.mp H
            obtain ⟨t1137, A260, H⟩ := H
            replace H : ((laws_eqInt64S.f kj12 t1129 t1137).bind fun t1140 => (if t1140 = true then ((laws_toInt64S.f kj12 l1).bind fun t1141 => ((laws_eqInt64S.f kj12 t1132 t1141).bind fun t1144 => (if t1144 = true then (some true) else (some false)))) else (some false))) = some r := H
            have A26 := Aside0.mk A260
            clear A260
            replace H := Option.bind_eq_some_iff.mp H
            obtain ⟨t1140, A270, H⟩ := H
            replace H : (if t1140 = true then ((laws_toInt64S.f kj12 l1).bind fun t1141 => ((laws_eqInt64S.f kj12 t1132 t1141).bind fun t1144 => (if t1144 = true then (some true) else (some false)))) else (some false)) = some r := H
            have A27 := Aside0.mk A270
            clear A270
            by_cases c28 : t1140 = true
            · subst c28
              have H1 : ((laws_toInt64S.f kj12 l1).bind fun t1141 => ((laws_eqInt64S.f kj12 t1132 t1141).bind fun t1144 => (if t1144 = true then (some true) else (some false)))) = some r := by rw [if_pos rfl] at H; exact H
              clear H
              have H := H1
              clear H1
              replace H := Option.bind_eq_some_iff.mp H
              obtain ⟨t1141, A290, H⟩ := H
              replace H : ((laws_eqInt64S.f kj12 t1132 t1141).bind fun t1144 => (if t1144 = true then (some true) else (some false))) = some r := H
              have A29 := Aside0.mk A290
              clear A290
              replace H := Option.bind_eq_some_iff.mp H
              obtain ⟨t1144, A300, H⟩ := H
              replace H : (if t1144 = true then (some true) else (some false)) = some r := H
              have A30 := Aside0.mk A300
              clear A300
              by_cases c31 : t1144 = true
              · subst c31
                have H1 : (some true) = some r := by rw [if_pos rfl] at H; exact H
                clear H
                have H := H1
                clear H1
                obtain rfl := Option.some.inj H
                go_wp2_with (first | ((with_reducible refine gate_callee (f := 16) rfl ?_); refine goesL_ (some 53) rfl rfl Try.func16 (by kernel_rfl) rfl #[.slice A0 l0.length c0] rfl (by (try simp only [List.map_toArray, List.map_cons, List.map_nil]); first | done | rfl | (simp only [List.length_drop, List.length_take]; rfl)) ?_; (with_reducible refine (laws_toInt64S.calls kj12 _ _ l0 t1137 _ ?side1 ?side2 A26.out).mono ?_); (case side1 => repeat (first | exact (Kd.C_below HR0.out HB.out) | (with_reducible refine Kd.C_alloc ?_ _) | (with_reducible refine Kd.C_drewN ?_ _) | (with_reducible refine Kd.C_drew ?_))); (case side2 => exact HC0.out); rintro e w32 ⟨v1138, rfl, ho0, hb⟩; refine ⟨_, rfl, ?_⟩; have n0_ := Aside0.mk (Kd.R_elder' (by (with_reducible repeat (first | apply Kd.R_alloc | apply Kd.R_drewN | apply Kd.R_drew)); exact HO_11.out) (Kd.R_base ho0) hb); have n1_ := Aside0.mk (Kd.R_elder' (by (with_reducible repeat (first | apply Kd.R_alloc | apply Kd.R_drewN | apply Kd.R_drew)); exact HO_12.out) (Kd.R_base ho0) hb); have n2_ := Aside0.mk (Kd.R_lower (Kd.R_new' (Kd.R_new' ho0 (Kd.R_lt (by (with_reducible repeat (first | apply Kd.R_alloc | apply Kd.R_drewN | apply Kd.R_drew)); exact HO_11.out))) (Kd.R_lt (by (with_reducible repeat (first | apply Kd.R_alloc | apply Kd.R_drewN | apply Kd.R_drew)); exact HO_12.out))) (below_size (by repeat (first | (with_reducible first | exact HB.out | apply below_alloc | apply pw_below_drewN | apply below_drew1) | exact HB.out)))); have n3_ := Aside0.mk (below_step (by repeat (first | (with_reducible first | exact HB.out | apply below_alloc | apply pw_below_drewN | apply below_drew1) | exact HB.out)) hb); clear HO_11; clear HO_12; clear HB; have HO_11 := n0_; have HO_12 := n1_; have HO1139 := n2_; have HB := n3_; clear n0_ n1_ n2_ n3_; (try clear hb); (try clear hb2); (try clear hk); (try clear hi); (try clear ho0); obtain ⟨Ao33, co33, eo33⟩ := Kd.R_slice HO1139.out; subst eo33) | ((with_reducible refine gate_callee (f := 18) rfl ?_); refine goesL_ (some 54) rfl rfl Try.func18 (by kernel_rfl) rfl #[.slice Ao21 t1129.length co21, .slice Ao33 t1137.length co33] rfl (by (try simp only [List.map_toArray, List.map_cons, List.map_nil]); first | done | rfl | (simp only [List.length_drop, List.length_take]; rfl)) ?_; (with_reducible refine (laws_eqInt64S.calls kj12 _ _ t1129 _ _ t1137 true _ ?side1 ?side2 ?side3 ?side4 A27.out).mono ?_); (case side1 => repeat (first | exact (Kd.R_reads' HO_11.out).2.2 | (with_reducible refine Kd.C_alloc ?_ _) | (with_reducible refine Kd.C_drewN ?_ _) | (with_reducible refine Kd.C_drew ?_))); (case side2 => exact (Kd.R_reads' HO_11.out).2.1); (case side3 => repeat (first | exact (Kd.R_reads' HO1139.out).2.2 | (with_reducible refine Kd.C_alloc ?_ _) | (with_reducible refine Kd.C_drewN ?_ _) | (with_reducible refine Kd.C_drew ?_))); (case side4 => exact (Kd.R_reads' HO1139.out).2.1); rintro e w' ⟨rfl, ⟨nd, rfl⟩⟩; refine ⟨_, rfl, ?_⟩) | ((with_reducible refine gate_callee (f := 16) rfl ?_); refine goesL_ (some 58) rfl rfl Try.func16 (by kernel_rfl) rfl #[.slice A1 l1.length c1] rfl (by (try simp only [List.map_toArray, List.map_cons, List.map_nil]); first | done | rfl | (simp only [List.length_drop, List.length_take]; rfl)) ?_; (with_reducible refine (laws_toInt64S.calls kj12 _ _ l1 t1141 _ ?side1 ?side2 A29.out).mono ?_); (case side1 => repeat (first | exact (Kd.C_below HR1.out (by repeat (first | (with_reducible first | exact HB.out | apply below_alloc | apply pw_below_drewN | apply below_drew1) | exact HB.out))) | (with_reducible refine Kd.C_alloc ?_ _) | (with_reducible refine Kd.C_drewN ?_ _) | (with_reducible refine Kd.C_drew ?_))); (case side2 => exact HC1.out); rintro e w34 ⟨v1142, rfl, ho0, hb⟩; refine ⟨_, rfl, ?_⟩; have n0_ := Aside0.mk (Kd.R_elder' (by (with_reducible repeat (first | apply Kd.R_alloc | apply Kd.R_drewN | apply Kd.R_drew)); exact HO_11.out) (Kd.R_base ho0) hb); have n1_ := Aside0.mk (Kd.R_elder' (by (with_reducible repeat (first | apply Kd.R_alloc | apply Kd.R_drewN | apply Kd.R_drew)); exact HO_12.out) (Kd.R_base ho0) hb); have n2_ := Aside0.mk (Kd.R_elder' (by (with_reducible repeat (first | apply Kd.R_alloc | apply Kd.R_drewN | apply Kd.R_drew)); exact HO1139.out) (Kd.R_base ho0) hb); have n3_ := Aside0.mk (Kd.R_lower (Kd.R_new' (Kd.R_new' (Kd.R_new' ho0 (Kd.R_lt (by (with_reducible repeat (first | apply Kd.R_alloc | apply Kd.R_drewN | apply Kd.R_drew)); exact HO_11.out))) (Kd.R_lt (by (with_reducible repeat (first | apply Kd.R_alloc | apply Kd.R_drewN | apply Kd.R_drew)); exact HO_12.out))) (Kd.R_lt (by (with_reducible repeat (first | apply Kd.R_alloc | apply Kd.R_drewN | apply Kd.R_drew)); exact HO1139.out))) (below_size (by repeat (first | (with_reducible first | exact HB.out | apply below_alloc | apply pw_below_drewN | apply below_drew1) | exact HB.out)))); have n4_ := Aside0.mk (below_step (by repeat (first | (with_reducible first | exact HB.out | apply below_alloc | apply pw_below_drewN | apply below_drew1) | exact HB.out)) hb); clear HO_11; clear HO_12; clear HO1139; clear HB; have HO_11 := n0_; have HO_12 := n1_; have HO1139 := n2_; have HO1143 := n3_; have HB := n4_; clear n0_ n1_ n2_ n3_ n4_; (try clear hb); (try clear hb2); (try clear hk); (try clear hi); (try clear ho0); obtain ⟨Ao35, co35, eo35⟩ := Kd.R_slice HO1143.out; subst eo35) | ((with_reducible refine gate_callee (f := 18) rfl ?_); refine goesL_ (some 59) rfl rfl Try.func18 (by kernel_rfl) rfl #[.slice Ao22 t1132.length co22, .slice Ao35 t1141.length co35] rfl (by (try simp only [List.map_toArray, List.map_cons, List.map_nil]); first | done | rfl | (simp only [List.length_drop, List.length_take]; rfl)) ?_; (with_reducible refine (laws_eqInt64S.calls kj12 _ _ t1132 _ _ t1141 true _ ?side1 ?side2 ?side3 ?side4 A30.out).mono ?_); (case side1 => repeat (first | exact (Kd.R_reads' HO_12.out).2.2 | (with_reducible refine Kd.C_alloc ?_ _) | (with_reducible refine Kd.C_drewN ?_ _) | (with_reducible refine Kd.C_drew ?_))); (case side2 => exact (Kd.R_reads' HO_12.out).2.1); (case side3 => repeat (first | exact (Kd.R_reads' HO1143.out).2.2 | (with_reducible refine Kd.C_alloc ?_ _) | (with_reducible refine Kd.C_drewN ?_ _) | (with_reducible refine Kd.C_drew ?_))); (case side4 => exact (Kd.R_reads' HO1143.out).2.1); rintro e w' ⟨rfl, ⟨nd, rfl⟩⟩; refine ⟨_, rfl, ?_⟩))
                go_ret
                exact ⟨by first | rfl | (simp [errW_none, errW_some] <;> rfl) | (simp [*, errW_none, errW_some] <;> rfl), by repeat (first | (with_reducible first | exact HB.out | apply below_alloc | apply pw_below_drewN | apply below_drew1) | exact HB.out)⟩
              · replace c31 := Bool.eq_false_iff.mpr c31
                subst c31
                have H1 : (some false) = some r := by rw [if_neg (show ¬ (false = true) by decide)] at H; exact H
                clear H
                have H := H1
                clear H1
                exact absurd ((Option.some.inj H).trans HT.out) (by decide)
            · replace c28 := Bool.eq_false_iff.mpr c28
              subst c28
              have H1 : (some false) = some r := by rw [if_neg (show ¬ (false = true) by decide)] at H; exact H
              clear H
              have H := H1
              clear H1
              exact absurd ((Option.some.inj H).trans HT.out) (by decide)

/-- THE ONE PURE STATEMENT of laws_FnExactEditPath. -/
def laws_FnExactEditPath.Pure : Prop := ∀ (l0 : List Int) (l1 : List Int) (a2 : Int) (a3 : Int), (l0.length ≤ maxLen ∧ ∀ y0 ∈ l0, (Lit.int .i64 y0).wf = true) → (l1.length ≤ maxLen ∧ ∀ y0 ∈ l1, (Lit.int .i64 y0).wf = true) → (Lit.int .i64 a2).wf = true → (Lit.int .i64 a3).wf = true → ∃ k, laws_FnExactEditPath.f k l0 l1 a2 a3 = some true
theorem laws_FnExactEditPath.walk (P : laws_FnExactEditPath.Pure) (A0 : Option Addr) (c0 : Nat) (l0 : List Int) (A1 : Option Addr) (c1 : Nat) (l1 : List Int) (a2 : Int) (a3 : Int) (w : World) (hr0 : Kd.C (Kd.int .i64) w A0 l0.length l0) (hc0 : l0.length ≤ c0) (hr1 : Kd.C (Kd.int .i64) w A1 l1.length l1) (hc1 : l1.length ≤ c1) (w0 : (l0.length ≤ maxLen ∧ ∀ y0 ∈ l0, (Lit.int .i64 y0).wf = true)) (w1 : (l1.length ≤ maxLen ∧ ∀ y0 ∈ l1, (Lit.int .i64 y0).wf = true)) (w2 : (Lit.int .i64 a2).wf = true) (w3 : (Lit.int .i64 a3).wf = true) :
    Calls Try.prog 14 #[.slice A0 l0.length c0, .slice A1 l1.length c1, .int .i64 a2, .int .i64 a3] w fun e w' => e = .returned (.bool true) ∧ Below w.heap.size w w' := by
  obtain ⟨k, h⟩ := P l0 l1 a2 a3 w0 w1 w2 w3
  refine (laws_FnExactEditPath.calls k _ _ l0 _ _ l1 a2 a3 true w hr0 hc0 hr1 hc1 rfl h).mono ?_
  rintro e w' ⟨rfl, hd⟩
  exact ⟨rfl, hd⟩

end Go.Proofs.Ytddhommmokdlnaa.P
end

section
namespace Go.Proofs.Ytddhommmokdlnaa.Pure
open Go.RowKit Go.Proofs.Ytddhommmokdlnaa.P Go.Proofs.YtddhommmokdlnaaW.PrintWords Go.Proofs.YtddhommmokdlnaaW.PrintLast Go.Proofs.YtddhommmokdlnaaW.PrintMore
set_option linter.unusedVariables false
set_option linter.unusedSimpArgs false

def ec1 (a b : List Int) (T : List (List Int)) (i j : Nat) : Prop := i < a.length ∧ j < b.length ∧ rd a i = rd b j ∧ rd (rd_L1 T ((i : Int) + 1)) ((j : Int) + 1) = rd (rd_L1 T i) j
def ec2 (a b : List Int) (ch : Int) (T : List (List Int)) (i j : Nat) : Prop := i < a.length ∧ j < b.length ∧ rd a i ≠ rd b j ∧ wrap64 (rd (rd_L1 T ((i : Int) + 1)) ((j : Int) + 1) + ch) = rd (rd_L1 T i) j
def ec3 (a : List Int) (g : Int) (T : List (List Int)) (i j : Nat) : Prop := i < a.length ∧ wrap64 (rd (rd_L1 T ((i : Int) + 1)) j + g) = rd (rd_L1 T i) j
instance (a b : List Int) (T : List (List Int)) (i j : Nat) : Decidable (ec1 a b T i j) := by unfold ec1; infer_instance
instance (a b : List Int) (ch : Int) (T : List (List Int)) (i j : Nat) : Decidable (ec2 a b ch T i j) := by unfold ec2; infer_instance
instance (a : List Int) (g : Int) (T : List (List Int)) (i j : Nat) : Decidable (ec3 a g T i j) := by unfold ec3; infer_instance
def enext (a b : List Int) (ch g : Int) (T : List (List Int)) (i j : Nat) : Int × Nat × Nat :=
  if ec1 a b T i j then (61, i + 1, j + 1) else if ec2 a b ch T i j then (120, i + 1, j + 1) else if ec3 a g T i j then (45, i + 1, j) else (43, i, j + 1)
theorem spec_EditPath_step (a b : List Int) (ch g : Int) (T : List (List Int)) (ha : a.length ≤ 64) (hb : b.length ≤ 64) (hT : T.length = a.length + 1) (hr : ∀ j : Int, 0 ≤ j → j ≤ a.length → (rd_L1 T j).length = b.length + 1) (s : ByteArray) (hs : s.size ≤ 1000) (i j : Nat) (hi : i ≤ a.length) (hj : j ≤ b.length) (hne : i < a.length ∨ j < b.length) (r : ByteArray × Int) (h : Ev (fun k => spec_EditPath.l0 k a b ch g T (s ++ strOfNums [(enext a b ch g T i j).1]) ((enext a b ch g T i j).2.1 : Nat) ((enext a b ch g T i j).2.2 : Nat)) r) : Ev (fun k => spec_EditPath.l0 k a b ch g T s i j) r := by
  have e1 : wrap64 ((i : Int) + 1) = (i : Int) + 1 := w64 (by omega) (by omega)
  have e2 : wrap64 ((j : Int) + 1) = (j : Int) + 1 := w64 (by omega) (by omega)
  have r0 := hr i (by omega) (by omega)
  have r1 : i < a.length → (rd_L1 T ((i : Int) + 1)).length = b.length + 1 := fun q => hr _ (by omega) (by omega)
  have j3 : ¬ ec1 a b T i j → ∀ x, (x = true ↔ ec2 a b ch T i j) → Ev (fun k => spec_EditPath.j3 k a b ch g T s i j (rd (rd_L1 T i) j) x) r := by
    intro n1 x hx
    rw [enext, if_neg n1] at h
    refine Ev.succ ?_
    simp only [spec_EditPath.j3, e1, e2]
    by_cases c2 : ec2 a b ch T i j
    · rw [if_pos c2] at h
      exact Ev.ite_pos (hx.2 c2) (Ev.ite_pos (by omega) h)
    rw [if_neg c2] at h
    refine Ev.ite_neg (fun q => c2 (hx.1 q)) ?_
    by_cases hi' : i < a.length
    · have r2 := r1 hi'
      refine Ev.ite_pos (by omega) (Ev.ite_pos (by omega) (Ev.ite_pos (by omega) (Ev.ite_pos (by omega) (Ev.ite_pos (by omega) ?_))))
      by_cases q : wrap64 (rd (rd_L1 T ((i : Int) + 1)) j + g) = rd (rd_L1 T i) j
      · rw [if_pos ⟨hi', q⟩] at h
        exact Ev.ite_pos q (Ev.ite_pos (by omega) h)
      · rw [if_neg (fun z => q z.2)] at h
        exact Ev.ite_neg q (Ev.ite_pos (by omega) h)
    · rw [if_neg (fun z => hi' z.1)] at h
      exact Ev.ite_neg (by omega) (Ev.ite_pos (by omega) h)
  have j2 : ∀ x, (x = true ↔ ec1 a b T i j) → Ev (fun k => spec_EditPath.j2 k a b ch g T s i j (rd (rd_L1 T i) j) x) r := by
    intro x hx
    refine Ev.succ ?_
    simp only [spec_EditPath.j2, e1, e2]
    by_cases c1 : ec1 a b T i j
    · rw [enext, if_pos c1] at h
      exact Ev.ite_pos (hx.2 c1) (Ev.ite_pos (by omega) h)
    refine Ev.ite_neg (fun q => c1 (hx.1 q)) ?_
    by_cases hi' : i < a.length
    · have r2 := r1 hi'
      refine Ev.ite_pos (by omega) ?_
      by_cases hj' : j < b.length
      · refine Ev.ite_pos (by omega) (Ev.ite_pos (by omega) (Ev.ite_pos (by omega) ?_))
        by_cases hq : rd a i = rd b j
        · exact Ev.ite_pos hq (j3 c1 _ ⟨fun z => by simp at z, fun z => absurd hq z.2.2.1⟩)
        · refine Ev.ite_neg hq (Ev.ite_pos (by omega) (Ev.ite_pos (by omega) (Ev.ite_pos (by omega) (Ev.ite_pos (by omega) ?_))))
          refine j3 c1 _ ⟨fun z => ⟨hi', hj', hq, by simpa using z⟩, fun z => by simpa using z.2.2.2⟩
      · exact Ev.ite_neg (by omega) (j3 c1 _ ⟨fun z => by simp at z, fun z => absurd z.2.1 hj'⟩)
    · exact Ev.ite_neg (by omega) (j3 c1 _ ⟨fun z => by simp at z, fun z => absurd z.1 hi'⟩)
  have j1 : Ev (fun k => spec_EditPath.j1 k a b ch g T s i j true) r := by
    refine Ev.succ ?_
    simp only [spec_EditPath.j1, e1, e2]
    refine Ev.ite_pos trivial (Ev.ite_pos (by omega) (Ev.ite_pos (by omega) (Ev.ite_pos (by omega) (Ev.ite_pos (by omega) ?_))))
    by_cases hi' : i < a.length
    · have r2 := r1 hi'
      refine Ev.ite_pos (by omega) ?_
      by_cases hj' : j < b.length
      · refine Ev.ite_pos (by omega) ?_
        by_cases hq : rd a i = rd b j
        · refine Ev.ite_pos hq (Ev.ite_pos (by omega) (Ev.ite_pos (by omega) (Ev.ite_pos (by omega) (Ev.ite_pos (by omega) ?_))))
          exact j2 _ ⟨fun z => ⟨hi', hj', hq, by simpa using z⟩, fun z => by simpa using z.2.2.2⟩
        · exact Ev.ite_neg hq (j2 _ ⟨fun z => by simp at z, fun z => absurd z.2.2.1 hq⟩)
      · exact Ev.ite_neg (by omega) (j2 _ ⟨fun z => by simp at z, fun z => absurd z.2.1 hj'⟩)
    · exact Ev.ite_neg (by omega) (j2 _ ⟨fun z => by simp at z, fun z => absurd z.1 hi'⟩)
  refine Ev.succ ?_
  simp only [spec_EditPath.l0]
  by_cases hi' : i < a.length
  · exact Ev.ite_pos (by omega) j1
  · refine Ev.ite_neg (by omega) ?_
    have : decide ((j : Int) < b.length) = true := decide_eq_true (by omega)
    rw [this]
    exact j1
theorem impl_EditPath_step (a b : List Int) (ch g : Int) (T : List (List Int)) (ha : a.length ≤ 64) (hb : b.length ≤ 64) (hT : T.length = a.length + 1) (hr : ∀ j : Int, 0 ≤ j → j ≤ a.length → (rd_L1 T j).length = b.length + 1) (s : List Int) (hs : s.length ≤ 1000) (i j : Nat) (hi : i ≤ a.length) (hj : j ≤ b.length) (hne : i < a.length ∨ j < b.length) (r : ByteArray × Int) (h : Ev (fun k => impl_EditPath.l0 k a b ch g T (s ++ [(enext a b ch g T i j).1]) ((enext a b ch g T i j).2.1 : Nat) ((enext a b ch g T i j).2.2 : Nat)) r) : Ev (fun k => impl_EditPath.l0 k a b ch g T s i j) r := by
  have e1 : wrap64 ((i : Int) + 1) = (i : Int) + 1 := w64 (by omega) (by omega)
  have e2 : wrap64 ((j : Int) + 1) = (j : Int) + 1 := w64 (by omega) (by omega)
  have r0 := hr i (by omega) (by omega)
  have r1 : i < a.length → (rd_L1 T ((i : Int) + 1)).length = b.length + 1 := fun q => hr _ (by omega) (by omega)
  have j4 : ¬ ec1 a b T i j → ∀ x, (x = true ↔ ec2 a b ch T i j) → Ev (fun k => impl_EditPath.j4 k a b ch g T s i j (rd (rd_L1 T i) j) x) r := by
    intro n1 x hx
    rw [enext, if_neg n1] at h
    refine Ev.succ ?_
    simp only [impl_EditPath.j4, e1, e2, Int.add_comm g]
    by_cases c2 : ec2 a b ch T i j
    · rw [if_pos c2] at h
      exact Ev.ite_pos (hx.2 c2) (Ev.ite_pos (by omega) h)
    rw [if_neg c2] at h
    refine Ev.ite_neg (fun q => c2 (hx.1 q)) ?_
    by_cases hi' : i < a.length
    · have r2 := r1 hi'
      refine Ev.ite_pos (by omega) (Ev.ite_pos (by omega) (Ev.ite_pos (by omega) (Ev.ite_pos (by omega) (Ev.ite_pos (by omega) ?_))))
      by_cases q : wrap64 (rd (rd_L1 T ((i : Int) + 1)) j + g) = rd (rd_L1 T i) j
      · rw [if_pos ⟨hi', q⟩] at h
        exact Ev.ite_pos q (Ev.ite_pos (by omega) h)
      · rw [if_neg (fun z => q z.2)] at h
        exact Ev.ite_neg q (Ev.ite_pos (by omega) h)
    · rw [if_neg (fun z => hi' z.1)] at h
      exact Ev.ite_neg (by omega) (Ev.ite_pos (by omega) h)
  have j3 : ∀ y, (y = true ↔ i < a.length ∧ j < b.length) → ∀ x, (x = true ↔ ec1 a b T i j) → Ev (fun k => impl_EditPath.j3 k a b ch g T s i j (rd (rd_L1 T i) j) y x) r := by
    intro y hy x hx
    refine Ev.succ ?_
    simp only [impl_EditPath.j3, e1, e2, Int.add_comm ch]
    by_cases c1 : ec1 a b T i j
    · rw [enext, if_pos c1] at h
      exact Ev.ite_pos (hx.2 c1) (Ev.ite_pos (by omega) h)
    refine Ev.ite_neg (fun q => c1 (hx.1 q)) ?_
    by_cases hij : i < a.length ∧ j < b.length
    · obtain ⟨hi', hj'⟩ := hij
      have r2 := r1 hi'
      refine Ev.ite_pos (hy.2 ⟨hi', hj'⟩) (Ev.ite_pos (by omega) (Ev.ite_pos (by omega) (Ev.ite_pos (by omega) (Ev.ite_pos (by omega) ?_))))
      by_cases hq : rd a i = rd b j
      · exact Ev.ite_pos hq (j4 c1 _ ⟨fun z => by simp at z, fun z => absurd hq z.2.2.1⟩)
      · refine Ev.ite_neg hq (Ev.ite_pos (by omega) (Ev.ite_pos (by omega) (Ev.ite_pos (by omega) (Ev.ite_pos (by omega) ?_))))
        refine j4 c1 _ ⟨fun z => ⟨hi', hj', hq, by simpa using z⟩, fun z => by simpa using z.2.2.2⟩
    · exact Ev.ite_neg (fun q => hij (hy.1 q)) (j4 c1 _ ⟨fun z => by simp at z, fun z => absurd ⟨z.1, z.2.1⟩ hij⟩)
  have j2 : ∀ y, (y = true ↔ i < a.length ∧ j < b.length) → Ev (fun k => impl_EditPath.j2 k a b ch g T s i j (rd (rd_L1 T i) j) y) r := by
    intro y hy
    refine Ev.succ ?_
    simp only [impl_EditPath.j2, e1, e2]
    by_cases hij : i < a.length ∧ j < b.length
    · obtain ⟨hi', hj'⟩ := hij
      have r2 := r1 hi'
      refine Ev.ite_pos (hy.2 ⟨hi', hj'⟩) (Ev.ite_pos (by omega) (Ev.ite_pos (by omega) (Ev.ite_pos (by omega) (Ev.ite_pos (by omega) ?_))))
      by_cases hq : rd a i = rd b j
      · refine Ev.ite_pos hq (Ev.ite_pos (by omega) (Ev.ite_pos (by omega) (Ev.ite_pos (by omega) (Ev.ite_pos (by omega) ?_))))
        exact j3 y hy _ ⟨fun z => ⟨hi', hj', hq, by simpa using z⟩, fun z => by simpa using z.2.2.2⟩
      · exact Ev.ite_neg hq (j3 y hy _ ⟨fun z => by simp at z, fun z => absurd z.2.2.1 hq⟩)
    · exact Ev.ite_neg (fun q => hij (hy.1 q)) (j3 y hy _ ⟨fun z => by simp at z, fun z => absurd ⟨z.1, z.2.1⟩ hij⟩)
  have j1 : Ev (fun k => impl_EditPath.j1 k a b ch g T s i j true) r := by
    refine Ev.succ ?_
    simp only [impl_EditPath.j1]
    refine Ev.ite_pos trivial (Ev.ite_pos (by omega) (Ev.ite_pos (by omega) (Ev.ite_pos (by omega) (Ev.ite_pos (by omega) ?_))))
    by_cases hi' : i < a.length
    · refine Ev.ite_pos (by omega) (j2 _ ⟨fun z => ⟨hi', by simpa using z⟩, fun z => by simpa using z.2⟩)
    · exact Ev.ite_neg (by omega) (j2 _ ⟨fun z => by simp at z, fun z => absurd z.1 hi'⟩)
  refine Ev.succ ?_
  simp only [impl_EditPath.l0]
  by_cases hi' : i < a.length
  · exact Ev.ite_pos (by omega) j1
  · refine Ev.ite_neg (by omega) ?_
    have : decide ((j : Int) < b.length) = true := decide_eq_true (by omega)
    rw [this]
    exact j1
theorem strOfNums_snoc (s : List Int) (c : Int) : strOfNums (s ++ [c]) = strOfNums s ++ strOfNums [c] := by
  apply ByteArray.ext
  apply Array.ext'
  simp [strOfNums]
theorem editPath_run (a b : List Int) (ch g : Int) (T : List (List Int)) (ha : a.length ≤ 64) (hb : b.length ≤ 64) (hT : T.length = a.length + 1) (hr : ∀ j : Int, 0 ≤ j → j ≤ a.length → (rd_L1 T j).length = b.length + 1) (hl : ∀ i : Nat, i < a.length → wrap64 (rd (rd_L1 T ((i : Int) + 1)) b.length + g) = rd (rd_L1 T i) b.length) : ∀ (d i j : Nat) (s : List Int), i ≤ a.length → j ≤ b.length → (a.length - i) + (b.length - j) ≤ d → s.length + d ≤ 1000 → ∃ r, Ev (fun k => spec_EditPath.l0 k a b ch g T (strOfNums s) i j) r ∧ Ev (fun k => impl_EditPath.l0 k a b ch g T s i j) r := by
  intro d
  induction d with
  | zero =>
    intro i j s hi hj hd hs
    refine ⟨(strOfNums s, 0), ?_, ?_⟩
    · refine Ev.succ ?_
      simp only [spec_EditPath.l0]
      refine Ev.ite_neg (by omega) ?_
      have : decide ((j : Int) < b.length) = false := decide_eq_false (by omega)
      rw [this]
      refine Ev.succ ?_
      simp only [spec_EditPath.j1]
      exact Ev.ite_neg (by decide) (Ev.now _)
    · refine Ev.succ ?_
      simp only [impl_EditPath.l0]
      refine Ev.ite_neg (by omega) ?_
      have : decide ((j : Int) < b.length) = false := decide_eq_false (by omega)
      rw [this]
      refine Ev.succ ?_
      simp only [impl_EditPath.j1]
      exact Ev.ite_neg (by decide) (Ev.now _)
  | succ d ih =>
    intro i j s hi hj hd hs
    by_cases hne : i < a.length ∨ j < b.length
    · have hn : (enext a b ch g T i j).2.1 ≤ a.length ∧ (enext a b ch g T i j).2.2 ≤ b.length ∧ (a.length - (enext a b ch g T i j).2.1) + (b.length - (enext a b ch g T i j).2.2) ≤ d := by
        unfold enext
        by_cases c1 : ec1 a b T i j
        · rw [if_pos c1]
          have := c1.1
          have := c1.2.1
          simp only
          omega
        rw [if_neg c1]
        by_cases c2 : ec2 a b ch T i j
        · rw [if_pos c2]
          have := c2.1
          have := c2.2.1
          simp only
          omega
        rw [if_neg c2]
        by_cases c3 : ec3 a g T i j
        · rw [if_pos c3]
          have := c3.1
          simp only
          omega
        rw [if_neg c3]
        have hj' : j < b.length := by
          by_cases q : j < b.length
          · exact q
          · have e : j = b.length := by omega
            subst e
            exact absurd ⟨by omega, hl i (by omega)⟩ c3
        simp only
        omega
      obtain ⟨h1, h2, h3⟩ := hn
      obtain ⟨r, es, ei⟩ := ih (enext a b ch g T i j).2.1 (enext a b ch g T i j).2.2 (s ++ [(enext a b ch g T i j).1]) h1 h2 h3 (by simp; omega)
      rw [strOfNums_snoc] at es
      exact ⟨r, spec_EditPath_step a b ch g T ha hb hT hr _ (by rw [strOfNums_size]; omega) i j hi hj hne r es, impl_EditPath_step a b ch g T ha hb hT hr _ (by omega) i j hi hj hne r ei⟩
    · exact ih i j s hi hj (by omega) (by omega)
theorem bothEditPath (a b : List Int) (ch g : Int) (ha : a.length ≤ 1048576) (hb : b.length ≤ 1048576) : ∃ r, Ev (fun k => spec_EditPath.f k a b ch g) r ∧ Ev (fun k => impl_EditPath.f k a b ch g) r := by
  by_cases h : ecode a b ch g = 0
  · obtain ⟨la, lb, g0, g100⟩ := ecode_ok h
    obtain ⟨g1, g2⟩ := etab_good a b ch g
    obtain ⟨r, es, ei⟩ := editPath_run a b ch g (etab a b ch g) la lb g1 (fun j h1 h2 => (g2 j (by omega) h2).1) (by
      intro i hi
      have p1 := (g2 i (by omega) (by omega)).2
      have p2 := (g2 ((i : Int) + 1) (by omega) (by omega)).2
      have m1 : g * ((a.length : Int) - i) = g * ((a.length : Int) - (i + 1)) + g := by
        have : (a.length : Int) - i = ((a.length : Int) - (i + 1)) + 1 := by omega
        rw [this, Int.mul_add, Int.mul_one]
      have b1 : 0 ≤ g * ((a.length : Int) - (i + 1)) := Int.mul_nonneg g0 (by omega)
      have b2 : g * ((a.length : Int) - (i + 1)) ≤ 100 * 64 := Int.mul_le_mul g100 (by omega) (by omega) (by omega)
      rw [p1, p2, m1, w64 (x := g * ((a.length : Int) - (i + 1))) (by omega) (by omega)]) (a.length + b.length) 0 0 [] (by omega) (by omega) (by omega) (by simp; omega)
    refine ⟨r, ?_, ?_⟩
    · unfold spec_EditPath.f
      exact Ev.bind (spec_l12Ask_ev a b ch g ha hb) (Ev.ite_pos h (Ev.bind (spec_l12Edit_ev a b ch g la lb) es))
    · unfold impl_EditPath.f
      exact Ev.bind (impl_editCode_ev a b ch g) (Ev.ite_pos h (Ev.bind (impl_editCosts_ev a b ch g la lb) ei))
  · refine ⟨((⟨#[]⟩ : ByteArray), ecode a b ch g), ?_, ?_⟩
    · unfold spec_EditPath.f
      exact Ev.bind (spec_l12Ask_ev a b ch g ha hb) (Ev.ite_neg h (Ev.now _))
    · unfold impl_EditPath.f
      exact Ev.bind (impl_editCode_ev a b ch g) (Ev.ite_neg h (Ev.now _))
theorem FnExactEditPath : laws_FnExactEditPath.Pure := by
  intro a b c g ⟨ha, _⟩ ⟨hb, _⟩ wc wg
  refine Ev.out (r := true) ?_
  unfold laws_FnExactEditPath.f
  by_cases ga : (a.length : Int) > 1048576
  · exact Ev.ite_pos ga (Ev.now _)
  refine Ev.ite_neg ga ?_
  by_cases gb : (b.length : Int) > 1048576
  · exact Ev.ite_pos gb (Ev.now _)
  refine Ev.ite_neg gb ?_
  have ta := toInt64S_ev a (by omega)
  have la : a.length ≤ 1048576 := by omega
  have tb := toInt64S_ev b (by omega)
  have lb : b.length ≤ 1048576 := by omega
  obtain ⟨r, es, ei⟩ := bothEditPath a b c g la lb
  refine Ev.bind ta ?_
  refine Ev.bind tb ?_
  refine Ev.bind es ?_
  refine Ev.bind ta ?_
  refine Ev.bind tb ?_
  refine Ev.bind ei ?_
  refine Ev.ite_pos rfl ?_
  refine Ev.succ ?_
  simp only [laws_FnExactEditPath.j0]
  refine Ev.ite_neg (by simp) ?_
  refine Ev.bind ta ?_
  refine Ev.bind (eqInt64S_self a (by omega)) ?_
  refine Ev.ite_pos rfl ?_
  refine Ev.bind tb ?_
  refine Ev.bind (eqInt64S_self b (by omega)) ?_
  exact Ev.ite_pos rfl (Ev.now _)

end Go.Proofs.Ytddhommmokdlnaa.Pure
end
