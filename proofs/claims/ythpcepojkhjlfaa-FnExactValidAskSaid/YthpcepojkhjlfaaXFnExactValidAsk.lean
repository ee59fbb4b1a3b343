/- The pure statement of FnExactValidAsk. No condition. -/
import Derived.Test.YthpcepojkhjlfaaGq1
import Derived.Test.YthpcepojkhjlfaaGq2
import Derived.Test.YthpcepojkhjlfaaGq4
section
namespace Go.Proofs.Ythpcepojkhjlfaa.P
open Go.RowKit Go.Proofs.YthpcepojkhjlfaaW.PrintWords Go.Proofs.YthpcepojkhjlfaaW.PrintLast Go.Proofs.YthpcepojkhjlfaaW.PrintMore
attribute [local go_sem] max2_int min2_int max_two min_two max_three min_three max_four min_four   -- for this text's walks alone
set_option linter.unusedVariables false
set_option linter.unusedSimpArgs false

/-! ### laws_FnExactValidAsk: function 13 -/
def laws_FnExactValidAsk.f (k : Nat) (a0_0 : Int) (a0_1 : Int) (a0_2 : Int) (a0_3 : Int) (a0_4 : Int) (l0_5 : List (List Int)) (a0_6 : Int) : Option (Bool) := (laws_szAsk.f k a0_0 a0_1 a0_2 a0_3 a0_4 l0_5 a0_6 1048576).bind fun t711 => (if t711 < 0 then (some true) else ((laws_toAsk.f k a0_0 a0_1 a0_2 a0_3 a0_4 l0_5 a0_6).bind fun bt712 => ((spec_ValidAsk.f k bt712.1 bt712.2.1 bt712.2.2.1 bt712.2.2.2.1 bt712.2.2.2.2.1 bt712.2.2.2.2.2.1 bt712.2.2.2.2.2.2).bind fun t721 => ((laws_toAsk.f k a0_0 a0_1 a0_2 a0_3 a0_4 l0_5 a0_6).bind fun bt722 => ((impl_ValidAsk.f k bt722.1 bt722.2.1 bt722.2.2.1 bt722.2.2.2.1 bt722.2.2.2.2.1 bt722.2.2.2.2.2.1 bt722.2.2.2.2.2.2).bind fun t732 => (if (t732 != t721) = true then (some false) else ((laws_toAsk.f k a0_0 a0_1 a0_2 a0_3 a0_4 l0_5 a0_6).bind fun bt733 => ((laws_eqAsk.f k bt722.1 bt722.2.1 bt722.2.2.1 bt722.2.2.2.1 bt722.2.2.2.2.1 bt722.2.2.2.2.2.1 bt722.2.2.2.2.2.2 bt733.1 bt733.2.1 bt733.2.2.1 bt733.2.2.2.1 bt733.2.2.2.2.1 bt733.2.2.2.2.2.1 bt733.2.2.2.2.2.2).bind fun t742 => (if t742 = true then (some true) else (some false))))))))))
theorem laws_FnExactValidAsk.mono : ∀ a0 a1 a2 a3 a4 a5 a6 k, LeO (laws_FnExactValidAsk.f k a0 a1 a2 a3 a4 a5 a6) (laws_FnExactValidAsk.f (k + 1) a0 a1 a2 a3 a4 a5 a6) := by
  intro a0 a1 a2 a3 a4 a5 a6 k
  unfold laws_FnExactValidAsk.f
  repeat' first
      | (with_reducible exact impl_ValidAsk.mono _ _ _ _ _ _ _ _)
      | (with_reducible exact laws_eqAsk.mono _ _ _ _ _ _ _ _ _ _ _ _ _ _ _)
      | (with_reducible exact laws_szAsk.mono _ _ _ _ _ _ _ _ _)
      | (with_reducible exact laws_toAsk.mono _ _ _ _ _ _ _ _)
      | (with_reducible exact spec_ValidAsk.mono _ _ _ _ _ _ _ _)
      | (with_reducible exact LeO.refl _)
      | (with_reducible exact LeO.none _)
      | (with_reducible refine LeO.ite ?_ ?_)
      | (with_reducible refine LeO.bind ?_ (fun _ => ?_))
      | exact impl_ValidAsk.mono _ _ _ _ _ _ _ _
      | exact laws_eqAsk.mono _ _ _ _ _ _ _ _ _ _ _ _ _ _ _
      | exact laws_szAsk.mono _ _ _ _ _ _ _ _ _
      | exact laws_toAsk.mono _ _ _ _ _ _ _ _
      | exact spec_ValidAsk.mono _ _ _ _ _ _ _ _
      | exact LeO.none _
      | refine LeO.ite ?_ ?_
      | refine LeO.bind ?_ (fun _ => ?_)
set_option maxHeartbeats 8000000 in
set_option maxRecDepth 100000 in
theorem laws_FnExactValidAsk.calls (k : Nat) (a0_0 : Int) (a0_1 : Int) (a0_2 : Int) (a0_3 : Int) (a0_4 : Int) (A0_5 : Option Addr) (c0_5 : Nat) (l0_5 : List (List Int)) (a0_6 : Int) (r : Bool) (w : World) (hr0_5 : Kd.C (Kd.slice 2 (Kd.int .i64)) w A0_5 l0_5.length l0_5) (hc0_5 : l0_5.length ≤ c0_5) (hT : r = true) (h : laws_FnExactValidAsk.f k a0_0 a0_1 a0_2 a0_3 a0_4 l0_5 a0_6 = some r) :
    Calls Try.prog 13 #[.agg #[.int .i64 a0_0, .int .i64 a0_1, .int .i64 a0_2, .int .i64 a0_3, .int .i64 a0_4, .slice A0_5 l0_5.length c0_5, .int .i64 a0_6]] w fun e w' => e = .returned (.bool r) ∧ Below w.heap.size w w' := by
  have hu51 := Try.underlying51
  have hu54 := Try.underlying54
  have HR0_5 := Aside0.mk hr0_5
  have HC0_5 := Aside0.mk hc0_5
  clear hr0_5 hc0_5
  have HT := Aside0.mk hT
  clear hT
  have HB := Aside0.mk (Below.refl w.heap.size w)
  have H : ((laws_szAsk.f k a0_0 a0_1 a0_2 a0_3 a0_4 l0_5 a0_6 1048576).bind fun t711 => (if t711 < 0 then (some true) else ((laws_toAsk.f k a0_0 a0_1 a0_2 a0_3 a0_4 l0_5 a0_6).bind fun bt712 => ((spec_ValidAsk.f k bt712.1 bt712.2.1 bt712.2.2.1 bt712.2.2.2.1 bt712.2.2.2.2.1 bt712.2.2.2.2.2.1 bt712.2.2.2.2.2.2).bind fun t721 => ((laws_toAsk.f k a0_0 a0_1 a0_2 a0_3 a0_4 l0_5 a0_6).bind fun bt722 => ((impl_ValidAsk.f k bt722.1 bt722.2.1 bt722.2.2.1 bt722.2.2.2.1 bt722.2.2.2.2.1 bt722.2.2.2.2.2.1 bt722.2.2.2.2.2.2).bind fun t732 => (if (t732 != t721) = true then (some false) else ((laws_toAsk.f k a0_0 a0_1 a0_2 a0_3 a0_4 l0_5 a0_6).bind fun bt733 => ((laws_eqAsk.f k bt722.1 bt722.2.1 bt722.2.2.1 bt722.2.2.2.1 bt722.2.2.2.2.1 bt722.2.2.2.2.2.1 bt722.2.2.2.2.2.2 bt733.1 bt733.2.1 bt733.2.2.1 bt733.2.2.2.1 bt733.2.2.2.2.1 bt733.2.2.2.2.2.1 bt733.2.2.2.2.2.2).bind fun t742 => (if t742 = true then (some true) else (some false))))))))))) = some r := h
  clear h
  replace H := Option.bind_eq_some_iff.mp H
  obtain ⟨t711, A20, H⟩ := H
  replace H : (if t711 < 0 then (some true) else ((laws_toAsk.f k a0_0 a0_1 a0_2 a0_3 a0_4 l0_5 a0_6).bind fun bt712 => ((spec_ValidAsk.f k bt712.1 bt712.2.1 bt712.2.2.1 bt712.2.2.2.1 bt712.2.2.2.2.1 bt712.2.2.2.2.2.1 bt712.2.2.2.2.2.2).bind fun t721 => ((laws_toAsk.f k a0_0 a0_1 a0_2 a0_3 a0_4 l0_5 a0_6).bind fun bt722 => ((impl_ValidAsk.f k bt722.1 bt722.2.1 bt722.2.2.1 bt722.2.2.2.1 bt722.2.2.2.2.1 bt722.2.2.2.2.2.1 bt722.2.2.2.2.2.2).bind fun t732 => (if (t732 != t721) = true then (some false) else ((laws_toAsk.f k a0_0 a0_1 a0_2 a0_3 a0_4 l0_5 a0_6).bind fun bt733 => ((laws_eqAsk.f k bt722.1 bt722.2.1 bt722.2.2.1 bt722.2.2.2.1 bt722.2.2.2.2.1 bt722.2.2.2.2.2.1 bt722.2.2.2.2.2.2 bt733.1 bt733.2.1 bt733.2.2.1 bt733.2.2.2.1 bt733.2.2.2.2.1 bt733.2.2.2.2.2.1 bt733.2.2.2.2.2.2).bind fun t742 => (if t742 = true then (some true) else (some false)))))))))) = some r := H
  have A2 := Aside0.mk A20
  clear A20
  by_cases c3 : t711 < 0
  · rw [if_pos c3] at H
    have c3b0 : decide (t711 < 0) = true := decide_eq_true c3
    clear c3
    obtain rfl := Option.some.inj H
    go_enter Try.func13, Try.ntmps13
    go_wp2_with (first | ((with_reducible refine gate_dst (N := 1) rfl ?_); refine box_event ?hg (N := 1) ?hd (cs := #[.int .i64 a0_0, .int .i64 a0_1, .int .i64 a0_2, .int .i64 a0_3, .int .i64 a0_4, .slice A0_5 l0_5.length c0_5, .int .i64 a0_6]) (t := 51) ?hr ?_; (case hd => rfl); (case hg => rfl); (case hr => first | (go_simp; done) | (go_simp; rfl)); intro gb710 hg w4 hbox hb; have n0_ := Aside0.mk (below_step (by repeat (first | (with_reducible first | exact HB.out | apply below_alloc | apply pw_below_drewN | apply below_drew1) | exact HB.out)) hb); have n1_ := Aside0.mk (hbox); have n2_ := Aside0.mk ((by rw [hg]; exact (below_size (by repeat (first | (with_reducible first | exact HB.out | apply below_alloc | apply pw_below_drewN | apply below_drew1) | exact HB.out))) : w.heap.size ≤ gb710)); have n3_ := Aside0.mk ((by rw [hg]; exact (below_size (by repeat (first | (with_reducible first | exact HB.out | apply below_alloc | apply pw_below_drewN | apply below_drew1) | exact HB.out))) : w.heap.size ≤ gb710)); clear HB; have HB := n0_; have BK710 := n1_; have GW710 := n2_; have GE710 := n3_; clear n0_ n1_ n2_ n3_; clear hb hbox hg; have hcz5_0 : w4.cell? ⟨gb710, 0, none⟩ = some (.int .i64 a0_0) := (blk_cell BK710.out 0).trans rfl; have hcz5_1 : w4.cell? ⟨gb710, 1, none⟩ = some (.int .i64 a0_1) := (blk_cell BK710.out 1).trans rfl; have hcz5_2 : w4.cell? ⟨gb710, 2, none⟩ = some (.int .i64 a0_2) := (blk_cell BK710.out 2).trans rfl; have hcz5_3 : w4.cell? ⟨gb710, 3, none⟩ = some (.int .i64 a0_3) := (blk_cell BK710.out 3).trans rfl; have hcz5_4 : w4.cell? ⟨gb710, 4, none⟩ = some (.int .i64 a0_4) := (blk_cell BK710.out 4).trans rfl; have hcz5_5 : w4.cell? ⟨gb710, 5, none⟩ = some (.slice A0_5 l0_5.length c0_5) := (blk_cell BK710.out 5).trans rfl; have hcz5_6 : w4.cell? ⟨gb710, 6, none⟩ = some (.int .i64 a0_6) := (blk_cell BK710.out 6).trans rfl; have hfz5_0 := blk_frozen BK710.out 0; have hfz5_1 := blk_frozen BK710.out 1; have hfz5_2 := blk_frozen BK710.out 2; have hfz5_3 := blk_frozen BK710.out 3; have hfz5_4 := blk_frozen BK710.out 4; have hfz5_5 := blk_frozen BK710.out 5; have hfz5_6 := blk_frozen BK710.out 6) | ((with_reducible refine gate_callee (f := 43) rfl ?_); refine goesL_ (some 9) rfl rfl Try.func43 (by kernel_rfl) rfl #[.agg #[.int .i64 a0_0, .int .i64 a0_1, .int .i64 a0_2, .int .i64 a0_3, .int .i64 a0_4, .slice A0_5 l0_5.length c0_5, .int .i64 a0_6], .int .i64 1048576] rfl (by (try simp only [List.map_toArray, List.map_cons, List.map_nil]); first | done | rfl | (simp only [List.length_drop, List.length_take]; rfl)) ?_; (with_reducible refine (laws_szAsk.calls k a0_0 a0_1 a0_2 a0_3 a0_4 _ _ l0_5 a0_6 1048576 t711 _ ?side1 ?side2 A2.out).mono ?_); (case side1 => repeat (first | exact (Kd.C_below HR0_5.out HB.out) | (with_reducible refine Kd.C_alloc ?_ _) | (with_reducible refine Kd.C_drewN ?_ _) | (with_reducible refine Kd.C_drew ?_))); (case side2 => exact HC0_5.out); rintro e w6 ⟨rfl, hb⟩; refine ⟨_, rfl, ?_⟩; have n0_ := Aside0.mk (blk_below (g := gb710) (o := .cells #[.int .i64 a0_0, .int .i64 a0_1, .int .i64 a0_2, .int .i64 a0_3, .int .i64 a0_4, .slice A0_5 l0_5.length c0_5, .int .i64 a0_6] 51 (0, 0)) (by (with_reducible repeat (first | refine blk_drewN ?_ _ | refine blk_drew ?_ | refine blk_alloc ?_ _)); exact BK710.out) hb); have n1_ := Aside0.mk (below_step (by repeat (first | (with_reducible first | exact HB.out | apply below_alloc | apply pw_below_drewN | apply below_drew1 | refine below_set ?_ GE710.out) | exact HB.out)) hb); clear BK710; clear HB; have BK710 := n0_; have HB := n1_; clear n0_ n1_; (try clear hb); (try clear hb2); (try clear hk); (try clear hi)))
    go_ret
    exact ⟨by first | rfl | (simp [errW_none, errW_some] <;> rfl) | (simp [*, errW_none, errW_some] <;> rfl), by repeat (first | (with_reducible first | exact HB.out | apply below_alloc | apply pw_below_drewN | apply below_drew1 | refine below_set ?_ GE710.out) | exact HB.out)⟩
  · rw [if_neg c3] at H
    have c3b0 : decide (t711 < 0) = false := decide_eq_false c3
    clear c3
    replace H := Option.bind_eq_some_iff.mp H
    obtain ⟨⟨t712, t713, t714, t715, t716, t717, t720⟩, A70, H⟩ := H
    replace H : ((spec_ValidAsk.f k t712 t713 t714 t715 t716 t717 t720).bind fun t721 => ((laws_toAsk.f k a0_0 a0_1 a0_2 a0_3 a0_4 l0_5 a0_6).bind fun bt722 => ((impl_ValidAsk.f k bt722.1 bt722.2.1 bt722.2.2.1 bt722.2.2.2.1 bt722.2.2.2.2.1 bt722.2.2.2.2.2.1 bt722.2.2.2.2.2.2).bind fun t732 => (if (t732 != t721) = true then (some false) else ((laws_toAsk.f k a0_0 a0_1 a0_2 a0_3 a0_4 l0_5 a0_6).bind fun bt733 => ((laws_eqAsk.f k bt722.1 bt722.2.1 bt722.2.2.1 bt722.2.2.2.1 bt722.2.2.2.2.1 bt722.2.2.2.2.2.1 bt722.2.2.2.2.2.2 bt733.1 bt733.2.1 bt733.2.2.1 bt733.2.2.2.1 bt733.2.2.2.2.1 bt733.2.2.2.2.2.1 bt733.2.2.2.2.2.2).bind fun t742 => (if t742 = true then (some true) else (some false)))))))) = some r := H
    have A7 := Aside0.mk A70
    clear A70
    replace H := Option.bind_eq_some_iff.mp H
    obtain ⟨t721, A80, H⟩ := H
    replace H : ((laws_toAsk.f k a0_0 a0_1 a0_2 a0_3 a0_4 l0_5 a0_6).bind fun bt722 => ((impl_ValidAsk.f k bt722.1 bt722.2.1 bt722.2.2.1 bt722.2.2.2.1 bt722.2.2.2.2.1 bt722.2.2.2.2.2.1 bt722.2.2.2.2.2.2).bind fun t732 => (if (t732 != t721) = true then (some false) else ((laws_toAsk.f k a0_0 a0_1 a0_2 a0_3 a0_4 l0_5 a0_6).bind fun bt733 => ((laws_eqAsk.f k bt722.1 bt722.2.1 bt722.2.2.1 bt722.2.2.2.1 bt722.2.2.2.2.1 bt722.2.2.2.2.2.1 bt722.2.2.2.2.2.2 bt733.1 bt733.2.1 bt733.2.2.1 bt733.2.2.2.1 bt733.2.2.2.2.1 bt733.2.2.2.2.2.1 bt733.2.2.2.2.2.2).bind fun t742 => (if t742 = true then (some true) else (some false))))))) = some r := H
    have A8 := Aside0.mk A80
    clear A80
    replace H := Option.bind_eq_some_iff.mp H
    obtain ⟨⟨t722, t723, t724, t725, t726, t727, t730⟩, A90, H⟩ := H
    replace H : ((impl_ValidAsk.f k t722 t723 t724 t725 t726 t727 t730).bind fun t732 => (if (t732 != t721) = true then (some false) else ((laws_toAsk.f k a0_0 a0_1 a0_2 a0_3 a0_4 l0_5 a0_6).bind fun bt733 => ((laws_eqAsk.f k t722 t723 t724 t725 t726 t727 t730 bt733.1 bt733.2.1 bt733.2.2.1 bt733.2.2.2.1 bt733.2.2.2.2.1 bt733.2.2.2.2.2.1 bt733.2.2.2.2.2.2).bind fun t742 => (if t742 = true then (some true) else (some false)))))) = some r := H
    have A9 := Aside0.mk A90
    clear A90
    replace H := Option.bind_eq_some_iff.mp H
    obtain ⟨t732, A100, H⟩ := H
    replace H : (if (t732 != t721) = true then (some false) else ((laws_toAsk.f k a0_0 a0_1 a0_2 a0_3 a0_4 l0_5 a0_6).bind fun bt733 => ((laws_eqAsk.f k t722 t723 t724 t725 t726 t727 t730 bt733.1 bt733.2.1 bt733.2.2.1 bt733.2.2.2.1 bt733.2.2.2.2.1 bt733.2.2.2.2.2.1 bt733.2.2.2.2.2.2).bind fun t742 => (if t742 = true then (some true) else (some false))))) = some r := H
    have A10 := Aside0.mk A100
    clear A100
    by_cases c11 : (t732 != t721) = true
    · rw [if_pos c11] at H
      have c11b0 : (t732 != t721) = true := c11
      (try (have c11b1 : decide (t732 = t721) = false := by simpa using c11))
      (try (have c11b2 : (t732 == t721) = false := by simpa using c11))
      (try (have c11b3 : ¬ (t732 = t721) := by simpa using c11))
      clear c11
      exact absurd ((Option.some.inj H).trans HT.out) (by decide)
    · rw [if_neg c11] at H
      have c11b0 : (t732 != t721) = false := by simpa using c11
      (try (have c11b1 : decide (t732 = t721) = true := by simpa using c11))
      (try (have c11b2 : (t732 == t721) = true := by simpa using c11))
      clear c11
      replace H := Option.bind_eq_some_iff.mp H
      obtain ⟨⟨t733, t734, t735, t736, t737, t738, t741⟩, A120, H⟩ := H
      replace H : ((laws_eqAsk.f k t722 t723 t724 t725 t726 t727 t730 t733 t734 t735 t736 t737 t738 t741).bind fun t742 => (if t742 = true then (some true) else (some false))) = some r := H
      have A12 := Aside0.mk A120
      clear A120
      replace H := Option.bind_eq_some_iff.mp H
      obtain ⟨t742, A130, H⟩ := H
      replace H : (if t742 = true then (some true) else (some false)) = some r := H
      have A13 := Aside0.mk A130
      clear A130
      by_cases c14 : t742 = true
      · subst c14
        have H1 : (some true) = some r := by rw [if_pos rfl] at H; exact H
        clear H
        have H := H1
        clear H1
        obtain rfl := Option.some.inj H
        go_enter Try.func13, Try.ntmps13
        try go_wp2_with (first | ((with_reducible refine gate_dst (N := 1) rfl ?_); refine box_event ?hg (N := 1) ?hd (cs := #[.int .i64 a0_0, .int .i64 a0_1, .int .i64 a0_2, .int .i64 a0_3, .int .i64 a0_4, .slice A0_5 l0_5.length c0_5, .int .i64 a0_6]) (t := 51) ?hr ?_; (case hd => rfl); (case hg => rfl); (case hr => first | (go_simp; done) | (go_simp; rfl)); intro gb710 hg w15 hbox hb; have n0_ := Aside0.mk (below_step (by repeat (first | (with_reducible first | exact HB.out | apply below_alloc | apply pw_below_drewN | apply below_drew1) | exact HB.out)) hb); have n1_ := Aside0.mk (hbox); have n2_ := Aside0.mk ((by rw [hg]; exact (below_size (by repeat (first | (with_reducible first | exact HB.out | apply below_alloc | apply pw_below_drewN | apply below_drew1) | exact HB.out))) : w.heap.size ≤ gb710)); have n3_ := Aside0.mk ((by rw [hg]; exact (below_size (by repeat (first | (with_reducible first | exact HB.out | apply below_alloc | apply pw_below_drewN | apply below_drew1) | exact HB.out))) : w.heap.size ≤ gb710)); clear HB; have HB := n0_; have BK710 := n1_; have GW710 := n2_; have GE710 := n3_; clear n0_ n1_ n2_ n3_; clear hb hbox hg; have hcz16_0 : w15.cell? ⟨gb710, 0, none⟩ = some (.int .i64 a0_0) := (blk_cell BK710.out 0).trans rfl; have hcz16_1 : w15.cell? ⟨gb710, 1, none⟩ = some (.int .i64 a0_1) := (blk_cell BK710.out 1).trans rfl; have hcz16_2 : w15.cell? ⟨gb710, 2, none⟩ = some (.int .i64 a0_2) := (blk_cell BK710.out 2).trans rfl; have hcz16_3 : w15.cell? ⟨gb710, 3, none⟩ = some (.int .i64 a0_3) := (blk_cell BK710.out 3).trans rfl; have hcz16_4 : w15.cell? ⟨gb710, 4, none⟩ = some (.int .i64 a0_4) := (blk_cell BK710.out 4).trans rfl; have hcz16_5 : w15.cell? ⟨gb710, 5, none⟩ = some (.slice A0_5 l0_5.length c0_5) := (blk_cell BK710.out 5).trans rfl; have hcz16_6 : w15.cell? ⟨gb710, 6, none⟩ = some (.int .i64 a0_6) := (blk_cell BK710.out 6).trans rfl; have hfz16_0 := blk_frozen BK710.out 0; have hfz16_1 := blk_frozen BK710.out 1; have hfz16_2 := blk_frozen BK710.out 2; have hfz16_3 := blk_frozen BK710.out 3; have hfz16_4 := blk_frozen BK710.out 4; have hfz16_5 := blk_frozen BK710.out 5; have hfz16_6 := blk_frozen BK710.out 6) | ((with_reducible refine gate_callee (f := 43) rfl ?_); refine goesL_ (some 9) rfl rfl Try.func43 (by kernel_rfl) rfl #[.agg #[.int .i64 a0_0, .int .i64 a0_1, .int .i64 a0_2, .int .i64 a0_3, .int .i64 a0_4, .slice A0_5 l0_5.length c0_5, .int .i64 a0_6], .int .i64 1048576] rfl (by (try simp only [List.map_toArray, List.map_cons, List.map_nil]); first | done | rfl | (simp only [List.length_drop, List.length_take]; rfl)) ?_; (with_reducible refine (laws_szAsk.calls k a0_0 a0_1 a0_2 a0_3 a0_4 _ _ l0_5 a0_6 1048576 t711 _ ?side1 ?side2 A2.out).mono ?_); (case side1 => repeat (first | exact (Kd.C_below HR0_5.out HB.out) | (with_reducible refine Kd.C_alloc ?_ _) | (with_reducible refine Kd.C_drewN ?_ _) | (with_reducible refine Kd.C_drew ?_))); (case side2 => exact HC0_5.out); rintro e w17 ⟨rfl, hb⟩; refine ⟨_, rfl, ?_⟩; have n0_ := Aside0.mk (blk_below (g := gb710) (o := .cells #[.int .i64 a0_0, .int .i64 a0_1, .int .i64 a0_2, .int .i64 a0_3, .int .i64 a0_4, .slice A0_5 l0_5.length c0_5, .int .i64 a0_6] 51 (0, 0)) (by (with_reducible repeat (first | refine blk_drewN ?_ _ | refine blk_drew ?_ | refine blk_alloc ?_ _)); exact BK710.out) hb); have n1_ := Aside0.mk (below_step (by repeat (first | (with_reducible first | exact HB.out | apply below_alloc | apply pw_below_drewN | apply below_drew1 | refine below_set ?_ GE710.out) | exact HB.out)) hb); clear BK710; clear HB; have BK710 := n0_; have HB := n1_; clear n0_ n1_; (try clear hb); (try clear hb2); (try clear hk); (try clear hi); have hcz18_0 : w17.cell? ⟨gb710, 0, none⟩ = some (.int .i64 a0_0) := (blk_cell BK710.out 0).trans rfl; have hcz18_1 : w17.cell? ⟨gb710, 1, none⟩ = some (.int .i64 a0_1) := (blk_cell BK710.out 1).trans rfl; have hcz18_2 : w17.cell? ⟨gb710, 2, none⟩ = some (.int .i64 a0_2) := (blk_cell BK710.out 2).trans rfl; have hcz18_3 : w17.cell? ⟨gb710, 3, none⟩ = some (.int .i64 a0_3) := (blk_cell BK710.out 3).trans rfl; have hcz18_4 : w17.cell? ⟨gb710, 4, none⟩ = some (.int .i64 a0_4) := (blk_cell BK710.out 4).trans rfl; have hcz18_5 : w17.cell? ⟨gb710, 5, none⟩ = some (.slice A0_5 l0_5.length c0_5) := (blk_cell BK710.out 5).trans rfl; have hcz18_6 : w17.cell? ⟨gb710, 6, none⟩ = some (.int .i64 a0_6) := (blk_cell BK710.out 6).trans rfl; have hfz18_0 := blk_frozen BK710.out 0; have hfz18_1 := blk_frozen BK710.out 1; have hfz18_2 := blk_frozen BK710.out 2; have hfz18_3 := blk_frozen BK710.out 3; have hfz18_4 := blk_frozen BK710.out 4; have hfz18_5 := blk_frozen BK710.out 5; have hfz18_6 := blk_frozen BK710.out 6) | ((with_reducible refine gate_callee (f := 45) rfl ?_); refine goesL_ (some 13) rfl rfl Try.func45 (by kernel_rfl) rfl #[.agg #[.int .i64 a0_0, .int .i64 a0_1, .int .i64 a0_2, .int .i64 a0_3, .int .i64 a0_4, .slice A0_5 l0_5.length c0_5, .int .i64 a0_6]] rfl (by (try simp only [List.map_toArray, List.map_cons, List.map_nil]); first | done | rfl | (simp only [List.length_drop, List.length_take]; rfl)) ?_; (with_reducible refine (laws_toAsk.calls k a0_0 a0_1 a0_2 a0_3 a0_4 _ _ l0_5 a0_6 t712 t713 t714 t715 t716 t717 t720 _ ?side1 ?side2 A7.out).mono ?_); (case side1 => repeat (first | exact (Kd.C_below HR0_5.out HB.out) | (with_reducible refine Kd.C_alloc ?_ _) | (with_reducible refine Kd.C_drewN ?_ _) | (with_reducible refine Kd.C_drew ?_))); (case side2 => exact HC0_5.out); rintro e w19 ⟨v718, rfl, ho0, hb⟩; refine ⟨_, rfl, ?_⟩; have n0_ := Aside0.mk (Kd.S_lower ho0 (below_size (by repeat (first | (with_reducible first | exact HB.out | apply below_alloc | apply pw_below_drewN | apply below_drew1 | refine below_set ?_ GE710.out) | exact HB.out)))); have n1_ := Aside0.mk (blk_below (g := gb710) (o := .cells #[.int .i64 a0_0, .int .i64 a0_1, .int .i64 a0_2, .int .i64 a0_3, .int .i64 a0_4, .slice A0_5 l0_5.length c0_5, .int .i64 a0_6] 51 (0, 0)) (by (with_reducible repeat (first | refine blk_drewN ?_ _ | refine blk_drew ?_ | refine blk_alloc ?_ _)); exact BK710.out) hb); have n2_ := Aside0.mk (below_step (by repeat (first | (with_reducible first | exact HB.out | apply below_alloc | apply pw_below_drewN | apply below_drew1 | refine below_set ?_ GE710.out) | exact HB.out)) hb); clear BK710; clear HB; have HO719 := n0_; have BK710 := n1_; have HB := n2_; clear n0_ n1_ n2_; (try clear hb); (try clear hb2); (try clear hk); (try clear hi); (try clear ho0); obtain ⟨Ao20, co20, eo20⟩ := Kd.S_slice HO719.out; subst eo20) | ((with_reducible refine gate_callee (f := 44) rfl ?_); refine goesL_ (some 14) rfl rfl Try.func44 (by kernel_rfl) rfl #[.agg #[.int .i64 t712, .int .i64 t713, .int .i64 t714, .int .i64 t715, .int .i64 t716, .slice Ao20 t717.length co20, .int .i64 t720]] rfl (by (try simp only [List.map_toArray, List.map_cons, List.map_nil]); first | done | rfl | (simp only [List.length_drop, List.length_take]; rfl)) ?_; (with_reducible refine (spec_ValidAsk.calls k t712 t713 t714 t715 t716 _ _ t717 t720 t721 _ ?side1 ?side2 A8.out).mono ?_); (case side1 => repeat (first | exact (Kd.S_reads' HO719.out).2.2 | (with_reducible refine Kd.C_alloc ?_ _) | (with_reducible refine Kd.C_drewN ?_ _) | (with_reducible refine Kd.C_drew ?_))); (case side2 => exact (Kd.S_reads' HO719.out).2.1); rintro e w21 ⟨rfl, hb⟩; refine ⟨_, rfl, ?_⟩; have n0_ := Aside0.mk (Kd.S_below (by (with_reducible repeat (first | apply Kd.S_alloc | apply Kd.S_drewN | apply Kd.S_drew)); exact HO719.out) hb); have n1_ := Aside0.mk (blk_below (g := gb710) (o := .cells #[.int .i64 a0_0, .int .i64 a0_1, .int .i64 a0_2, .int .i64 a0_3, .int .i64 a0_4, .slice A0_5 l0_5.length c0_5, .int .i64 a0_6] 51 (0, 0)) (by (with_reducible repeat (first | refine blk_drewN ?_ _ | refine blk_drew ?_ | refine blk_alloc ?_ _)); exact BK710.out) hb); have n2_ := Aside0.mk (below_step (by repeat (first | (with_reducible first | exact HB.out | apply below_alloc | apply pw_below_drewN | apply below_drew1 | refine below_set ?_ GE710.out) | exact HB.out)) hb); clear HO719; clear BK710; clear HB; have HO719 := n0_; have BK710 := n1_; have HB := n2_; clear n0_ n1_ n2_; (try clear hb); (try clear hb2); (try clear hk); (try clear hi); have hcz22_0 : w21.cell? ⟨gb710, 0, none⟩ = some (.int .i64 a0_0) := (blk_cell BK710.out 0).trans rfl; have hcz22_1 : w21.cell? ⟨gb710, 1, none⟩ = some (.int .i64 a0_1) := (blk_cell BK710.out 1).trans rfl; have hcz22_2 : w21.cell? ⟨gb710, 2, none⟩ = some (.int .i64 a0_2) := (blk_cell BK710.out 2).trans rfl; have hcz22_3 : w21.cell? ⟨gb710, 3, none⟩ = some (.int .i64 a0_3) := (blk_cell BK710.out 3).trans rfl; have hcz22_4 : w21.cell? ⟨gb710, 4, none⟩ = some (.int .i64 a0_4) := (blk_cell BK710.out 4).trans rfl; have hcz22_5 : w21.cell? ⟨gb710, 5, none⟩ = some (.slice A0_5 l0_5.length c0_5) := (blk_cell BK710.out 5).trans rfl; have hcz22_6 : w21.cell? ⟨gb710, 6, none⟩ = some (.int .i64 a0_6) := (blk_cell BK710.out 6).trans rfl; have hfz22_0 := blk_frozen BK710.out 0; have hfz22_1 := blk_frozen BK710.out 1; have hfz22_2 := blk_frozen BK710.out 2; have hfz22_3 := blk_frozen BK710.out 3; have hfz22_4 := blk_frozen BK710.out 4; have hfz22_5 := blk_frozen BK710.out 5; have hfz22_6 := blk_frozen BK710.out 6) | ((with_reducible refine gate_callee (f := 45) rfl ?_); refine goesL_ (some 16) rfl rfl Try.func45 (by kernel_rfl) rfl #[.agg #[.int .i64 a0_0, .int .i64 a0_1, .int .i64 a0_2, .int .i64 a0_3, .int .i64 a0_4, .slice A0_5 l0_5.length c0_5, .int .i64 a0_6]] rfl (by (try simp only [List.map_toArray, List.map_cons, List.map_nil]); first | done | rfl | (simp only [List.length_drop, List.length_take]; rfl)) ?_; (with_reducible refine (laws_toAsk.calls k a0_0 a0_1 a0_2 a0_3 a0_4 _ _ l0_5 a0_6 t722 t723 t724 t725 t726 t727 t730 _ ?side1 ?side2 A9.out).mono ?_); (case side1 => repeat (first | exact (Kd.C_below HR0_5.out HB.out) | (with_reducible refine Kd.C_alloc ?_ _) | (with_reducible refine Kd.C_drewN ?_ _) | (with_reducible refine Kd.C_drew ?_))); (case side2 => exact HC0_5.out); rintro e w23 ⟨v728, rfl, ho0, hb⟩; refine ⟨_, rfl, ?_⟩; have n0_ := Aside0.mk (Kd.S_elder' (by (with_reducible repeat (first | apply Kd.S_alloc | apply Kd.S_drewN | apply Kd.S_drew)); exact HO719.out) (Kd.S_base ho0) hb); have n1_ := Aside0.mk (Kd.S_lower (Kd.S_new' ho0 (Kd.S_lt (by (with_reducible repeat (first | apply Kd.S_alloc | apply Kd.S_drewN | apply Kd.S_drew)); exact HO719.out))) (below_size (by repeat (first | (with_reducible first | exact HB.out | apply below_alloc | apply pw_below_drewN | apply below_drew1 | refine below_set ?_ GE710.out) | exact HB.out)))); have n2_ := Aside0.mk (blk_below (g := gb710) (o := .cells #[.int .i64 a0_0, .int .i64 a0_1, .int .i64 a0_2, .int .i64 a0_3, .int .i64 a0_4, .slice A0_5 l0_5.length c0_5, .int .i64 a0_6] 51 (0, 0)) (by (with_reducible repeat (first | refine blk_drewN ?_ _ | refine blk_drew ?_ | refine blk_alloc ?_ _)); exact BK710.out) hb); have n3_ := Aside0.mk (below_step (by repeat (first | (with_reducible first | exact HB.out | apply below_alloc | apply pw_below_drewN | apply below_drew1 | refine below_set ?_ GE710.out) | exact HB.out)) hb); clear HO719; clear BK710; clear HB; have HO719 := n0_; have HO729 := n1_; have BK710 := n2_; have HB := n3_; clear n0_ n1_ n2_ n3_; (try clear hb); (try clear hb2); (try clear hk); (try clear hi); (try clear ho0)) | ((with_reducible refine gate_dst (N := 5) rfl ?_); refine box_event ?hg (N := 5) ?hd (cs := #[.int .i64 0, .int .i64 0, .int .i64 0, .int .i64 0, .int .i64 0, .slice none 0 0, .int .i64 0]) (t := 54) ?hr ?_; (case hd => rfl); (case hg => rfl); (case hr => first | (go_simp; done) | (go_simp; rfl)); intro gb731 hg w24 hbox hb; have n0_ := Aside0.mk (Kd.S_below (by (with_reducible repeat (first | apply Kd.S_alloc | apply Kd.S_drewN | apply Kd.S_drew)); exact HO719.out) hb); have n1_ := Aside0.mk (Kd.S_below (by (with_reducible repeat (first | apply Kd.S_alloc | apply Kd.S_drewN | apply Kd.S_drew)); exact HO729.out) hb); have n2_ := Aside0.mk (blk_below (g := gb710) (o := .cells #[.int .i64 a0_0, .int .i64 a0_1, .int .i64 a0_2, .int .i64 a0_3, .int .i64 a0_4, .slice A0_5 l0_5.length c0_5, .int .i64 a0_6] 51 (0, 0)) (by (with_reducible repeat (first | refine blk_drewN ?_ _ | refine blk_drew ?_ | refine blk_alloc ?_ _)); exact BK710.out) hb); have n3_ := Aside0.mk (below_step (by repeat (first | (with_reducible first | exact HB.out | apply below_alloc | apply pw_below_drewN | apply below_drew1 | refine below_set ?_ GE710.out) | exact HB.out)) hb); have n4_ := Aside0.mk (hbox); have n5_ := Aside0.mk ((by rw [hg]; exact (below_size (by repeat (first | (with_reducible first | exact HB.out | apply below_alloc | apply pw_below_drewN | apply below_drew1 | refine below_set ?_ GE710.out) | exact HB.out))) : w.heap.size ≤ gb731)); have n6_ := Aside0.mk ((by rw [hg]; exact (below_size (by repeat (first | (with_reducible first | exact HB.out | apply below_alloc | apply pw_below_drewN | apply below_drew1 | refine below_set ?_ GE710.out) | exact HB.out))) : w.heap.size ≤ gb731)); have n7_ := Aside0.mk ((by rw [hg]; exact Nat.ne_of_lt (blk_lt (g := gb710) (o := .cells #[.int .i64 a0_0, .int .i64 a0_1, .int .i64 a0_2, .int .i64 a0_3, .int .i64 a0_4, .slice A0_5 l0_5.length c0_5, .int .i64 a0_6] 51 (0, 0)) (by (with_reducible repeat (first | refine blk_drewN ?_ _ | refine blk_drew ?_ | refine blk_alloc ?_ _)); exact BK710.out)) : gb710 ≠ gb731)); have n8_ := Aside0.mk ((by rw [hg]; exact Nat.ne_of_gt (blk_lt (g := gb710) (o := .cells #[.int .i64 a0_0, .int .i64 a0_1, .int .i64 a0_2, .int .i64 a0_3, .int .i64 a0_4, .slice A0_5 l0_5.length c0_5, .int .i64 a0_6] 51 (0, 0)) (by (with_reducible repeat (first | refine blk_drewN ?_ _ | refine blk_drew ?_ | refine blk_alloc ?_ _)); exact BK710.out)) : gb731 ≠ gb710)); clear HO719; clear HO729; clear BK710; clear HB; have HO719 := n0_; have HO729 := n1_; have BK710 := n2_; have HB := n3_; have BK731 := n4_; have GW731 := n5_; have GE731 := n6_; have NB710_731 := n7_; have NB731_710 := n8_; clear n0_ n1_ n2_ n3_ n4_ n5_ n6_ n7_ n8_; clear hb hbox hg; have hnb25 := NB731_710.out; have hnc25 := NB710_731.out; have hcz26_0 : w24.cell? ⟨gb731, 0, none⟩ = some (.int .i64 0) := (blk_cell BK731.out 0).trans rfl; have hcz26_1 : w24.cell? ⟨gb731, 1, none⟩ = some (.int .i64 0) := (blk_cell BK731.out 1).trans rfl; have hcz26_2 : w24.cell? ⟨gb731, 2, none⟩ = some (.int .i64 0) := (blk_cell BK731.out 2).trans rfl; have hcz26_3 : w24.cell? ⟨gb731, 3, none⟩ = some (.int .i64 0) := (blk_cell BK731.out 3).trans rfl; have hcz26_4 : w24.cell? ⟨gb731, 4, none⟩ = some (.int .i64 0) := (blk_cell BK731.out 4).trans rfl; have hcz26_5 : w24.cell? ⟨gb731, 5, none⟩ = some (.slice none 0 0) := (blk_cell BK731.out 5).trans rfl; have hcz26_6 : w24.cell? ⟨gb731, 6, none⟩ = some (.int .i64 0) := (blk_cell BK731.out 6).trans rfl; have hfz26_0 := blk_frozen BK731.out 0; have hfz26_1 := blk_frozen BK731.out 1; have hfz26_2 := blk_frozen BK731.out 2; have hfz26_3 := blk_frozen BK731.out 3; have hfz26_4 := blk_frozen BK731.out 4; have hfz26_5 := blk_frozen BK731.out 5; have hfz26_6 := blk_frozen BK731.out 6; obtain ⟨Ao27, co27, eo27⟩ := Kd.S_slice HO729.out; subst eo27) | ((with_reducible refine gate_callee (f := 46) rfl ?_); refine goesL_ (some 18) rfl rfl Try.func46 (by kernel_rfl) rfl #[.agg #[.int .i64 t722, .int .i64 t723, .int .i64 t724, .int .i64 t725, .int .i64 t726, .slice Ao27 t727.length co27, .int .i64 t730]] rfl (by (try simp only [List.map_toArray, List.map_cons, List.map_nil]); first | done | rfl | (simp only [List.length_drop, List.length_take]; rfl)) ?_; (with_reducible refine (impl_ValidAsk.calls k t722 t723 t724 t725 t726 _ _ t727 t730 t732 _ ?side1 ?side2 A10.out).mono ?_); (case side1 => refine (Kd.S_reads' (e := 22) (base := w.heap.size) (ok := fun k_ => (True ∧ some k_ ≠ (.slice Ao20 t717.length co20 : Value).ownBlock)) (n := t727.length) (c := co27) ?_).2.2; exact (by (with_reducible repeat (first | apply Kd.S_alloc | apply Kd.S_drewN | apply Kd.S_drew)); exact (Kd.S_mono (Kd.S_far (p := ⟨gb731, 6, none⟩) (Kd.S_far (p := ⟨gb731, 5, none⟩) (Kd.S_far (p := ⟨gb731, 4, none⟩) (Kd.S_far (p := ⟨gb731, 3, none⟩) (Kd.S_far (p := ⟨gb731, 2, none⟩) (Kd.S_far (p := ⟨gb731, 1, none⟩) (Kd.S_far (p := ⟨gb731, 0, none⟩) (Kd.S_types HO729.out BK731.out (by decide)) (fun _ hk => hk.2) (.int .i64 t722)) (fun _ hk => hk.2) (.int .i64 t723)) (fun _ hk => hk.2) (.int .i64 t724)) (fun _ hk => hk.2) (.int .i64 t725)) (fun _ hk => hk.2) (.int .i64 t726)) (fun _ hk => hk.2) (.slice Ao27 t727.length co27)) (fun _ hk => hk.2) (.int .i64 t730)) (fun _ h_ => h_.1)))); (case side2 => exact (Kd.S_reads' HO729.out).2.1); rintro e w28 ⟨rfl, hb⟩; refine ⟨_, rfl, ?_⟩; have n0_ := Aside0.mk (Kd.S_below (by (with_reducible repeat (first | apply Kd.S_alloc | apply Kd.S_drewN | apply Kd.S_drew)); exact (Kd.S_mono (Kd.S_far (p := ⟨gb731, 6, none⟩) (Kd.S_far (p := ⟨gb731, 5, none⟩) (Kd.S_far (p := ⟨gb731, 4, none⟩) (Kd.S_far (p := ⟨gb731, 3, none⟩) (Kd.S_far (p := ⟨gb731, 2, none⟩) (Kd.S_far (p := ⟨gb731, 1, none⟩) (Kd.S_far (p := ⟨gb731, 0, none⟩) (Kd.S_types HO719.out BK731.out (by decide)) (fun _ hk => hk.2) (.int .i64 t722)) (fun _ hk => hk.2) (.int .i64 t723)) (fun _ hk => hk.2) (.int .i64 t724)) (fun _ hk => hk.2) (.int .i64 t725)) (fun _ hk => hk.2) (.int .i64 t726)) (fun _ hk => hk.2) (.slice Ao27 t727.length co27)) (fun _ hk => hk.2) (.int .i64 t730)) (fun _ h_ => h_.1))) hb); have n1_ := Aside0.mk (Kd.S_below (by (with_reducible repeat (first | apply Kd.S_alloc | apply Kd.S_drewN | apply Kd.S_drew)); exact (Kd.S_mono (Kd.S_far (p := ⟨gb731, 6, none⟩) (Kd.S_far (p := ⟨gb731, 5, none⟩) (Kd.S_far (p := ⟨gb731, 4, none⟩) (Kd.S_far (p := ⟨gb731, 3, none⟩) (Kd.S_far (p := ⟨gb731, 2, none⟩) (Kd.S_far (p := ⟨gb731, 1, none⟩) (Kd.S_far (p := ⟨gb731, 0, none⟩) (Kd.S_types HO729.out BK731.out (by decide)) (fun _ hk => hk.2) (.int .i64 t722)) (fun _ hk => hk.2) (.int .i64 t723)) (fun _ hk => hk.2) (.int .i64 t724)) (fun _ hk => hk.2) (.int .i64 t725)) (fun _ hk => hk.2) (.int .i64 t726)) (fun _ hk => hk.2) (.slice Ao27 t727.length co27)) (fun _ hk => hk.2) (.int .i64 t730)) (fun _ h_ => h_.1))) hb); have n2_ := Aside0.mk (blk_below (g := gb710) (o := .cells #[.int .i64 a0_0, .int .i64 a0_1, .int .i64 a0_2, .int .i64 a0_3, .int .i64 a0_4, .slice A0_5 l0_5.length c0_5, .int .i64 a0_6] 51 (0, 0)) (by (with_reducible repeat (first | refine blk_drewN ?_ _ | refine blk_drew ?_ | refine blk_alloc ?_ _)); refine blk_far ?_ NB710_731.out _; (with_reducible repeat (first | refine blk_drewN ?_ _ | refine blk_drew ?_ | refine blk_alloc ?_ _)); refine blk_far ?_ NB710_731.out _; (with_reducible repeat (first | refine blk_drewN ?_ _ | refine blk_drew ?_ | refine blk_alloc ?_ _)); refine blk_far ?_ NB710_731.out _; (with_reducible repeat (first | refine blk_drewN ?_ _ | refine blk_drew ?_ | refine blk_alloc ?_ _)); refine blk_far ?_ NB710_731.out _; (with_reducible repeat (first | refine blk_drewN ?_ _ | refine blk_drew ?_ | refine blk_alloc ?_ _)); refine blk_far ?_ NB710_731.out _; (with_reducible repeat (first | refine blk_drewN ?_ _ | refine blk_drew ?_ | refine blk_alloc ?_ _)); refine blk_far ?_ NB710_731.out _; (with_reducible repeat (first | refine blk_drewN ?_ _ | refine blk_drew ?_ | refine blk_alloc ?_ _)); refine blk_far ?_ NB710_731.out _; (with_reducible repeat (first | refine blk_drewN ?_ _ | refine blk_drew ?_ | refine blk_alloc ?_ _)); exact BK710.out) hb); have n3_ := Aside0.mk (blk_below (g := gb731) (o := .cells #[.int .i64 t722, .int .i64 t723, .int .i64 t724, .int .i64 t725, .int .i64 t726, .slice Ao27 t727.length co27, .int .i64 t730] 54 (0, 0)) (by (with_reducible repeat (first | refine blk_drewN ?_ _ | refine blk_drew ?_ | refine blk_alloc ?_ _)); refine blk_put (cs := #[.int .i64 t722, .int .i64 t723, .int .i64 t724, .int .i64 t725, .int .i64 t726, .slice Ao27 t727.length co27, .int .i64 0]) ?_ 6 _ rfl; (with_reducible repeat (first | refine blk_drewN ?_ _ | refine blk_drew ?_ | refine blk_alloc ?_ _)); refine blk_put (cs := #[.int .i64 t722, .int .i64 t723, .int .i64 t724, .int .i64 t725, .int .i64 t726, .slice none 0 0, .int .i64 0]) ?_ 5 _ rfl; (with_reducible repeat (first | refine blk_drewN ?_ _ | refine blk_drew ?_ | refine blk_alloc ?_ _)); refine blk_put (cs := #[.int .i64 t722, .int .i64 t723, .int .i64 t724, .int .i64 t725, .int .i64 0, .slice none 0 0, .int .i64 0]) ?_ 4 _ rfl; (with_reducible repeat (first | refine blk_drewN ?_ _ | refine blk_drew ?_ | refine blk_alloc ?_ _)); refine blk_put (cs := #[.int .i64 t722, .int .i64 t723, .int .i64 t724, .int .i64 0, .int .i64 0, .slice none 0 0, .int .i64 0]) ?_ 3 _ rfl; (with_reducible repeat (first | refine blk_drewN ?_ _ | refine blk_drew ?_ | refine blk_alloc ?_ _)); refine blk_put (cs := #[.int .i64 t722, .int .i64 t723, .int .i64 0, .int .i64 0, .int .i64 0, .slice none 0 0, .int .i64 0]) ?_ 2 _ rfl; (with_reducible repeat (first | refine blk_drewN ?_ _ | refine blk_drew ?_ | refine blk_alloc ?_ _)); refine blk_put (cs := #[.int .i64 t722, .int .i64 0, .int .i64 0, .int .i64 0, .int .i64 0, .slice none 0 0, .int .i64 0]) ?_ 1 _ rfl; (with_reducible repeat (first | refine blk_drewN ?_ _ | refine blk_drew ?_ | refine blk_alloc ?_ _)); refine blk_put (cs := #[.int .i64 0, .int .i64 0, .int .i64 0, .int .i64 0, .int .i64 0, .slice none 0 0, .int .i64 0]) ?_ 0 _ rfl; (with_reducible repeat (first | refine blk_drewN ?_ _ | refine blk_drew ?_ | refine blk_alloc ?_ _)); exact BK731.out) hb); have n4_ := Aside0.mk (below_step (by repeat (first | (with_reducible first | exact HB.out | apply below_alloc | apply pw_below_drewN | apply below_drew1 | refine below_set ?_ GE710.out | refine below_set ?_ GE731.out) | exact HB.out)) hb); clear HO719; clear HO729; clear BK710; clear BK731; clear HB; have HO719 := n0_; have HO729 := n1_; have BK710 := n2_; have BK731 := n3_; have HB := n4_; clear n0_ n1_ n2_ n3_ n4_; (try clear hb); (try clear hb2); (try clear hk); (try clear hi)))
        have n0_ := Aside0.mk (Kd.S_drew HO719.out)
        have n1_ := Aside0.mk (Kd.S_drew HO729.out)
        have n2_ := Aside0.mk (blk_drew BK710.out)
        have n3_ := Aside0.mk (blk_drew BK731.out)
        have n4_ := Aside0.mk (below_drew1 HB.out)
        clear HO719
        clear HO729
        clear BK710
        clear BK731
        clear HB
        have HO719 := n0_
        have HO729 := n1_
        have BK710 := n2_
        have BK731 := n3_
        have HB := n4_
        clear n0_ n1_ n2_ n3_ n4_
        refine start_ (n := 5) (S := fun w' => w'.cell? ⟨gb731, 0, none⟩ = some (.int .i64 t722) ∧ w'.cell? ⟨gb731, 1, none⟩ = some (.int .i64 t723) ∧ w'.cell? ⟨gb731, 2, none⟩ = some (.int .i64 t724) ∧ w'.cell? ⟨gb731, 3, none⟩ = some (.int .i64 t725) ∧ w'.cell? ⟨gb731, 4, none⟩ = some (.int .i64 t726) ∧ w'.cell? ⟨gb731, 5, none⟩ = some (.slice Ao27 t727.length co27) ∧ w'.cell? ⟨gb731, 6, none⟩ = some (.int .i64 t730) ∧ w'.cell? ⟨gb710, 0, none⟩ = some (.int .i64 a0_0) ∧ w'.cell? ⟨gb710, 1, none⟩ = some (.int .i64 a0_1) ∧ w'.cell? ⟨gb710, 2, none⟩ = some (.int .i64 a0_2) ∧ w'.cell? ⟨gb710, 3, none⟩ = some (.int .i64 a0_3) ∧ w'.cell? ⟨gb710, 4, none⟩ = some (.int .i64 a0_4) ∧ w'.cell? ⟨gb710, 5, none⟩ = some (.slice A0_5 l0_5.length c0_5) ∧ w'.cell? ⟨gb710, 6, none⟩ = some (.int .i64 a0_6)) (ds := []) #[false, false, false, false, false] (by kernel_rfl) rfl rfl ⟨(blk_cell BK731.out 0).trans rfl, (blk_cell BK731.out 1).trans rfl, (blk_cell BK731.out 2).trans rfl, (blk_cell BK731.out 3).trans rfl, (blk_cell BK731.out 4).trans rfl, (blk_cell BK731.out 5).trans rfl, (blk_cell BK731.out 6).trans rfl, (blk_cell BK710.out 0).trans rfl, (blk_cell BK710.out 1).trans rfl, (blk_cell BK710.out 2).trans rfl, (blk_cell BK710.out 3).trans rfl, (blk_cell BK710.out 4).trans rfl, (blk_cell BK710.out 5).trans rfl, (blk_cell BK710.out 6).trans rfl⟩ (fun hHeld => ?_)
        generalize w28.drew = w29 at HO719 HO729 BK710 BK731 HB hHeld ⊢
        refine take_ (i := 0) (N := some 22) (v := ?_) (a' := ?_) #[true, false, false, false, false] rfl rfl (by kernel_rfl) (fun _ _ _ h => h) (Or.inl ⟨by rfl, ?_⟩) hHeld ?_ ?_
        rotate_left
        · rintro w' ⟨s0, s1, s2, s3, s4, s5, s6, s7, s8, s9, s10, s11, s12, s13⟩
          go_simp
          with_reducible rfl
        rotate_left
        · simp only [Act.put, List.setIfInBounds_toArray, List.set_cons_zero, List.set_cons_succ, i64_w, i32_w]
          rfl
        refine take_ (i := 1) (N := some 23) (v := ?_) (a' := ?_) #[true, true, false, false, false] rfl rfl (by kernel_rfl) (fun _ _ _ h => h) (Or.inl ⟨by rfl, ?_⟩) hHeld ?_ ?_
        rotate_left
        · rintro w' ⟨s0, s1, s2, s3, s4, s5, s6, s7, s8, s9, s10, s11, s12, s13⟩
          go_simp
          with_reducible rfl
        rotate_left
        · simp only [Act.put, List.setIfInBounds_toArray, List.set_cons_zero, List.set_cons_succ, i64_w, i32_w]
          rfl
        refine one_ (i := 2) (N := some 24) #[true, true, true, false, false] rfl rfl (by kernel_rfl) (by decide) (fun K hK => ?_)
        refine goes_ Try.func45 (by kernel_rfl) rfl #[.agg #[.int .i64 a0_0, .int .i64 a0_1, .int .i64 a0_2, .int .i64 a0_3, .int .i64 a0_4, .slice A0_5 l0_5.length c0_5, .int .i64 a0_6]] (by rfl) rfl rfl (by (try simp only [List.map_toArray, List.map_cons, List.map_nil]); first | done | rfl | (simp only [List.length_drop, List.length_take]; rfl)) ?_
        with_reducible refine (laws_toAsk.calls k a0_0 a0_1 a0_2 a0_3 a0_4 _ _ l0_5 a0_6 t733 t734 t735 t736 t737 t738 t741 _ ?side1 ?side2 A12.out).mono ?_
        (case side1 => repeat (first | exact (Kd.C_below HR0_5.out HB.out) | (with_reducible refine Kd.C_alloc ?_ _) | (with_reducible refine Kd.C_drewN ?_ _) | (with_reducible refine Kd.C_drew ?_)))
        (case side2 => exact HC0_5.out)
        rintro e w30 ⟨v739, rfl, ho0, hb⟩
        refine ⟨_, rfl, ?_⟩
        have n0_ := Aside0.mk (Kd.S_elder' (by (with_reducible repeat (first | apply Kd.S_alloc | apply Kd.S_drewN | apply Kd.S_drew)); exact HO719.out) (Kd.S_base ho0) hb)
        have n1_ := Aside0.mk (Kd.S_elder' (by (with_reducible repeat (first | apply Kd.S_alloc | apply Kd.S_drewN | apply Kd.S_drew)); exact HO729.out) (Kd.S_base ho0) hb)
        have n2_ := Aside0.mk (Kd.S_lower (Kd.S_new' (Kd.S_new' ho0 (Kd.S_lt (by (with_reducible repeat (first | apply Kd.S_alloc | apply Kd.S_drewN | apply Kd.S_drew)); exact HO719.out))) (Kd.S_lt (by (with_reducible repeat (first | apply Kd.S_alloc | apply Kd.S_drewN | apply Kd.S_drew)); exact HO729.out))) (below_size (by repeat (first | (with_reducible first | exact HB.out | apply below_alloc | apply pw_below_drewN | apply below_drew1 | refine below_set ?_ GE710.out | refine below_set ?_ GE731.out) | exact HB.out))))
        have n3_ := Aside0.mk (blk_below (g := gb710) (o := .cells #[.int .i64 a0_0, .int .i64 a0_1, .int .i64 a0_2, .int .i64 a0_3, .int .i64 a0_4, .slice A0_5 l0_5.length c0_5, .int .i64 a0_6] 51 (0, 0)) (by (with_reducible repeat (first | refine blk_drewN ?_ _ | refine blk_drew ?_ | refine blk_alloc ?_ _)); exact BK710.out) hb)
        have n4_ := Aside0.mk (blk_below (g := gb731) (o := .cells #[.int .i64 t722, .int .i64 t723, .int .i64 t724, .int .i64 t725, .int .i64 t726, .slice Ao27 t727.length co27, .int .i64 t730] 54 (0, 0)) (by (with_reducible repeat (first | refine blk_drewN ?_ _ | refine blk_drew ?_ | refine blk_alloc ?_ _)); exact BK731.out) hb)
        have n5_ := Aside0.mk (below_step (by repeat (first | (with_reducible first | exact HB.out | apply below_alloc | apply pw_below_drewN | apply below_drew1 | refine below_set ?_ GE710.out | refine below_set ?_ GE731.out) | exact HB.out)) hb)
        clear HO719
        clear HO729
        clear BK710
        clear BK731
        clear HB
        have HO719 := n0_
        have HO729 := n1_
        have HO740 := n2_
        have BK710 := n3_
        have BK731 := n4_
        have HB := n5_
        clear n0_ n1_ n2_ n3_ n4_ n5_
        (try clear hb)
        (try clear hb2)
        (try clear hk)
        (try clear hi)
        (try clear ho0)
        obtain ⟨Ao31, co31, eo31⟩ := Kd.S_slice HO740.out
        (first | subst eo31 | (injection eo31 with f1_ f2_ f3_; have f4_ := f1_.symm; have f5_ := f3_.symm; clear f1_ f2_ f3_; subst f4_; subst f5_))
        refine hK.out _ _ ⟨(blk_cell BK731.out 0).trans rfl, (blk_cell BK731.out 1).trans rfl, (blk_cell BK731.out 2).trans rfl, (blk_cell BK731.out 3).trans rfl, (blk_cell BK731.out 4).trans rfl, (blk_cell BK731.out 5).trans rfl, (blk_cell BK731.out 6).trans rfl, (blk_cell BK710.out 0).trans rfl, (blk_cell BK710.out 1).trans rfl, (blk_cell BK710.out 2).trans rfl, (blk_cell BK710.out 3).trans rfl, (blk_cell BK710.out 4).trans rfl, (blk_cell BK710.out 5).trans rfl, (blk_cell BK710.out 6).trans rfl⟩ (fun hHeld => ?_)
        clear hK K
        refine norm_ (a' := ?_) ?_ ?_
        rotate_left
        · show Act.put _ (some 24) _ = _
          simp only [Act.put, List.setIfInBounds_toArray, List.set_cons_zero, List.set_cons_succ, i64_w, i32_w]
          rfl
        refine one_ (i := 3) (N := some 25) #[true, true, true, true, false] rfl rfl (by kernel_rfl) (by decide) (fun K hK => ?_)
        refine goes_ Try.func47 (by kernel_rfl) rfl #[.agg #[.int .i64 t722, .int .i64 t723, .int .i64 t724, .int .i64 t725, .int .i64 t726, .slice Ao27 t727.length co27, .int .i64 t730], .agg #[.int .i64 t733, .int .i64 t734, .int .i64 t735, .int .i64 t736, .int .i64 t737, .slice Ao31 t738.length co31, .int .i64 t741]] (by rfl) rfl rfl (by (try simp only [List.map_toArray, List.map_cons, List.map_nil]); first | done | rfl | (simp only [List.length_drop, List.length_take]; rfl)) ?_
        with_reducible refine (laws_eqAsk.calls k t722 t723 t724 t725 t726 _ _ t727 t730 t733 t734 t735 t736 t737 _ _ t738 t741 true _ ?side1 ?side2 ?side3 ?side4 A13.out).mono ?_
        (case side1 => repeat (first | exact (Kd.S_reads' HO729.out).2.2 | (with_reducible refine Kd.C_alloc ?_ _) | (with_reducible refine Kd.C_drewN ?_ _) | (with_reducible refine Kd.C_drew ?_)))
        (case side2 => exact (Kd.S_reads' HO729.out).2.1)
        (case side3 => repeat (first | exact (Kd.S_reads' HO740.out).2.2 | (with_reducible refine Kd.C_alloc ?_ _) | (with_reducible refine Kd.C_drewN ?_ _) | (with_reducible refine Kd.C_drew ?_)))
        (case side4 => exact (Kd.S_reads' HO740.out).2.1)
        rintro e w32 ⟨rfl, hb⟩
        refine ⟨_, rfl, ?_⟩
        have n0_ := Aside0.mk (Kd.S_below (by (with_reducible repeat (first | apply Kd.S_alloc | apply Kd.S_drewN | apply Kd.S_drew)); exact HO719.out) hb)
        have n1_ := Aside0.mk (Kd.S_below (by (with_reducible repeat (first | apply Kd.S_alloc | apply Kd.S_drewN | apply Kd.S_drew)); exact HO729.out) hb)
        have n2_ := Aside0.mk (Kd.S_below (by (with_reducible repeat (first | apply Kd.S_alloc | apply Kd.S_drewN | apply Kd.S_drew)); exact HO740.out) hb)
        have n3_ := Aside0.mk (blk_below (g := gb710) (o := .cells #[.int .i64 a0_0, .int .i64 a0_1, .int .i64 a0_2, .int .i64 a0_3, .int .i64 a0_4, .slice A0_5 l0_5.length c0_5, .int .i64 a0_6] 51 (0, 0)) (by (with_reducible repeat (first | refine blk_drewN ?_ _ | refine blk_drew ?_ | refine blk_alloc ?_ _)); exact BK710.out) hb)
        have n4_ := Aside0.mk (blk_below (g := gb731) (o := .cells #[.int .i64 t722, .int .i64 t723, .int .i64 t724, .int .i64 t725, .int .i64 t726, .slice Ao27 t727.length co27, .int .i64 t730] 54 (0, 0)) (by (with_reducible repeat (first | refine blk_drewN ?_ _ | refine blk_drew ?_ | refine blk_alloc ?_ _)); exact BK731.out) hb)
        have n5_ := Aside0.mk (below_step (by repeat (first | (with_reducible first | exact HB.out | apply below_alloc | apply pw_below_drewN | apply below_drew1 | refine below_set ?_ GE710.out | refine below_set ?_ GE731.out) | exact HB.out)) hb)
        clear HO719
        clear HO729
        clear HO740
        clear BK710
        clear BK731
        clear HB
        have HO719 := n0_
        have HO729 := n1_
        have HO740 := n2_
        have BK710 := n3_
        have BK731 := n4_
        have HB := n5_
        clear n0_ n1_ n2_ n3_ n4_ n5_
        (try clear hb)
        (try clear hb2)
        (try clear hk)
        (try clear hi)
        refine hK.out _ _ ⟨(blk_cell BK731.out 0).trans rfl, (blk_cell BK731.out 1).trans rfl, (blk_cell BK731.out 2).trans rfl, (blk_cell BK731.out 3).trans rfl, (blk_cell BK731.out 4).trans rfl, (blk_cell BK731.out 5).trans rfl, (blk_cell BK731.out 6).trans rfl, (blk_cell BK710.out 0).trans rfl, (blk_cell BK710.out 1).trans rfl, (blk_cell BK710.out 2).trans rfl, (blk_cell BK710.out 3).trans rfl, (blk_cell BK710.out 4).trans rfl, (blk_cell BK710.out 5).trans rfl, (blk_cell BK710.out 6).trans rfl⟩ (fun hHeld => ?_)
        clear hK K
        refine norm_ (a' := ?_) ?_ ?_
        rotate_left
        · show Act.put _ (some 25) _ = _
          simp only [Act.put, List.setIfInBounds_toArray, List.set_cons_zero, List.set_cons_succ, i64_w, i32_w]
          rfl
        refine pure_ (i := 4) (N := some 26) (v := ?_) (a' := ?_) #[true, true, true, true, true] rfl rfl (by kernel_rfl) (fun _ _ _ h => h) (Or.inl ⟨by rfl, ?_⟩) ?_ ?_
        rotate_left
        · intro w'
          go_simp
          with_reducible rfl
        rotate_left
        · simp only [Act.put, List.setIfInBounds_toArray, List.set_cons_zero, List.set_cons_succ, i64_w, i32_w]
          rfl
        refine done_ (by kernel_rfl) ?_
        try go_wp2
        go_ret
        exact ⟨by first | rfl | (simp [errW_none, errW_some] <;> rfl) | (simp [*, errW_none, errW_some] <;> rfl), by repeat (first | (with_reducible first | exact HB.out | apply below_alloc | apply pw_below_drewN | apply below_drew1 | refine below_set ?_ GE710.out | refine below_set ?_ GE731.out) | exact HB.out)⟩
      · replace c14 := Bool.eq_false_iff.mpr c14
        subst c14
        have H1 : (some false) = some r := by rw [if_neg (show ¬ (false = true) by decide)] at H; exact H
        clear H
        have H := H1
        clear H1
        exact absurd ((Option.some.inj H).trans HT.out) (by decide)

/-- THE ONE PURE STATEMENT of laws_FnExactValidAsk. -/
def laws_FnExactValidAsk.Pure : Prop := ∀ (a0_0 : Int) (a0_1 : Int) (a0_2 : Int) (a0_3 : Int) (a0_4 : Int) (l0_5 : List (List Int)) (a0_6 : Int), (Lit.int .i64 a0_0).wf = true → (Lit.int .i64 a0_1).wf = true → (Lit.int .i64 a0_2).wf = true → (Lit.int .i64 a0_3).wf = true → (Lit.int .i64 a0_4).wf = true → (l0_5.length ≤ maxLen ∧ ∀ y0 ∈ l0_5, (y0.length ≤ maxLen ∧ ∀ y1 ∈ y0, (Lit.int .i64 y1).wf = true)) → (Lit.int .i64 a0_6).wf = true → ∃ k, laws_FnExactValidAsk.f k a0_0 a0_1 a0_2 a0_3 a0_4 l0_5 a0_6 = some true
theorem laws_FnExactValidAsk.walk (P : laws_FnExactValidAsk.Pure) (a0_0 : Int) (a0_1 : Int) (a0_2 : Int) (a0_3 : Int) (a0_4 : Int) (A0_5 : Option Addr) (c0_5 : Nat) (l0_5 : List (List Int)) (a0_6 : Int) (w : World) (hr0_5 : Kd.C (Kd.slice 2 (Kd.int .i64)) w A0_5 l0_5.length l0_5) (hc0_5 : l0_5.length ≤ c0_5) (w0_0 : (Lit.int .i64 a0_0).wf = true) (w0_1 : (Lit.int .i64 a0_1).wf = true) (w0_2 : (Lit.int .i64 a0_2).wf = true) (w0_3 : (Lit.int .i64 a0_3).wf = true) (w0_4 : (Lit.int .i64 a0_4).wf = true) (w0_5 : (l0_5.length ≤ maxLen ∧ ∀ y0 ∈ l0_5, (y0.length ≤ maxLen ∧ ∀ y1 ∈ y0, (Lit.int .i64 y1).wf = true))) (w0_6 : (Lit.int .i64 a0_6).wf = true) :
    Calls Try.prog 13 #[.agg #[.int .i64 a0_0, .int .i64 a0_1, .int .i64 a0_2, .int .i64 a0_3, .int .i64 a0_4, .slice A0_5 l0_5.length c0_5, .int .i64 a0_6]] w fun e w' => e = .returned (.bool true) ∧ Below w.heap.size w w' := by
  obtain ⟨k, h⟩ := P a0_0 a0_1 a0_2 a0_3 a0_4 l0_5 a0_6 w0_0 w0_1 w0_2 w0_3 w0_4 w0_5 w0_6
  refine (laws_FnExactValidAsk.calls k a0_0 a0_1 a0_2 a0_3 a0_4 _ _ l0_5 a0_6 true w hr0_5 hc0_5 rfl h).mono ?_
  rintro e w' ⟨rfl, hd⟩
  exact ⟨rfl, hd⟩

end Go.Proofs.Ythpcepojkhjlfaa.P
end

section
namespace Go.Proofs.Ythpcepojkhjlfaa.Pure
open Go.RowKit Go.Proofs.Ythpcepojkhjlfaa.P Go.Proofs.YthpcepojkhjlfaaW.PrintWords Go.Proofs.YthpcepojkhjlfaaW.PrintLast Go.Proofs.YthpcepojkhjlfaaW.PrintMore
set_option linter.unusedVariables false
set_option linter.unusedSimpArgs false

theorem FnExactValidAsk : laws_FnExactValidAsk.Pure := by
  intro lo st en low hi p rp _ _ _ _ _ ⟨hp, hr⟩ _
  refine Ev.out (r := true) ?_
  have e : maxLen ≤ 9223372036854775807 := by decide
  unfold laws_FnExactValidAsk.f
  obtain ⟨t, et, ct⟩ := szInt64SS_ge p 1048576 (by omega) (by omega) (Nat.le_trans hp e) (fun y hy => Nat.le_trans (hr y hy).1 e)
  rcases ct with ct | ⟨c0, c1, c2, c3⟩
  · refine Ev.bind (a := -1) ?_ (Ev.ite_pos (by omega) (Ev.now _))
    unfold laws_szAsk.f
    exact Ev.bind et (Ev.ite_pos ct (Ev.now _))
  refine Ev.bind (a := t) ?_ (Ev.ite_neg (by omega) ?_)
  · unfold laws_szAsk.f
    exact Ev.bind et (Ev.ite_neg (by omega) (Ev.now _))
  have ta : Ev (fun k => laws_toAsk.f k lo st en low hi p rp) (lo, st, en, low, hi, p, rp) := by
    unfold laws_toAsk.f
    exact Ev.bind (toInt64SS_ev p c2 c3) (Ev.now _)
  have es : Ev (fun k => spec_ValidAsk.f k lo st en low hi p rp) (askB lo st en low hi p rp) := by
    unfold spec_ValidAsk.f
    exact Ev.bind (spec_l15Ok_ev lo st en low hi p rp c2 c3) (Ev.now _)
  refine Ev.bind ta (Ev.bind es (Ev.bind ta (Ev.bind (impl_ValidAsk_ev lo st en low hi p rp c2) (Ev.ite_neg (by simp) (Ev.bind ta (Ev.bind (a := true) ?_ (Ev.ite_pos rfl (Ev.now _))))))))
  unfold laws_eqAsk.f
  exact Ev.ite_pos rfl (Ev.ite_pos rfl (Ev.ite_pos rfl (Ev.ite_pos rfl (Ev.ite_pos rfl (Ev.bind (eqInt64SS_self p c2 c3) (Ev.ite_pos rfl (Ev.ite_pos rfl (Ev.now _))))))))

end Go.Proofs.Ythpcepojkhjlfaa.Pure
end
