/- The pure statement of FnExactEvidenceFor. No condition. -/
import Derived.Test.YtmminpglcflmeaaGe1
import Derived.Test.YtmminpglcflmeaaGe4
import Derived.Test.YtmminpglcflmeaaGe5
import Derived.Test.YtmminpglcflmeaaGe6
import Derived.Test.YtmminpglcflmeaaGe7
section
namespace Go.Proofs.Ytmminpglcflmeaa.P
open Go.RowKit Go.Proofs.YtmminpglcflmeaaW.PrintWords Go.Proofs.YtmminpglcflmeaaW.PrintLast Go.Proofs.YtmminpglcflmeaaW.PrintMore
attribute [local go_sem] max2_int min2_int max_two min_two max_three min_three max_four min_four   -- for this text's walks alone
set_option linter.unusedVariables false
set_option linter.unusedSimpArgs false

/-! ### laws_FnExactEvidenceFor: function 5 -/
def laws_FnExactEvidenceFor.j0 : Nat → List Int → List Int → Bool → ByteArray → List Int → List Int → Int → Int → List (List Int) → ByteArray → List Int → List Int → Int → Int → List (List Int) → Option (Bool)
 | 0, _, _, _, _, _, _, _, _, _, _, _, _, _, _, _ => none
 | k + 1, x1, x10, x54, x470000, x470001, x470002, x470003, x470004, x470005, x502000, x502001, x502002, x502003, x502004, x502005 => if x54 = true then (some false) else ((laws_toRaga.f k x470000 x470001 x470002 x470003 x470004 x470005).bind fun bt508 => ((laws_eqRaga.f k x502000 x502001 x502002 x502003 x502004 x502005 bt508.1 bt508.2.1 bt508.2.2.1 bt508.2.2.2.1 bt508.2.2.2.2.1 bt508.2.2.2.2.2).bind fun t520 => (if t520 = true then ((laws_toInt64S.f k x1).bind fun t521 => ((laws_eqInt64S.f k x10 t521).bind fun t524 => (if t524 = true then (some true) else (some false)))) else (some false))))
def laws_FnExactEvidenceFor.f (k : Nat) (a0_0 : ByteArray) (l0_1 : List Int) (l0_2 : List Int) (a0_3 : Int) (a0_4 : Int) (l0_5 : List (List Int)) (l1 : List Int) : Option (Bool) := if (l1.length : Int) > 1048576 then (some true) else ((laws_szRaga.f k a0_0 l0_1 l0_2 a0_3 a0_4 l0_5 1048576).bind fun t470 => (if t470 < 0 then (some true) else ((laws_toRaga.f k a0_0 l0_1 l0_2 a0_3 a0_4 l0_5).bind fun bt471 => ((laws_toInt64S.f k l1).bind fun t483 => ((spec_EvidenceFor.f k bt471.1 bt471.2.1 bt471.2.2.1 bt471.2.2.2.1 bt471.2.2.2.2.1 bt471.2.2.2.2.2 t483).bind fun bt486 => ((laws_toRaga.f k a0_0 l0_1 l0_2 a0_3 a0_4 l0_5).bind fun bt489 => ((laws_toInt64S.f k l1).bind fun t502 => ((impl_EvidenceFor.f k bt489.1 bt489.2.1 bt489.2.2.1 bt489.2.2.2.1 bt489.2.2.2.2.1 bt489.2.2.2.2.2 t502).bind fun bt505 => (if bt505.1 = bt486.1 then (if bt505.2.1 = bt486.2.1 then (laws_FnExactEvidenceFor.j0 k l1 t502 (bt505.2.2 != bt486.2.2) a0_0 l0_1 l0_2 a0_3 a0_4 l0_5 bt489.1 bt489.2.1 bt489.2.2.1 bt489.2.2.2.1 bt489.2.2.2.2.1 bt489.2.2.2.2.2) else (laws_FnExactEvidenceFor.j0 k l1 t502 true a0_0 l0_1 l0_2 a0_3 a0_4 l0_5 bt489.1 bt489.2.1 bt489.2.2.1 bt489.2.2.2.1 bt489.2.2.2.2.1 bt489.2.2.2.2.2)) else (laws_FnExactEvidenceFor.j0 k l1 t502 true a0_0 l0_1 l0_2 a0_3 a0_4 l0_5 bt489.1 bt489.2.1 bt489.2.2.1 bt489.2.2.2.1 bt489.2.2.2.2.1 bt489.2.2.2.2.2))))))))))
theorem laws_FnExactEvidenceFor.mono_l : ∀ k, (∀ y0 y1 y2 y3 y4 y5 y6 y7 y8 y9 y10 y11 y12 y13 y14, LeO (laws_FnExactEvidenceFor.j0 k y0 y1 y2 y3 y4 y5 y6 y7 y8 y9 y10 y11 y12 y13 y14) (laws_FnExactEvidenceFor.j0 (k + 1) y0 y1 y2 y3 y4 y5 y6 y7 y8 y9 y10 y11 y12 y13 y14))
 | 0 => fun _ _ _ _ _ _ _ _ _ _ _ _ _ _ _ r h => by simp [laws_FnExactEvidenceFor.j0] at h
 | k + 1 => by
  have ih0 := laws_FnExactEvidenceFor.mono_l k
  ·intro y0 y1 y2 y3 y4 y5 y6 y7 y8 y9 y10 y11 y12 y13 y14
   unfold laws_FnExactEvidenceFor.j0
   repeat' first
   | (with_reducible exact ih0 _ _ _ _ _ _ _ _ _ _ _ _ _ _ _)
   | (with_reducible exact impl_EvidenceFor.mono _ _ _ _ _ _ _ _)
   | (with_reducible exact laws_eqInt64S.mono _ _ _)
   | (with_reducible exact laws_eqRaga.mono _ _ _ _ _ _ _ _ _ _ _ _ _)
   | (with_reducible exact laws_szRaga.mono _ _ _ _ _ _ _ _)
   | (with_reducible exact laws_toInt64S.mono _ _)
   | (with_reducible exact laws_toRaga.mono _ _ _ _ _ _ _)
   | (with_reducible exact spec_EvidenceFor.mono _ _ _ _ _ _ _ _)
   | (with_reducible exact LeO.refl _)
   | (with_reducible exact LeO.none _)
   | (with_reducible refine LeO.ite ?_ ?_)
   | (with_reducible refine LeO.bind ?_ (fun _ => ?_))
   | exact ih0 _ _ _ _ _ _ _ _ _ _ _ _ _ _ _
   | exact impl_EvidenceFor.mono _ _ _ _ _ _ _ _
   | exact laws_eqInt64S.mono _ _ _
   | exact laws_eqRaga.mono _ _ _ _ _ _ _ _ _ _ _ _ _
   | exact laws_szRaga.mono _ _ _ _ _ _ _ _
   | exact laws_toInt64S.mono _ _
   | exact laws_toRaga.mono _ _ _ _ _ _ _
   | exact spec_EvidenceFor.mono _ _ _ _ _ _ _ _
   | exact LeO.none _
   | refine LeO.ite ?_ ?_
   | refine LeO.bind ?_ (fun _ => ?_)
theorem laws_FnExactEvidenceFor.mono : ∀ a0 a1 a2 a3 a4 a5 a6 k, LeO (laws_FnExactEvidenceFor.f k a0 a1 a2 a3 a4 a5 a6) (laws_FnExactEvidenceFor.f (k + 1) a0 a1 a2 a3 a4 a5 a6) := by
 intro a0 a1 a2 a3 a4 a5 a6 k
 have ih0 := laws_FnExactEvidenceFor.mono_l k
 unfold laws_FnExactEvidenceFor.f
 repeat' first
   | (with_reducible exact ih0 _ _ _ _ _ _ _ _ _ _ _ _ _ _ _)
   | (with_reducible exact impl_EvidenceFor.mono _ _ _ _ _ _ _ _)
   | (with_reducible exact laws_eqInt64S.mono _ _ _)
   | (with_reducible exact laws_eqRaga.mono _ _ _ _ _ _ _ _ _ _ _ _ _)
   | (with_reducible exact laws_szRaga.mono _ _ _ _ _ _ _ _)
   | (with_reducible exact laws_toInt64S.mono _ _)
   | (with_reducible exact laws_toRaga.mono _ _ _ _ _ _ _)
   | (with_reducible exact spec_EvidenceFor.mono _ _ _ _ _ _ _ _)
   | (with_reducible exact LeO.refl _)
   | (with_reducible exact LeO.none _)
   | (with_reducible refine LeO.ite ?_ ?_)
   | (with_reducible refine LeO.bind ?_ (fun _ => ?_))
   | exact ih0 _ _ _ _ _ _ _ _ _ _ _ _ _ _ _
   | exact impl_EvidenceFor.mono _ _ _ _ _ _ _ _
   | exact laws_eqInt64S.mono _ _ _
   | exact laws_eqRaga.mono _ _ _ _ _ _ _ _ _ _ _ _ _
   | exact laws_szRaga.mono _ _ _ _ _ _ _ _
   | exact laws_toInt64S.mono _ _
   | exact laws_toRaga.mono _ _ _ _ _ _ _
   | exact spec_EvidenceFor.mono _ _ _ _ _ _ _ _
   | exact LeO.none _
   | refine LeO.ite ?_ ?_
   | refine LeO.bind ?_ (fun _ => ?_)
set_option maxHeartbeats 8000000 in
set_option maxRecDepth 100000 in
theorem laws_FnExactEvidenceFor.calls (k : Nat) (a0_0 : ByteArray) (A0_1 : Option Addr) (c0_1 : Nat) (l0_1 : List Int) (A0_2 : Option Addr) (c0_2 : Nat) (l0_2 : List Int) (a0_3 : Int) (a0_4 : Int) (A0_5 : Option Addr) (c0_5 : Nat) (l0_5 : List (List Int)) (A1 : Option Addr) (c1 : Nat) (l1 : List Int) (r : Bool) (w : World) (hr0_1 : Kd.C (Kd.int .i64) w A0_1 l0_1.length l0_1) (hc0_1 : l0_1.length ≤ c0_1) (hr0_2 : Kd.C (Kd.int .i64) w A0_2 l0_2.length l0_2) (hc0_2 : l0_2.length ≤ c0_2) (hr0_5 : Kd.C (Kd.slice 2 (Kd.int .i64)) w A0_5 l0_5.length l0_5) (hc0_5 : l0_5.length ≤ c0_5) (hr1 : Kd.C (Kd.int .i64) w A1 l1.length l1) (hc1 : l1.length ≤ c1) (hT : r = true) (h : laws_FnExactEvidenceFor.f k a0_0 l0_1 l0_2 a0_3 a0_4 l0_5 l1 = some r) :
  Calls Try.prog 5 #[.agg #[.string a0_0, .slice A0_1 l0_1.length c0_1, .slice A0_2 l0_2.length c0_2, .int .i64 a0_3, .int .i64 a0_4, .slice A0_5 l0_5.length c0_5], .slice A1 l1.length c1] w fun e w' => e = .returned (.bool r) ∧ Below w.heap.size w w' := by
 have hu25 := Try.underlying25
 have hu29 := Try.underlying29
 have HR0_1 := Aside0.mk hr0_1
 have HC0_1 := Aside0.mk hc0_1
 clear hr0_1 hc0_1
 have HR0_2 := Aside0.mk hr0_2
 have HC0_2 := Aside0.mk hc0_2
 clear hr0_2 hc0_2
 have HR0_5 := Aside0.mk hr0_5
 have HC0_5 := Aside0.mk hc0_5
 clear hr0_5 hc0_5
 have HR1 := Aside0.mk hr1
 have HC1 := Aside0.mk hc1
 clear hr1 hc1
 have HT := Aside0.mk hT
 clear hT
 have HB := Aside0.mk (Below.refl w.heap.size w)
 have H : (if (l1.length : Int) > 1048576 then (some true) else ((laws_szRaga.f k a0_0 l0_1 l0_2 a0_3 a0_4 l0_5 1048576).bind fun t470 => (if t470 < 0 then (some true) else ((laws_toRaga.f k a0_0 l0_1 l0_2 a0_3 a0_4 l0_5).bind fun bt471 => ((laws_toInt64S.f k l1).bind fun t483 => ((spec_EvidenceFor.f k bt471.1 bt471.2.1 bt471.2.2.1 bt471.2.2.2.1 bt471.2.2.2.2.1 bt471.2.2.2.2.2 t483).bind fun bt486 => ((laws_toRaga.f k a0_0 l0_1 l0_2 a0_3 a0_4 l0_5).bind fun bt489 => ((laws_toInt64S.f k l1).bind fun t502 => ((impl_EvidenceFor.f k bt489.1 bt489.2.1 bt489.2.2.1 bt489.2.2.2.1 bt489.2.2.2.2.1 bt489.2.2.2.2.2 t502).bind fun bt505 => (if bt505.1 = bt486.1 then (if bt505.2.1 = bt486.2.1 then (laws_FnExactEvidenceFor.j0 k l1 t502 (bt505.2.2 != bt486.2.2) a0_0 l0_1 l0_2 a0_3 a0_4 l0_5 bt489.1 bt489.2.1 bt489.2.2.1 bt489.2.2.2.1 bt489.2.2.2.2.1 bt489.2.2.2.2.2) else (laws_FnExactEvidenceFor.j0 k l1 t502 true a0_0 l0_1 l0_2 a0_3 a0_4 l0_5 bt489.1 bt489.2.1 bt489.2.2.1 bt489.2.2.2.1 bt489.2.2.2.2.1 bt489.2.2.2.2.2)) else (laws_FnExactEvidenceFor.j0 k l1 t502 true a0_0 l0_1 l0_2 a0_3 a0_4 l0_5 bt489.1 bt489.2.1 bt489.2.2.1 bt489.2.2.2.1 bt489.2.2.2.2.1 bt489.2.2.2.2.2))))))))))) = some r := h
 clear h
 by_cases c3 : (l1.length : Int) > 1048576
 ·rw [if_pos c3] at H
  have c3b0 : decide (1048576 < (l1.length : Int)) = true := decide_eq_true c3
  have c3b1 : decide (1048576 < l1.length) = true := decide_eq_true (by omega)
  clear c3
  obtain rfl := Option.some.inj H
  go_enter Try.func5, Try.ntmps5
  go_wp2_with (first | ((with_reducible refine gate_dst (N := 2) rfl ?_); refine box_event ?hg (N := 2) ?hd (cs := #[.string a0_0, .slice A0_1 l0_1.length c0_1, .slice A0_2 l0_2.length c0_2, .int .i64 a0_3, .int .i64 a0_4, .slice A0_5 l0_5.length c0_5]) (t := 25) ?hr ?_; (case hd => rfl); (case hg => rfl); (case hr => first | (go_simp; done) | (go_simp; rfl)); intro gb469 hg w4 hbox hb; have n0_ := Aside0.mk (below_step (by repeat (first | exact HB.out | apply below_alloc)) hb); have n1_ := Aside0.mk (hbox); have n2_ := Aside0.mk ((by rw [hg]; exact (below_size (by repeat (first | exact HB.out | apply below_alloc))) : w.heap.size ≤ gb469)); have n3_ := Aside0.mk ((by rw [hg]; exact (below_size (by repeat (first | exact HB.out | apply below_alloc))) : w.heap.size ≤ gb469)); clear HB; have HB := n0_; have BK469 := n1_; have GW469 := n2_; have GE469 := n3_; clear n0_ n1_ n2_ n3_; clear hb hbox hg))
  go_ret
  exact ⟨by first | rfl | (simp [errW_none, errW_some] <;> rfl) | (simp [*, errW_none, errW_some] <;> rfl), by repeat (first | (with_reducible first | exact HB.out | apply below_alloc | apply pw_below_drewN | apply below_drew1 | refine below_set ?_ GE469.out) | exact HB.out)⟩
 ·rw [if_neg c3] at H
  have c3b0 : decide (1048576 < (l1.length : Int)) = false := decide_eq_false c3
  have c3b1 : decide (1048576 < l1.length) = false := decide_eq_false (by omega)
  clear c3
  replace H := Option.bind_eq_some_iff.mp H
  obtain ⟨t470, A50, H⟩ := H
  replace H : (if t470 < 0 then (some true) else ((laws_toRaga.f k a0_0 l0_1 l0_2 a0_3 a0_4 l0_5).bind fun bt471 => ((laws_toInt64S.f k l1).bind fun t483 => ((spec_EvidenceFor.f k bt471.1 bt471.2.1 bt471.2.2.1 bt471.2.2.2.1 bt471.2.2.2.2.1 bt471.2.2.2.2.2 t483).bind fun bt486 => ((laws_toRaga.f k a0_0 l0_1 l0_2 a0_3 a0_4 l0_5).bind fun bt489 => ((laws_toInt64S.f k l1).bind fun t502 => ((impl_EvidenceFor.f k bt489.1 bt489.2.1 bt489.2.2.1 bt489.2.2.2.1 bt489.2.2.2.2.1 bt489.2.2.2.2.2 t502).bind fun bt505 => (if bt505.1 = bt486.1 then (if bt505.2.1 = bt486.2.1 then (laws_FnExactEvidenceFor.j0 k l1 t502 (bt505.2.2 != bt486.2.2) a0_0 l0_1 l0_2 a0_3 a0_4 l0_5 bt489.1 bt489.2.1 bt489.2.2.1 bt489.2.2.2.1 bt489.2.2.2.2.1 bt489.2.2.2.2.2) else (laws_FnExactEvidenceFor.j0 k l1 t502 true a0_0 l0_1 l0_2 a0_3 a0_4 l0_5 bt489.1 bt489.2.1 bt489.2.2.1 bt489.2.2.2.1 bt489.2.2.2.2.1 bt489.2.2.2.2.2)) else (laws_FnExactEvidenceFor.j0 k l1 t502 true a0_0 l0_1 l0_2 a0_3 a0_4 l0_5 bt489.1 bt489.2.1 bt489.2.2.1 bt489.2.2.2.1 bt489.2.2.2.2.1 bt489.2.2.2.2.2))))))))) = some r := H
  have A5 := Aside0.mk A50
  clear A50
  by_cases c6 : t470 < 0
  ·rw [if_pos c6] at H
   have c6b0 : decide (t470 < 0) = true := decide_eq_true c6
   clear c6
   obtain rfl := Option.some.inj H
   go_enter Try.func5, Try.ntmps5
   go_wp2_with (first | ((with_reducible refine gate_dst (N := 2) rfl ?_); refine box_event ?hg (N := 2) ?hd (cs := #[.string a0_0, .slice A0_1 l0_1.length c0_1, .slice A0_2 l0_2.length c0_2, .int .i64 a0_3, .int .i64 a0_4, .slice A0_5 l0_5.length c0_5]) (t := 25) ?hr ?_; (case hd => rfl); (case hg => rfl); (case hr => first | (go_simp; done) | (go_simp; rfl)); intro gb469 hg w7 hbox hb; have n0_ := Aside0.mk (below_step (by repeat (first | exact HB.out | apply below_alloc)) hb); have n1_ := Aside0.mk (hbox); have n2_ := Aside0.mk ((by rw [hg]; exact (below_size (by repeat (first | exact HB.out | apply below_alloc))) : w.heap.size ≤ gb469)); have n3_ := Aside0.mk ((by rw [hg]; exact (below_size (by repeat (first | exact HB.out | apply below_alloc))) : w.heap.size ≤ gb469)); clear HB; have HB := n0_; have BK469 := n1_; have GW469 := n2_; have GE469 := n3_; clear n0_ n1_ n2_ n3_; clear hb hbox hg; have hcz8_0 : w7.cell? ⟨gb469, 0, none⟩ = some (.string a0_0) := (blk_cell BK469.out 0).trans rfl; have hcz8_1 : w7.cell? ⟨gb469, 1, none⟩ = some (.slice A0_1 l0_1.length c0_1) := (blk_cell BK469.out 1).trans rfl; have hcz8_2 : w7.cell? ⟨gb469, 2, none⟩ = some (.slice A0_2 l0_2.length c0_2) := (blk_cell BK469.out 2).trans rfl; have hcz8_3 : w7.cell? ⟨gb469, 3, none⟩ = some (.int .i64 a0_3) := (blk_cell BK469.out 3).trans rfl; have hcz8_4 : w7.cell? ⟨gb469, 4, none⟩ = some (.int .i64 a0_4) := (blk_cell BK469.out 4).trans rfl; have hcz8_5 : w7.cell? ⟨gb469, 5, none⟩ = some (.slice A0_5 l0_5.length c0_5) := (blk_cell BK469.out 5).trans rfl; have hfz8_0 := blk_frozen BK469.out 0; have hfz8_1 := blk_frozen BK469.out 1; have hfz8_2 := blk_frozen BK469.out 2; have hfz8_3 := blk_frozen BK469.out 3; have hfz8_4 := blk_frozen BK469.out 4; have hfz8_5 := blk_frozen BK469.out 5) | ((with_reducible refine gate_callee (f := 15) rfl ?_); refine goesL_ (some 19) rfl rfl Try.func15 (by kernel_rfl) rfl #[.agg #[.string a0_0, .slice A0_1 l0_1.length c0_1, .slice A0_2 l0_2.length c0_2, .int .i64 a0_3, .int .i64 a0_4, .slice A0_5 l0_5.length c0_5], .int .i64 1048576] rfl (by first | rfl | (simp only [List.map_toArray, List.map_cons, List.map_nil]; done) | (simp only [List.map_toArray, List.map_cons, List.map_nil]; rfl)) ?_; (with_reducible refine (laws_szRaga.calls k a0_0 _ _ l0_1 _ _ l0_2 a0_3 a0_4 _ _ l0_5 1048576 t470 _ ?side1 ?side2 ?side3 ?side4 ?side5 ?side6 A5.out).mono ?_); (case side1 => exact (Kd.C_below HR0_1.out HB.out)); (case side2 => exact HC0_1.out); (case side3 => exact (Kd.C_below HR0_2.out HB.out)); (case side4 => exact HC0_2.out); (case side5 => exact (Kd.C_below HR0_5.out HB.out)); (case side6 => exact HC0_5.out); rintro e w9 ⟨rfl, hb⟩; refine ⟨_, rfl, ?_⟩; have n0_ := Aside0.mk (blk_below (g := gb469) (o := .cells #[.string a0_0, .slice A0_1 l0_1.length c0_1, .slice A0_2 l0_2.length c0_2, .int .i64 a0_3, .int .i64 a0_4, .slice A0_5 l0_5.length c0_5] 25 (0, 0)) (by (with_reducible repeat (first | refine blk_drewN ?_ _ | refine blk_drew ?_ | refine blk_alloc ?_ _)); exact BK469.out) hb); have n1_ := Aside0.mk (below_step (by repeat (first | (with_reducible first | exact HB.out | apply below_alloc | apply pw_below_drewN | apply below_drew1 | refine below_set ?_ GE469.out) | exact HB.out)) hb); clear BK469; clear HB; have BK469 := n0_; have HB := n1_; clear n0_ n1_; (try clear hb); (try clear hb2); (try clear hk); (try clear hi)))
   go_ret
   exact ⟨by first | rfl | (simp [errW_none, errW_some] <;> rfl) | (simp [*, errW_none, errW_some] <;> rfl), by repeat (first | (with_reducible first | exact HB.out | apply below_alloc | apply pw_below_drewN | apply below_drew1 | refine below_set ?_ GE469.out) | exact HB.out)⟩
  ·rw [if_neg c6] at H
   have c6b0 : decide (t470 < 0) = false := decide_eq_false c6
   clear c6
   replace H := Option.bind_eq_some_iff.mp H
   obtain ⟨⟨t471, t472, t475, t478, t479, t480⟩, A100, H⟩ := H
   replace H : ((laws_toInt64S.f k l1).bind fun t483 => ((spec_EvidenceFor.f k t471 t472 t475 t478 t479 t480 t483).bind fun bt486 => ((laws_toRaga.f k a0_0 l0_1 l0_2 a0_3 a0_4 l0_5).bind fun bt489 => ((laws_toInt64S.f k l1).bind fun t502 => ((impl_EvidenceFor.f k bt489.1 bt489.2.1 bt489.2.2.1 bt489.2.2.2.1 bt489.2.2.2.2.1 bt489.2.2.2.2.2 t502).bind fun bt505 => (if bt505.1 = bt486.1 then (if bt505.2.1 = bt486.2.1 then (laws_FnExactEvidenceFor.j0 k l1 t502 (bt505.2.2 != bt486.2.2) a0_0 l0_1 l0_2 a0_3 a0_4 l0_5 bt489.1 bt489.2.1 bt489.2.2.1 bt489.2.2.2.1 bt489.2.2.2.2.1 bt489.2.2.2.2.2) else (laws_FnExactEvidenceFor.j0 k l1 t502 true a0_0 l0_1 l0_2 a0_3 a0_4 l0_5 bt489.1 bt489.2.1 bt489.2.2.1 bt489.2.2.2.1 bt489.2.2.2.2.1 bt489.2.2.2.2.2)) else (laws_FnExactEvidenceFor.j0 k l1 t502 true a0_0 l0_1 l0_2 a0_3 a0_4 l0_5 bt489.1 bt489.2.1 bt489.2.2.1 bt489.2.2.2.1 bt489.2.2.2.2.1 bt489.2.2.2.2.2))))))) = some r := H
   have A10 := Aside0.mk A100
   clear A100
   replace H := Option.bind_eq_some_iff.mp H
   obtain ⟨t483, A110, H⟩ := H
   replace H : ((spec_EvidenceFor.f k t471 t472 t475 t478 t479 t480 t483).bind fun bt486 => ((laws_toRaga.f k a0_0 l0_1 l0_2 a0_3 a0_4 l0_5).bind fun bt489 => ((laws_toInt64S.f k l1).bind fun t502 => ((impl_EvidenceFor.f k bt489.1 bt489.2.1 bt489.2.2.1 bt489.2.2.2.1 bt489.2.2.2.2.1 bt489.2.2.2.2.2 t502).bind fun bt505 => (if bt505.1 = bt486.1 then (if bt505.2.1 = bt486.2.1 then (laws_FnExactEvidenceFor.j0 k l1 t502 (bt505.2.2 != bt486.2.2) a0_0 l0_1 l0_2 a0_3 a0_4 l0_5 bt489.1 bt489.2.1 bt489.2.2.1 bt489.2.2.2.1 bt489.2.2.2.2.1 bt489.2.2.2.2.2) else (laws_FnExactEvidenceFor.j0 k l1 t502 true a0_0 l0_1 l0_2 a0_3 a0_4 l0_5 bt489.1 bt489.2.1 bt489.2.2.1 bt489.2.2.2.1 bt489.2.2.2.2.1 bt489.2.2.2.2.2)) else (laws_FnExactEvidenceFor.j0 k l1 t502 true a0_0 l0_1 l0_2 a0_3 a0_4 l0_5 bt489.1 bt489.2.1 bt489.2.2.1 bt489.2.2.2.1 bt489.2.2.2.2.1 bt489.2.2.2.2.2)))))) = some r := H
   have A11 := Aside0.mk A110
   clear A110
   replace H := Option.bind_eq_some_iff.mp H
   obtain ⟨⟨t486, t487, t488⟩, A120, H⟩ := H
   replace H : ((laws_toRaga.f k a0_0 l0_1 l0_2 a0_3 a0_4 l0_5).bind fun bt489 => ((laws_toInt64S.f k l1).bind fun t502 => ((impl_EvidenceFor.f k bt489.1 bt489.2.1 bt489.2.2.1 bt489.2.2.2.1 bt489.2.2.2.2.1 bt489.2.2.2.2.2 t502).bind fun bt505 => (if bt505.1 = t486 then (if bt505.2.1 = t487 then (laws_FnExactEvidenceFor.j0 k l1 t502 (bt505.2.2 != t488) a0_0 l0_1 l0_2 a0_3 a0_4 l0_5 bt489.1 bt489.2.1 bt489.2.2.1 bt489.2.2.2.1 bt489.2.2.2.2.1 bt489.2.2.2.2.2) else (laws_FnExactEvidenceFor.j0 k l1 t502 true a0_0 l0_1 l0_2 a0_3 a0_4 l0_5 bt489.1 bt489.2.1 bt489.2.2.1 bt489.2.2.2.1 bt489.2.2.2.2.1 bt489.2.2.2.2.2)) else (laws_FnExactEvidenceFor.j0 k l1 t502 true a0_0 l0_1 l0_2 a0_3 a0_4 l0_5 bt489.1 bt489.2.1 bt489.2.2.1 bt489.2.2.2.1 bt489.2.2.2.2.1 bt489.2.2.2.2.2))))) = some r := H
   have A12 := Aside0.mk A120
   clear A120
   replace H := Option.bind_eq_some_iff.mp H
   obtain ⟨⟨t489, t490, t493, t496, t497, t498⟩, A130, H⟩ := H
   replace H : ((laws_toInt64S.f k l1).bind fun t502 => ((impl_EvidenceFor.f k t489 t490 t493 t496 t497 t498 t502).bind fun bt505 => (if bt505.1 = t486 then (if bt505.2.1 = t487 then (laws_FnExactEvidenceFor.j0 k l1 t502 (bt505.2.2 != t488) a0_0 l0_1 l0_2 a0_3 a0_4 l0_5 t489 t490 t493 t496 t497 t498) else (laws_FnExactEvidenceFor.j0 k l1 t502 true a0_0 l0_1 l0_2 a0_3 a0_4 l0_5 t489 t490 t493 t496 t497 t498)) else (laws_FnExactEvidenceFor.j0 k l1 t502 true a0_0 l0_1 l0_2 a0_3 a0_4 l0_5 t489 t490 t493 t496 t497 t498)))) = some r := H
   have A13 := Aside0.mk A130
   clear A130
   replace H := Option.bind_eq_some_iff.mp H
   obtain ⟨t502, A140, H⟩ := H
   replace H : ((impl_EvidenceFor.f k t489 t490 t493 t496 t497 t498 t502).bind fun bt505 => (if bt505.1 = t486 then (if bt505.2.1 = t487 then (laws_FnExactEvidenceFor.j0 k l1 t502 (bt505.2.2 != t488) a0_0 l0_1 l0_2 a0_3 a0_4 l0_5 t489 t490 t493 t496 t497 t498) else (laws_FnExactEvidenceFor.j0 k l1 t502 true a0_0 l0_1 l0_2 a0_3 a0_4 l0_5 t489 t490 t493 t496 t497 t498)) else (laws_FnExactEvidenceFor.j0 k l1 t502 true a0_0 l0_1 l0_2 a0_3 a0_4 l0_5 t489 t490 t493 t496 t497 t498))) = some r := H
   have A14 := Aside0.mk A140
   clear A140
   replace H := Option.bind_eq_some_iff.mp H
   obtain ⟨⟨t505, t506, t507⟩, A150, H⟩ := H
   replace H : (if t505 = t486 then (if t506 = t487 then (laws_FnExactEvidenceFor.j0 k l1 t502 (t507 != t488) a0_0 l0_1 l0_2 a0_3 a0_4 l0_5 t489 t490 t493 t496 t497 t498) else (laws_FnExactEvidenceFor.j0 k l1 t502 true a0_0 l0_1 l0_2 a0_3 a0_4 l0_5 t489 t490 t493 t496 t497 t498)) else (laws_FnExactEvidenceFor.j0 k l1 t502 true a0_0 l0_1 l0_2 a0_3 a0_4 l0_5 t489 t490 t493 t496 t497 t498)) = some r := H
   have A15 := Aside0.mk A150
   clear A150
   have HC16 := Aside0.mk H
   clear H
   go_enter Try.func5, Try.ntmps5
   go_upto_region 11 with (first | ((with_reducible refine gate_dst (N := 2) rfl ?_); refine box_event ?hg (N := 2) ?hd (cs := #[.string a0_0, .slice A0_1 l0_1.length c0_1, .slice A0_2 l0_2.length c0_2, .int .i64 a0_3, .int .i64 a0_4, .slice A0_5 l0_5.length c0_5]) (t := 25) ?hr ?_; (case hd => rfl); (case hg => rfl); (case hr => first | (go_simp; done) | (go_simp; rfl)); intro gb469 hg w17 hbox hb; have n0_ := Aside0.mk (below_step (by repeat (first | exact HB.out | apply below_alloc)) hb); have n1_ := Aside0.mk (hbox); have n2_ := Aside0.mk ((by rw [hg]; exact (below_size (by repeat (first | exact HB.out | apply below_alloc))) : w.heap.size ≤ gb469)); have n3_ := Aside0.mk ((by rw [hg]; exact (below_size (by repeat (first | exact HB.out | apply below_alloc))) : w.heap.size ≤ gb469)); clear HB; have HB := n0_; have BK469 := n1_; have GW469 := n2_; have GE469 := n3_; clear n0_ n1_ n2_ n3_; clear hb hbox hg; have hcz18_0 : w17.cell? ⟨gb469, 0, none⟩ = some (.string a0_0) := (blk_cell BK469.out 0).trans rfl; have hcz18_1 : w17.cell? ⟨gb469, 1, none⟩ = some (.slice A0_1 l0_1.length c0_1) := (blk_cell BK469.out 1).trans rfl; have hcz18_2 : w17.cell? ⟨gb469, 2, none⟩ = some (.slice A0_2 l0_2.length c0_2) := (blk_cell BK469.out 2).trans rfl; have hcz18_3 : w17.cell? ⟨gb469, 3, none⟩ = some (.int .i64 a0_3) := (blk_cell BK469.out 3).trans rfl; have hcz18_4 : w17.cell? ⟨gb469, 4, none⟩ = some (.int .i64 a0_4) := (blk_cell BK469.out 4).trans rfl; have hcz18_5 : w17.cell? ⟨gb469, 5, none⟩ = some (.slice A0_5 l0_5.length c0_5) := (blk_cell BK469.out 5).trans rfl; have hfz18_0 := blk_frozen BK469.out 0; have hfz18_1 := blk_frozen BK469.out 1; have hfz18_2 := blk_frozen BK469.out 2; have hfz18_3 := blk_frozen BK469.out 3; have hfz18_4 := blk_frozen BK469.out 4; have hfz18_5 := blk_frozen BK469.out 5) | ((with_reducible refine gate_callee (f := 15) rfl ?_); refine goesL_ (some 19) rfl rfl Try.func15 (by kernel_rfl) rfl #[.agg #[.string a0_0, .slice A0_1 l0_1.length c0_1, .slice A0_2 l0_2.length c0_2, .int .i64 a0_3, .int .i64 a0_4, .slice A0_5 l0_5.length c0_5], .int .i64 1048576] rfl (by first | rfl | (simp only [List.map_toArray, List.map_cons, List.map_nil]; done) | (simp only [List.map_toArray, List.map_cons, List.map_nil]; rfl)) ?_; (with_reducible refine (laws_szRaga.calls k a0_0 _ _ l0_1 _ _ l0_2 a0_3 a0_4 _ _ l0_5 1048576 t470 _ ?side1 ?side2 ?side3 ?side4 ?side5 ?side6 A5.out).mono ?_); (case side1 => exact (Kd.C_below HR0_1.out HB.out)); (case side2 => exact HC0_1.out); (case side3 => exact (Kd.C_below HR0_2.out HB.out)); (case side4 => exact HC0_2.out); (case side5 => exact (Kd.C_below HR0_5.out HB.out)); (case side6 => exact HC0_5.out); rintro e w19 ⟨rfl, hb⟩; refine ⟨_, rfl, ?_⟩; have n0_ := Aside0.mk (blk_below (g := gb469) (o := .cells #[.string a0_0, .slice A0_1 l0_1.length c0_1, .slice A0_2 l0_2.length c0_2, .int .i64 a0_3, .int .i64 a0_4, .slice A0_5 l0_5.length c0_5] 25 (0, 0)) (by (with_reducible repeat (first | refine blk_drewN ?_ _ | refine blk_drew ?_ | refine blk_alloc ?_ _)); exact BK469.out) hb); have n1_ := Aside0.mk (below_step (by repeat (first | (with_reducible first | exact HB.out | apply below_alloc | apply pw_below_drewN | apply below_drew1 | refine below_set ?_ GE469.out) | exact HB.out)) hb); clear BK469; clear HB; have BK469 := n0_; have HB := n1_; clear n0_ n1_; (try clear hb); (try clear hb2); (try clear hk); (try clear hi); have hcz20_0 : w19.cell? ⟨gb469, 0, none⟩ = some (.string a0_0) := (blk_cell BK469.out 0).trans rfl; have hcz20_1 : w19.cell? ⟨gb469, 1, none⟩ = some (.slice A0_1 l0_1.length c0_1) := (blk_cell BK469.out 1).trans rfl; have hcz20_2 : w19.cell? ⟨gb469, 2, none⟩ = some (.slice A0_2 l0_2.length c0_2) := (blk_cell BK469.out 2).trans rfl; have hcz20_3 : w19.cell? ⟨gb469, 3, none⟩ = some (.int .i64 a0_3) := (blk_cell BK469.out 3).trans rfl; have hcz20_4 : w19.cell? ⟨gb469, 4, none⟩ = some (.int .i64 a0_4) := (blk_cell BK469.out 4).trans rfl; have hcz20_5 : w19.cell? ⟨gb469, 5, none⟩ = some (.slice A0_5 l0_5.length c0_5) := (blk_cell BK469.out 5).trans rfl; have hfz20_0 := blk_frozen BK469.out 0; have hfz20_1 := blk_frozen BK469.out 1; have hfz20_2 := blk_frozen BK469.out 2; have hfz20_3 := blk_frozen BK469.out 3; have hfz20_4 := blk_frozen BK469.out 4; have hfz20_5 := blk_frozen BK469.out 5) | ((with_reducible refine gate_callee (f := 17) rfl ?_); refine goesL_ (some 24) rfl rfl Try.func17 (by kernel_rfl) rfl #[.agg #[.string a0_0, .slice A0_1 l0_1.length c0_1, .slice A0_2 l0_2.length c0_2, .int .i64 a0_3, .int .i64 a0_4, .slice A0_5 l0_5.length c0_5]] rfl (by first | rfl | (simp only [List.map_toArray, List.map_cons, List.map_nil]; done) | (simp only [List.map_toArray, List.map_cons, List.map_nil]; rfl)) ?_; (with_reducible refine (laws_toRaga.calls k a0_0 _ _ l0_1 _ _ l0_2 a0_3 a0_4 _ _ l0_5 t471 t472 t475 t478 t479 t480 _ ?side1 ?side2 ?side3 ?side4 ?side5 ?side6 A10.out).mono ?_); (case side1 => exact (Kd.C_below HR0_1.out HB.out)); (case side2 => exact HC0_1.out); (case side3 => exact (Kd.C_below HR0_2.out HB.out)); (case side4 => exact HC0_2.out); (case side5 => exact (Kd.C_below HR0_5.out HB.out)); (case side6 => exact HC0_5.out); rintro e w21 ⟨v473, v476, v481, rfl, ho0, ho1, ho2, hb⟩; refine ⟨_, rfl, ?_⟩; have n0_ := Aside0.mk (Kd.R_lower ho0 (below_size (by repeat (first | (with_reducible first | exact HB.out | apply below_alloc | apply pw_below_drewN | apply below_drew1 | refine below_set ?_ GE469.out) | exact HB.out)))); have n1_ := Aside0.mk (Kd.R_lower ho1 (below_size (by repeat (first | (with_reducible first | exact HB.out | apply below_alloc | apply pw_below_drewN | apply below_drew1 | refine below_set ?_ GE469.out) | exact HB.out)))); have n2_ := Aside0.mk (Kd.S_lower ho2 (below_size (by repeat (first | (with_reducible first | exact HB.out | apply below_alloc | apply pw_below_drewN | apply below_drew1 | refine below_set ?_ GE469.out) | exact HB.out)))); have n3_ := Aside0.mk (blk_below (g := gb469) (o := .cells #[.string a0_0, .slice A0_1 l0_1.length c0_1, .slice A0_2 l0_2.length c0_2, .int .i64 a0_3, .int .i64 a0_4, .slice A0_5 l0_5.length c0_5] 25 (0, 0)) (by (with_reducible repeat (first | refine blk_drewN ?_ _ | refine blk_drew ?_ | refine blk_alloc ?_ _)); exact BK469.out) hb); have n4_ := Aside0.mk (below_step (by repeat (first | (with_reducible first | exact HB.out | apply below_alloc | apply pw_below_drewN | apply below_drew1 | refine below_set ?_ GE469.out) | exact HB.out)) hb); clear BK469; clear HB; have HO474 := n0_; have HO477 := n1_; have HO482 := n2_; have BK469 := n3_; have HB := n4_; clear n0_ n1_ n2_ n3_ n4_; (try clear hb); (try clear hb2); (try clear hk); (try clear hi); (try clear ho0); (try clear ho1); (try clear ho2)) | ((with_reducible refine gate_callee (f := 23) rfl ?_); refine goesL_ (some 26) rfl rfl Try.func23 (by kernel_rfl) rfl #[.slice A1 l1.length c1] rfl (by first | rfl | (simp only [List.map_toArray, List.map_cons, List.map_nil]; done) | (simp only [List.map_toArray, List.map_cons, List.map_nil]; rfl)) ?_; (with_reducible refine (laws_toInt64S.calls k _ _ l1 t483 _ ?side1 ?side2 A11.out).mono ?_); (case side1 => exact (Kd.C_below HR1.out HB.out)); (case side2 => exact HC1.out); rintro e w22 ⟨v484, rfl, ho0, hb⟩; refine ⟨_, rfl, ?_⟩; have n0_ := Aside0.mk (Kd.R_elder' (by (with_reducible repeat (first | apply Kd.R_alloc | apply Kd.R_drewN | apply Kd.R_drew)); exact HO474.out) (Kd.R_base ho0) hb); have n1_ := Aside0.mk (Kd.R_elder' (by (with_reducible repeat (first | apply Kd.R_alloc | apply Kd.R_drewN | apply Kd.R_drew)); exact HO477.out) (Kd.R_base ho0) hb); have n2_ := Aside0.mk (Kd.S_elder' (by (with_reducible repeat (first | apply Kd.S_alloc | apply Kd.S_drewN | apply Kd.S_drew)); exact HO482.out) (Kd.R_base ho0) hb); have n3_ := Aside0.mk (Kd.R_lower (Kd.R_new' (Kd.R_new' ho0 (Kd.R_lt (by (with_reducible repeat (first | apply Kd.R_alloc | apply Kd.R_drewN | apply Kd.R_drew)); exact HO474.out))) (Kd.R_lt (by (with_reducible repeat (first | apply Kd.R_alloc | apply Kd.R_drewN | apply Kd.R_drew)); exact HO477.out))) (below_size (by repeat (first | (with_reducible first | exact HB.out | apply below_alloc | apply pw_below_drewN | apply below_drew1 | refine below_set ?_ GE469.out) | exact HB.out)))); have n4_ := Aside0.mk (blk_below (g := gb469) (o := .cells #[.string a0_0, .slice A0_1 l0_1.length c0_1, .slice A0_2 l0_2.length c0_2, .int .i64 a0_3, .int .i64 a0_4, .slice A0_5 l0_5.length c0_5] 25 (0, 0)) (by (with_reducible repeat (first | refine blk_drewN ?_ _ | refine blk_drew ?_ | refine blk_alloc ?_ _)); exact BK469.out) hb); have n5_ := Aside0.mk (below_step (by repeat (first | (with_reducible first | exact HB.out | apply below_alloc | apply pw_below_drewN | apply below_drew1 | refine below_set ?_ GE469.out) | exact HB.out)) hb); clear HO474; clear HO477; clear HO482; clear BK469; clear HB; have HO474 := n0_; have HO477 := n1_; have HO482 := n2_; have HO485 := n3_; have BK469 := n4_; have HB := n5_; clear n0_ n1_ n2_ n3_ n4_ n5_; (try clear hb); (try clear hb2); (try clear hk); (try clear hi); (try clear ho0); obtain ⟨Ao23, co23, eo23⟩ := Kd.R_slice HO474.out; subst eo23; obtain ⟨Ao24, co24, eo24⟩ := Kd.R_slice HO477.out; subst eo24; obtain ⟨Ao25, co25, eo25⟩ := Kd.S_slice HO482.out; subst eo25; obtain ⟨Ao26, co26, eo26⟩ := Kd.R_slice HO485.out; subst eo26) | ((with_reducible refine gate_callee (f := 22) rfl ?_); refine goesL_ (some 27) rfl rfl Try.func22 (by kernel_rfl) rfl #[.agg #[.string t471, .slice Ao23 t472.length co23, .slice Ao24 t475.length co24, .int .i64 t478, .int .i64 t479, .slice Ao25 t480.length co25], .slice Ao26 t483.length co26] rfl (by first | rfl | (simp only [List.map_toArray, List.map_cons, List.map_nil]; done) | (simp only [List.map_toArray, List.map_cons, List.map_nil]; rfl)) ?_; (with_reducible refine (spec_EvidenceFor.calls k t471 _ _ t472 _ _ t475 t478 t479 _ _ t480 _ _ t483 t486 t487 t488 _ ?side1 ?side2 ?side3 ?side4 ?side5 ?side6 ?side7 ?side8 A12.out).mono ?_); (case side1 => repeat (first | exact (Kd.R_reads' HO474.out).2.2 | (with_reducible refine Kd.C_alloc ?_ _) | (with_reducible refine Kd.C_drewN ?_ _) | (with_reducible refine Kd.C_drew ?_))); (case side2 => exact (Kd.R_reads' HO474.out).2.1); (case side3 => repeat (first | exact (Kd.R_reads' HO477.out).2.2 | (with_reducible refine Kd.C_alloc ?_ _) | (with_reducible refine Kd.C_drewN ?_ _) | (with_reducible refine Kd.C_drew ?_))); (case side4 => exact (Kd.R_reads' HO477.out).2.1); (case side5 => repeat (first | exact (Kd.S_reads' HO482.out).2.2 | (with_reducible refine Kd.C_alloc ?_ _) | (with_reducible refine Kd.C_drewN ?_ _) | (with_reducible refine Kd.C_drew ?_))); (case side6 => exact (Kd.S_reads' HO482.out).2.1); (case side7 => repeat (first | exact (Kd.R_reads' HO485.out).2.2 | (with_reducible refine Kd.C_alloc ?_ _) | (with_reducible refine Kd.C_drewN ?_ _) | (with_reducible refine Kd.C_drew ?_))); (case side8 => exact (Kd.R_reads' HO485.out).2.1); rintro e w27 ⟨rfl, hb⟩; refine ⟨_, rfl, ?_⟩; have n0_ := Aside0.mk (Kd.R_below (by (with_reducible repeat (first | apply Kd.R_alloc | apply Kd.R_drewN | apply Kd.R_drew)); exact HO474.out) hb); have n1_ := Aside0.mk (Kd.R_below (by (with_reducible repeat (first | apply Kd.R_alloc | apply Kd.R_drewN | apply Kd.R_drew)); exact HO477.out) hb); have n2_ := Aside0.mk (Kd.S_below (by (with_reducible repeat (first | apply Kd.S_alloc | apply Kd.S_drewN | apply Kd.S_drew)); exact HO482.out) hb); have n3_ := Aside0.mk (Kd.R_below (by (with_reducible repeat (first | apply Kd.R_alloc | apply Kd.R_drewN | apply Kd.R_drew)); exact HO485.out) hb); have n4_ := Aside0.mk (blk_below (g := gb469) (o := .cells #[.string a0_0, .slice A0_1 l0_1.length c0_1, .slice A0_2 l0_2.length c0_2, .int .i64 a0_3, .int .i64 a0_4, .slice A0_5 l0_5.length c0_5] 25 (0, 0)) (by (with_reducible repeat (first | refine blk_drewN ?_ _ | refine blk_drew ?_ | refine blk_alloc ?_ _)); exact BK469.out) hb); have n5_ := Aside0.mk (below_step (by repeat (first | (with_reducible first | exact HB.out | apply below_alloc | apply pw_below_drewN | apply below_drew1 | refine below_set ?_ GE469.out) | exact HB.out)) hb); clear HO474; clear HO477; clear HO482; clear HO485; clear BK469; clear HB; have HO474 := n0_; have HO477 := n1_; have HO482 := n2_; have HO485 := n3_; have BK469 := n4_; have HB := n5_; clear n0_ n1_ n2_ n3_ n4_ n5_; (try clear hb); (try clear hb2); (try clear hk); (try clear hi); have hcz28_0 : w27.cell? ⟨gb469, 0, none⟩ = some (.string a0_0) := (blk_cell BK469.out 0).trans rfl; have hcz28_1 : w27.cell? ⟨gb469, 1, none⟩ = some (.slice A0_1 l0_1.length c0_1) := (blk_cell BK469.out 1).trans rfl; have hcz28_2 : w27.cell? ⟨gb469, 2, none⟩ = some (.slice A0_2 l0_2.length c0_2) := (blk_cell BK469.out 2).trans rfl; have hcz28_3 : w27.cell? ⟨gb469, 3, none⟩ = some (.int .i64 a0_3) := (blk_cell BK469.out 3).trans rfl; have hcz28_4 : w27.cell? ⟨gb469, 4, none⟩ = some (.int .i64 a0_4) := (blk_cell BK469.out 4).trans rfl; have hcz28_5 : w27.cell? ⟨gb469, 5, none⟩ = some (.slice A0_5 l0_5.length c0_5) := (blk_cell BK469.out 5).trans rfl; have hfz28_0 := blk_frozen BK469.out 0; have hfz28_1 := blk_frozen BK469.out 1; have hfz28_2 := blk_frozen BK469.out 2; have hfz28_3 := blk_frozen BK469.out 3; have hfz28_4 := blk_frozen BK469.out 4; have hfz28_5 := blk_frozen BK469.out 5) | ((with_reducible refine gate_callee (f := 17) rfl ?_); refine goesL_ (some 32) rfl rfl Try.func17 (by kernel_rfl) rfl #[.agg #[.string a0_0, .slice A0_1 l0_1.length c0_1, .slice A0_2 l0_2.length c0_2, .int .i64 a0_3, .int .i64 a0_4, .slice A0_5 l0_5.length c0_5]] rfl (by first | rfl | (simp only [List.map_toArray, List.map_cons, List.map_nil]; done) | (simp only [List.map_toArray, List.map_cons, List.map_nil]; rfl)) ?_; (with_reducible refine (laws_toRaga.calls k a0_0 _ _ l0_1 _ _ l0_2 a0_3 a0_4 _ _ l0_5 t489 t490 t493 t496 t497 t498 _ ?side1 ?side2 ?side3 ?side4 ?side5 ?side6 A13.out).mono ?_); (case side1 => exact (Kd.C_below HR0_1.out HB.out)); (case side2 => exact HC0_1.out); (case side3 => exact (Kd.C_below HR0_2.out HB.out)); (case side4 => exact HC0_2.out); (case side5 => exact (Kd.C_below HR0_5.out HB.out)); (case side6 => exact HC0_5.out); rintro e w29 ⟨v491, v494, v499, rfl, ho0, ho1, ho2, hb⟩; refine ⟨_, rfl, ?_⟩; have n0_ := Aside0.mk (Kd.R_mono (Kd.R_told (Kd.R_told (Kd.R_old (by (with_reducible repeat (first | apply Kd.R_alloc | apply Kd.R_drewN | apply Kd.R_drew)); exact HO474.out) hb) (Kd.R_base ho0)) (Kd.R_base ho1)) (fun _ h_ => h_.1)); have n1_ := Aside0.mk (Kd.R_mono (Kd.R_told (Kd.R_told (Kd.R_old (by (with_reducible repeat (first | apply Kd.R_alloc | apply Kd.R_drewN | apply Kd.R_drew)); exact HO477.out) hb) (Kd.R_base ho0)) (Kd.R_base ho1)) (fun _ h_ => h_.1)); have n2_ := Aside0.mk (Kd.S_mono (Kd.S_told (Kd.S_told (Kd.S_told (Kd.S_old (by (with_reducible repeat (first | apply Kd.S_alloc | apply Kd.S_drewN | apply Kd.S_drew)); exact HO482.out) hb) (Kd.R_base ho0)) (Kd.R_base ho1)) (Kd.S_base ho2)) (fun _ h_ => h_.1)); have n3_ := Aside0.mk (Kd.R_mono (Kd.R_told (Kd.R_told (Kd.R_old (by (with_reducible repeat (first | apply Kd.R_alloc | apply Kd.R_drewN | apply Kd.R_drew)); exact HO485.out) hb) (Kd.R_base ho0)) (Kd.R_base ho1)) (fun _ h_ => h_.1)); have n4_ := Aside0.mk (Kd.R_lower (Kd.R_new' (Kd.R_new' (Kd.R_new' ho0 (Kd.R_lt (by (with_reducible repeat (first | apply Kd.R_alloc | apply Kd.R_drewN | apply Kd.R_drew)); exact HO474.out))) (Kd.R_lt (by (with_reducible repeat (first | apply Kd.R_alloc | apply Kd.R_drewN | apply Kd.R_drew)); exact HO477.out))) (Kd.R_lt (by (with_reducible repeat (first | apply Kd.R_alloc | apply Kd.R_drewN | apply Kd.R_drew)); exact HO485.out))) (below_size (by repeat (first | (with_reducible first | exact HB.out | apply below_alloc | apply pw_below_drewN | apply below_drew1 | refine below_set ?_ GE469.out) | exact HB.out)))); have n5_ := Aside0.mk (Kd.R_lower (Kd.R_new' (Kd.R_new' (Kd.R_new' ho1 (Kd.R_lt (by (with_reducible repeat (first | apply Kd.R_alloc | apply Kd.R_drewN | apply Kd.R_drew)); exact HO474.out))) (Kd.R_lt (by (with_reducible repeat (first | apply Kd.R_alloc | apply Kd.R_drewN | apply Kd.R_drew)); exact HO477.out))) (Kd.R_lt (by (with_reducible repeat (first | apply Kd.R_alloc | apply Kd.R_drewN | apply Kd.R_drew)); exact HO485.out))) (below_size (by repeat (first | (with_reducible first | exact HB.out | apply below_alloc | apply pw_below_drewN | apply below_drew1 | refine below_set ?_ GE469.out) | exact HB.out)))); have n6_ := Aside0.mk (Kd.S_lower (Kd.S_new' (Kd.S_new' (Kd.S_new' (Kd.S_new' ho2 (Kd.R_lt (by (with_reducible repeat (first | apply Kd.R_alloc | apply Kd.R_drewN | apply Kd.R_drew)); exact HO474.out))) (Kd.R_lt (by (with_reducible repeat (first | apply Kd.R_alloc | apply Kd.R_drewN | apply Kd.R_drew)); exact HO477.out))) (Kd.S_lt (by (with_reducible repeat (first | apply Kd.S_alloc | apply Kd.S_drewN | apply Kd.S_drew)); exact HO482.out))) (Kd.R_lt (by (with_reducible repeat (first | apply Kd.R_alloc | apply Kd.R_drewN | apply Kd.R_drew)); exact HO485.out))) (below_size (by repeat (first | (with_reducible first | exact HB.out | apply below_alloc | apply pw_below_drewN | apply below_drew1 | refine below_set ?_ GE469.out) | exact HB.out)))); have n7_ := Aside0.mk (blk_below (g := gb469) (o := .cells #[.string a0_0, .slice A0_1 l0_1.length c0_1, .slice A0_2 l0_2.length c0_2, .int .i64 a0_3, .int .i64 a0_4, .slice A0_5 l0_5.length c0_5] 25 (0, 0)) (by (with_reducible repeat (first | refine blk_drewN ?_ _ | refine blk_drew ?_ | refine blk_alloc ?_ _)); exact BK469.out) hb); have n8_ := Aside0.mk (below_step (by repeat (first | (with_reducible first | exact HB.out | apply below_alloc | apply pw_below_drewN | apply below_drew1 | refine below_set ?_ GE469.out) | exact HB.out)) hb); clear HO474; clear HO477; clear HO482; clear HO485; clear BK469; clear HB; have HO474 := n0_; have HO477 := n1_; have HO482 := n2_; have HO485 := n3_; have HO492 := n4_; have HO495 := n5_; have HO500 := n6_; have BK469 := n7_; have HB := n8_; clear n0_ n1_ n2_ n3_ n4_ n5_ n6_ n7_ n8_; (try clear hb); (try clear hb2); (try clear hk); (try clear hi); (try clear ho0); (try clear ho1); (try clear ho2)) | ((with_reducible refine gate_dst (N := 9) rfl ?_); refine box_event ?hg (N := 9) ?hd (cs := #[.string (⟨#[]⟩ : ByteArray), .slice none 0 0, .slice none 0 0, .int .i64 0, .int .i64 0, .slice none 0 0]) (t := 29) ?hr ?_; (case hd => rfl); (case hg => rfl); (case hr => first | (go_simp; done) | (go_simp; rfl)); intro gb501 hg w30 hbox hb; have n0_ := Aside0.mk (Kd.R_below (by (with_reducible repeat (first | apply Kd.R_alloc | apply Kd.R_drewN | apply Kd.R_drew)); exact HO474.out) hb); have n1_ := Aside0.mk (Kd.R_below (by (with_reducible repeat (first | apply Kd.R_alloc | apply Kd.R_drewN | apply Kd.R_drew)); exact HO477.out) hb); have n2_ := Aside0.mk (Kd.S_below (by (with_reducible repeat (first | apply Kd.S_alloc | apply Kd.S_drewN | apply Kd.S_drew)); exact HO482.out) hb); have n3_ := Aside0.mk (Kd.R_below (by (with_reducible repeat (first | apply Kd.R_alloc | apply Kd.R_drewN | apply Kd.R_drew)); exact HO485.out) hb); have n4_ := Aside0.mk (Kd.R_below (by (with_reducible repeat (first | apply Kd.R_alloc | apply Kd.R_drewN | apply Kd.R_drew)); exact HO492.out) hb); have n5_ := Aside0.mk (Kd.R_below (by (with_reducible repeat (first | apply Kd.R_alloc | apply Kd.R_drewN | apply Kd.R_drew)); exact HO495.out) hb); have n6_ := Aside0.mk (Kd.S_below (by (with_reducible repeat (first | apply Kd.S_alloc | apply Kd.S_drewN | apply Kd.S_drew)); exact HO500.out) hb); have n7_ := Aside0.mk (blk_below (g := gb469) (o := .cells #[.string a0_0, .slice A0_1 l0_1.length c0_1, .slice A0_2 l0_2.length c0_2, .int .i64 a0_3, .int .i64 a0_4, .slice A0_5 l0_5.length c0_5] 25 (0, 0)) (by (with_reducible repeat (first | refine blk_drewN ?_ _ | refine blk_drew ?_ | refine blk_alloc ?_ _)); exact BK469.out) hb); have n8_ := Aside0.mk (below_step (by repeat (first | (with_reducible first | exact HB.out | apply below_alloc | apply pw_below_drewN | apply below_drew1 | refine below_set ?_ GE469.out) | exact HB.out)) hb); have n9_ := Aside0.mk (hbox); have n10_ := Aside0.mk ((by rw [hg]; exact (below_size (by repeat (first | (with_reducible first | exact HB.out | apply below_alloc | apply pw_below_drewN | apply below_drew1 | refine below_set ?_ GE469.out) | exact HB.out))) : w.heap.size ≤ gb501)); have n11_ := Aside0.mk ((by rw [hg]; exact (below_size (by repeat (first | (with_reducible first | exact HB.out | apply below_alloc | apply pw_below_drewN | apply below_drew1 | refine below_set ?_ GE469.out) | exact HB.out))) : w.heap.size ≤ gb501)); have n12_ := Aside0.mk ((by rw [hg]; exact Nat.ne_of_lt (blk_lt (g := gb469) (o := .cells #[.string a0_0, .slice A0_1 l0_1.length c0_1, .slice A0_2 l0_2.length c0_2, .int .i64 a0_3, .int .i64 a0_4, .slice A0_5 l0_5.length c0_5] 25 (0, 0)) (by (with_reducible repeat (first | refine blk_drewN ?_ _ | refine blk_drew ?_ | refine blk_alloc ?_ _)); exact BK469.out)) : gb469 ≠ gb501)); have n13_ := Aside0.mk ((by rw [hg]; exact Nat.ne_of_gt (blk_lt (g := gb469) (o := .cells #[.string a0_0, .slice A0_1 l0_1.length c0_1, .slice A0_2 l0_2.length c0_2, .int .i64 a0_3, .int .i64 a0_4, .slice A0_5 l0_5.length c0_5] 25 (0, 0)) (by (with_reducible repeat (first | refine blk_drewN ?_ _ | refine blk_drew ?_ | refine blk_alloc ?_ _)); exact BK469.out)) : gb501 ≠ gb469)); clear HO474; clear HO477; clear HO482; clear HO485; clear HO492; clear HO495; clear HO500; clear BK469; clear HB; have HO474 := n0_; have HO477 := n1_; have HO482 := n2_; have HO485 := n3_; have HO492 := n4_; have HO495 := n5_; have HO500 := n6_; have BK469 := n7_; have HB := n8_; have BK501 := n9_; have GW501 := n10_; have GE501 := n11_; have NB469_501 := n12_; have NB501_469 := n13_; clear n0_ n1_ n2_ n3_ n4_ n5_ n6_ n7_ n8_ n9_ n10_ n11_ n12_ n13_; clear hb hbox hg; have hnb31 := NB501_469.out; have hnc31 := NB469_501.out; have hcz32_0 : w30.cell? ⟨gb501, 0, none⟩ = some (.string (⟨#[]⟩ : ByteArray)) := (blk_cell BK501.out 0).trans rfl; have hcz32_1 : w30.cell? ⟨gb501, 1, none⟩ = some (.slice none 0 0) := (blk_cell BK501.out 1).trans rfl; have hcz32_2 : w30.cell? ⟨gb501, 2, none⟩ = some (.slice none 0 0) := (blk_cell BK501.out 2).trans rfl; have hcz32_3 : w30.cell? ⟨gb501, 3, none⟩ = some (.int .i64 0) := (blk_cell BK501.out 3).trans rfl; have hcz32_4 : w30.cell? ⟨gb501, 4, none⟩ = some (.int .i64 0) := (blk_cell BK501.out 4).trans rfl; have hcz32_5 : w30.cell? ⟨gb501, 5, none⟩ = some (.slice none 0 0) := (blk_cell BK501.out 5).trans rfl; have hfz32_0 := blk_frozen BK501.out 0; have hfz32_1 := blk_frozen BK501.out 1; have hfz32_2 := blk_frozen BK501.out 2; have hfz32_3 := blk_frozen BK501.out 3; have hfz32_4 := blk_frozen BK501.out 4; have hfz32_5 := blk_frozen BK501.out 5; obtain ⟨Ao33, co33, eo33⟩ := Kd.R_slice HO492.out; subst eo33; obtain ⟨Ao34, co34, eo34⟩ := Kd.R_slice HO495.out; subst eo34; obtain ⟨Ao35, co35, eo35⟩ := Kd.S_slice HO500.out; subst eo35) | ((with_reducible refine gate_callee (f := 23) rfl ?_); refine goesL_ (some 34) rfl rfl Try.func23 (by kernel_rfl) rfl #[.slice A1 l1.length c1] rfl (by first | rfl | (simp only [List.map_toArray, List.map_cons, List.map_nil]; done) | (simp only [List.map_toArray, List.map_cons, List.map_nil]; rfl)) ?_; (with_reducible refine (laws_toInt64S.calls k _ _ l1 t502 _ ?side1 ?side2 A14.out).mono ?_); (case side1 => exact Kd.C_below HR1.out (by repeat (first | (with_reducible first | exact HB.out | apply below_alloc | apply pw_below_drewN | apply below_drew1 | refine below_set ?_ GE469.out | refine below_set ?_ GE501.out) | exact HB.out))); (case side2 => exact HC1.out); rintro e w36 ⟨v503, rfl, ho0, hb⟩; refine ⟨_, rfl, ?_⟩; have n0_ := Aside0.mk (Kd.R_elder' (by (with_reducible repeat (first | apply Kd.R_alloc | apply Kd.R_drewN | apply Kd.R_drew)); exact (Kd.R_mono (Kd.R_far (p := ⟨gb501, 5, none⟩) (Kd.R_far (p := ⟨gb501, 4, none⟩) (Kd.R_far (p := ⟨gb501, 3, none⟩) (Kd.R_far (p := ⟨gb501, 2, none⟩) (Kd.R_far (p := ⟨gb501, 1, none⟩) (Kd.R_far (p := ⟨gb501, 0, none⟩) (Kd.R_types HO474.out BK501.out (by decide)) (fun _ hk => hk.2) (.string t489)) (fun _ hk => hk.2) (.slice Ao33 t490.length co33)) (fun _ hk => hk.2) (.slice Ao34 t493.length co34)) (fun _ hk => hk.2) (.int .i64 t496)) (fun _ hk => hk.2) (.int .i64 t497)) (fun _ hk => hk.2) (.slice Ao35 t498.length co35)) (fun _ h_ => h_.1))) (Kd.R_base ho0) hb); have n1_ := Aside0.mk (Kd.R_elder' (by (with_reducible repeat (first | apply Kd.R_alloc | apply Kd.R_drewN | apply Kd.R_drew)); exact (Kd.R_mono (Kd.R_far (p := ⟨gb501, 5, none⟩) (Kd.R_far (p := ⟨gb501, 4, none⟩) (Kd.R_far (p := ⟨gb501, 3, none⟩) (Kd.R_far (p := ⟨gb501, 2, none⟩) (Kd.R_far (p := ⟨gb501, 1, none⟩) (Kd.R_far (p := ⟨gb501, 0, none⟩) (Kd.R_types HO477.out BK501.out (by decide)) (fun _ hk => hk.2) (.string t489)) (fun _ hk => hk.2) (.slice Ao33 t490.length co33)) (fun _ hk => hk.2) (.slice Ao34 t493.length co34)) (fun _ hk => hk.2) (.int .i64 t496)) (fun _ hk => hk.2) (.int .i64 t497)) (fun _ hk => hk.2) (.slice Ao35 t498.length co35)) (fun _ h_ => h_.1))) (Kd.R_base ho0) hb); have n2_ := Aside0.mk (Kd.S_elder' (by (with_reducible repeat (first | apply Kd.S_alloc | apply Kd.S_drewN | apply Kd.S_drew)); exact (Kd.S_mono (Kd.S_far (p := ⟨gb501, 5, none⟩) (Kd.S_far (p := ⟨gb501, 4, none⟩) (Kd.S_far (p := ⟨gb501, 3, none⟩) (Kd.S_far (p := ⟨gb501, 2, none⟩) (Kd.S_far (p := ⟨gb501, 1, none⟩) (Kd.S_far (p := ⟨gb501, 0, none⟩) (Kd.S_types HO482.out BK501.out (by decide)) (fun _ hk => hk.2) (.string t489)) (fun _ hk => hk.2) (.slice Ao33 t490.length co33)) (fun _ hk => hk.2) (.slice Ao34 t493.length co34)) (fun _ hk => hk.2) (.int .i64 t496)) (fun _ hk => hk.2) (.int .i64 t497)) (fun _ hk => hk.2) (.slice Ao35 t498.length co35)) (fun _ h_ => h_.1))) (Kd.R_base ho0) hb); have n3_ := Aside0.mk (Kd.R_elder' (by (with_reducible repeat (first | apply Kd.R_alloc | apply Kd.R_drewN | apply Kd.R_drew)); exact (Kd.R_mono (Kd.R_far (p := ⟨gb501, 5, none⟩) (Kd.R_far (p := ⟨gb501, 4, none⟩) (Kd.R_far (p := ⟨gb501, 3, none⟩) (Kd.R_far (p := ⟨gb501, 2, none⟩) (Kd.R_far (p := ⟨gb501, 1, none⟩) (Kd.R_far (p := ⟨gb501, 0, none⟩) (Kd.R_types HO485.out BK501.out (by decide)) (fun _ hk => hk.2) (.string t489)) (fun _ hk => hk.2) (.slice Ao33 t490.length co33)) (fun _ hk => hk.2) (.slice Ao34 t493.length co34)) (fun _ hk => hk.2) (.int .i64 t496)) (fun _ hk => hk.2) (.int .i64 t497)) (fun _ hk => hk.2) (.slice Ao35 t498.length co35)) (fun _ h_ => h_.1))) (Kd.R_base ho0) hb); have n4_ := Aside0.mk (Kd.R_elder' (by (with_reducible repeat (first | apply Kd.R_alloc | apply Kd.R_drewN | apply Kd.R_drew)); exact (Kd.R_mono (Kd.R_far (p := ⟨gb501, 5, none⟩) (Kd.R_far (p := ⟨gb501, 4, none⟩) (Kd.R_far (p := ⟨gb501, 3, none⟩) (Kd.R_far (p := ⟨gb501, 2, none⟩) (Kd.R_far (p := ⟨gb501, 1, none⟩) (Kd.R_far (p := ⟨gb501, 0, none⟩) (Kd.R_types HO492.out BK501.out (by decide)) (fun _ hk => hk.2) (.string t489)) (fun _ hk => hk.2) (.slice Ao33 t490.length co33)) (fun _ hk => hk.2) (.slice Ao34 t493.length co34)) (fun _ hk => hk.2) (.int .i64 t496)) (fun _ hk => hk.2) (.int .i64 t497)) (fun _ hk => hk.2) (.slice Ao35 t498.length co35)) (fun _ h_ => h_.1))) (Kd.R_base ho0) hb); have n5_ := Aside0.mk (Kd.R_elder' (by (with_reducible repeat (first | apply Kd.R_alloc | apply Kd.R_drewN | apply Kd.R_drew)); exact (Kd.R_mono (Kd.R_far (p := ⟨gb501, 5, none⟩) (Kd.R_far (p := ⟨gb501, 4, none⟩) (Kd.R_far (p := ⟨gb501, 3, none⟩) (Kd.R_far (p := ⟨gb501, 2, none⟩) (Kd.R_far (p := ⟨gb501, 1, none⟩) (Kd.R_far (p := ⟨gb501, 0, none⟩) (Kd.R_types HO495.out BK501.out (by decide)) (fun _ hk => hk.2) (.string t489)) (fun _ hk => hk.2) (.slice Ao33 t490.length co33)) (fun _ hk => hk.2) (.slice Ao34 t493.length co34)) (fun _ hk => hk.2) (.int .i64 t496)) (fun _ hk => hk.2) (.int .i64 t497)) (fun _ hk => hk.2) (.slice Ao35 t498.length co35)) (fun _ h_ => h_.1))) (Kd.R_base ho0) hb); have n6_ := Aside0.mk (Kd.S_elder' (by (with_reducible repeat (first | apply Kd.S_alloc | apply Kd.S_drewN | apply Kd.S_drew)); exact (Kd.S_mono (Kd.S_far (p := ⟨gb501, 5, none⟩) (Kd.S_far (p := ⟨gb501, 4, none⟩) (Kd.S_far (p := ⟨gb501, 3, none⟩) (Kd.S_far (p := ⟨gb501, 2, none⟩) (Kd.S_far (p := ⟨gb501, 1, none⟩) (Kd.S_far (p := ⟨gb501, 0, none⟩) (Kd.S_types HO500.out BK501.out (by decide)) (fun _ hk => hk.2) (.string t489)) (fun _ hk => hk.2) (.slice Ao33 t490.length co33)) (fun _ hk => hk.2) (.slice Ao34 t493.length co34)) (fun _ hk => hk.2) (.int .i64 t496)) (fun _ hk => hk.2) (.int .i64 t497)) (fun _ hk => hk.2) (.slice Ao35 t498.length co35)) (fun _ h_ => h_.1))) (Kd.R_base ho0) hb); have n7_ := Aside0.mk (Kd.R_lower (Kd.R_new' (Kd.R_new' (Kd.R_new' (Kd.R_new' (Kd.R_new' ho0 (Kd.R_lt (by (with_reducible repeat (first | apply Kd.R_alloc | apply Kd.R_drewN | apply Kd.R_drew)); exact (Kd.R_mono (Kd.R_far (p := ⟨gb501, 5, none⟩) (Kd.R_far (p := ⟨gb501, 4, none⟩) (Kd.R_far (p := ⟨gb501, 3, none⟩) (Kd.R_far (p := ⟨gb501, 2, none⟩) (Kd.R_far (p := ⟨gb501, 1, none⟩) (Kd.R_far (p := ⟨gb501, 0, none⟩) (Kd.R_types HO474.out BK501.out (by decide)) (fun _ hk => hk.2) (.string t489)) (fun _ hk => hk.2) (.slice Ao33 t490.length co33)) (fun _ hk => hk.2) (.slice Ao34 t493.length co34)) (fun _ hk => hk.2) (.int .i64 t496)) (fun _ hk => hk.2) (.int .i64 t497)) (fun _ hk => hk.2) (.slice Ao35 t498.length co35)) (fun _ h_ => h_.1))))) (Kd.R_lt (by (with_reducible repeat (first | apply Kd.R_alloc | apply Kd.R_drewN | apply Kd.R_drew)); exact (Kd.R_mono (Kd.R_far (p := ⟨gb501, 5, none⟩) (Kd.R_far (p := ⟨gb501, 4, none⟩) (Kd.R_far (p := ⟨gb501, 3, none⟩) (Kd.R_far (p := ⟨gb501, 2, none⟩) (Kd.R_far (p := ⟨gb501, 1, none⟩) (Kd.R_far (p := ⟨gb501, 0, none⟩) (Kd.R_types HO477.out BK501.out (by decide)) (fun _ hk => hk.2) (.string t489)) (fun _ hk => hk.2) (.slice Ao33 t490.length co33)) (fun _ hk => hk.2) (.slice Ao34 t493.length co34)) (fun _ hk => hk.2) (.int .i64 t496)) (fun _ hk => hk.2) (.int .i64 t497)) (fun _ hk => hk.2) (.slice Ao35 t498.length co35)) (fun _ h_ => h_.1))))) (Kd.R_lt (by (with_reducible repeat (first | apply Kd.R_alloc | apply Kd.R_drewN | apply Kd.R_drew)); exact (Kd.R_mono (Kd.R_far (p := ⟨gb501, 5, none⟩) (Kd.R_far (p := ⟨gb501, 4, none⟩) (Kd.R_far (p := ⟨gb501, 3, none⟩) (Kd.R_far (p := ⟨gb501, 2, none⟩) (Kd.R_far (p := ⟨gb501, 1, none⟩) (Kd.R_far (p := ⟨gb501, 0, none⟩) (Kd.R_types HO485.out BK501.out (by decide)) (fun _ hk => hk.2) (.string t489)) (fun _ hk => hk.2) (.slice Ao33 t490.length co33)) (fun _ hk => hk.2) (.slice Ao34 t493.length co34)) (fun _ hk => hk.2) (.int .i64 t496)) (fun _ hk => hk.2) (.int .i64 t497)) (fun _ hk => hk.2) (.slice Ao35 t498.length co35)) (fun _ h_ => h_.1))))) (Kd.R_lt (by (with_reducible repeat (first | apply Kd.R_alloc | apply Kd.R_drewN | apply Kd.R_drew)); exact (Kd.R_mono (Kd.R_far (p := ⟨gb501, 5, none⟩) (Kd.R_far (p := ⟨gb501, 4, none⟩) (Kd.R_far (p := ⟨gb501, 3, none⟩) (Kd.R_far (p := ⟨gb501, 2, none⟩) (Kd.R_far (p := ⟨gb501, 1, none⟩) (Kd.R_far (p := ⟨gb501, 0, none⟩) (Kd.R_types HO492.out BK501.out (by decide)) (fun _ hk => hk.2) (.string t489)) (fun _ hk => hk.2) (.slice Ao33 t490.length co33)) (fun _ hk => hk.2) (.slice Ao34 t493.length co34)) (fun _ hk => hk.2) (.int .i64 t496)) (fun _ hk => hk.2) (.int .i64 t497)) (fun _ hk => hk.2) (.slice Ao35 t498.length co35)) (fun _ h_ => h_.1))))) (Kd.R_lt (by (with_reducible repeat (first | apply Kd.R_alloc | apply Kd.R_drewN | apply Kd.R_drew)); exact (Kd.R_mono (Kd.R_far (p := ⟨gb501, 5, none⟩) (Kd.R_far (p := ⟨gb501, 4, none⟩) (Kd.R_far (p := ⟨gb501, 3, none⟩) (Kd.R_far (p := ⟨gb501, 2, none⟩) (Kd.R_far (p := ⟨gb501, 1, none⟩) (Kd.R_far (p := ⟨gb501, 0, none⟩) (Kd.R_types HO495.out BK501.out (by decide)) (fun _ hk => hk.2) (.string t489)) (fun _ hk => hk.2) (.slice Ao33 t490.length co33)) (fun _ hk => hk.2) (.slice Ao34 t493.length co34)) (fun _ hk => hk.2) (.int .i64 t496)) (fun _ hk => hk.2) (.int .i64 t497)) (fun _ hk => hk.2) (.slice Ao35 t498.length co35)) (fun _ h_ => h_.1))))) (below_size (by repeat (first | (with_reducible first | exact HB.out | apply below_alloc | apply pw_below_drewN | apply below_drew1 | refine below_set ?_ GE469.out | refine below_set ?_ GE501.out) | exact HB.out)))); have n8_ := Aside0.mk (blk_below (g := gb469) (o := .cells #[.string a0_0, .slice A0_1 l0_1.length c0_1, .slice A0_2 l0_2.length c0_2, .int .i64 a0_3, .int .i64 a0_4, .slice A0_5 l0_5.length c0_5] 25 (0, 0)) (by (with_reducible repeat (first | refine blk_drewN ?_ _ | refine blk_drew ?_ | refine blk_alloc ?_ _)); refine blk_far ?_ NB469_501.out _; (with_reducible repeat (first | refine blk_drewN ?_ _ | refine blk_drew ?_ | refine blk_alloc ?_ _)); refine blk_far ?_ NB469_501.out _; (with_reducible repeat (first | refine blk_drewN ?_ _ | refine blk_drew ?_ | refine blk_alloc ?_ _)); refine blk_far ?_ NB469_501.out _; (with_reducible repeat (first | refine blk_drewN ?_ _ | refine blk_drew ?_ | refine blk_alloc ?_ _)); refine blk_far ?_ NB469_501.out _; (with_reducible repeat (first | refine blk_drewN ?_ _ | refine blk_drew ?_ | refine blk_alloc ?_ _)); refine blk_far ?_ NB469_501.out _; (with_reducible repeat (first | refine blk_drewN ?_ _ | refine blk_drew ?_ | refine blk_alloc ?_ _)); refine blk_far ?_ NB469_501.out _; (with_reducible repeat (first | refine blk_drewN ?_ _ | refine blk_drew ?_ | refine blk_alloc ?_ _)); exact BK469.out) hb); have n9_ := Aside0.mk (blk_below (g := gb501) (o := .cells #[.string t489, .slice Ao33 t490.length co33, .slice Ao34 t493.length co34, .int .i64 t496, .int .i64 t497, .slice Ao35 t498.length co35] 29 (0, 0)) (by (with_reducible repeat (first | refine blk_drewN ?_ _ | refine blk_drew ?_ | refine blk_alloc ?_ _)); refine blk_put (cs := #[.string t489, .slice Ao33 t490.length co33, .slice Ao34 t493.length co34, .int .i64 t496, .int .i64 t497, .slice none 0 0]) ?_ 5 _ rfl; (with_reducible repeat (first | refine blk_drewN ?_ _ | refine blk_drew ?_ | refine blk_alloc ?_ _)); refine blk_put (cs := #[.string t489, .slice Ao33 t490.length co33, .slice Ao34 t493.length co34, .int .i64 t496, .int .i64 0, .slice none 0 0]) ?_ 4 _ rfl; (with_reducible repeat (first | refine blk_drewN ?_ _ | refine blk_drew ?_ | refine blk_alloc ?_ _)); refine blk_put (cs := #[.string t489, .slice Ao33 t490.length co33, .slice Ao34 t493.length co34, .int .i64 0, .int .i64 0, .slice none 0 0]) ?_ 3 _ rfl; (with_reducible repeat (first | refine blk_drewN ?_ _ | refine blk_drew ?_ | refine blk_alloc ?_ _)); refine blk_put (cs := #[.string t489, .slice Ao33 t490.length co33, .slice none 0 0, .int .i64 0, .int .i64 0, .slice none 0 0]) ?_ 2 _ rfl; (with_reducible repeat (first | refine blk_drewN ?_ _ | refine blk_drew ?_ | refine blk_alloc ?_ _)); refine blk_put (cs := #[.string t489, .slice none 0 0, .slice none 0 0, .int .i64 0, .int .i64 0, .slice none 0 0]) ?_ 1 _ rfl; (with_reducible repeat (first | refine blk_drewN ?_ _ | refine blk_drew ?_ | refine blk_alloc ?_ _)); refine blk_put (cs := #[.string (⟨#[]⟩ : ByteArray), .slice none 0 0, .slice none 0 0, .int .i64 0, .int .i64 0, .slice none 0 0]) ?_ 0 _ rfl; (with_reducible repeat (first | refine blk_drewN ?_ _ | refine blk_drew ?_ | refine blk_alloc ?_ _)); exact BK501.out) hb); have n10_ := Aside0.mk (below_step (by repeat (first | (with_reducible first | exact HB.out | apply below_alloc | apply pw_below_drewN | apply below_drew1 | refine below_set ?_ GE469.out | refine below_set ?_ GE501.out) | exact HB.out)) hb); clear HO474; clear HO477; clear HO482; clear HO485; clear HO492; clear HO495; clear HO500; clear BK469; clear BK501; clear HB; have HO474 := n0_; have HO477 := n1_; have HO482 := n2_; have HO485 := n3_; have HO492 := n4_; have HO495 := n5_; have HO500 := n6_; have HO504 := n7_; have BK469 := n8_; have BK501 := n9_; have HB := n10_; clear n0_ n1_ n2_ n3_ n4_ n5_ n6_ n7_ n8_ n9_ n10_; (try clear hb); (try clear hb2); (try clear hk); (try clear hi); (try clear ho0); have hcz37_0 : w36.cell? ⟨gb501, 0, none⟩ = some (.string t489) := (blk_cell BK501.out 0).trans rfl; have hcz37_1 : w36.cell? ⟨gb501, 1, none⟩ = some (.slice Ao33 t490.length co33) := (blk_cell BK501.out 1).trans rfl; have hcz37_2 : w36.cell? ⟨gb501, 2, none⟩ = some (.slice Ao34 t493.length co34) := (blk_cell BK501.out 2).trans rfl; have hcz37_3 : w36.cell? ⟨gb501, 3, none⟩ = some (.int .i64 t496) := (blk_cell BK501.out 3).trans rfl; have hcz37_4 : w36.cell? ⟨gb501, 4, none⟩ = some (.int .i64 t497) := (blk_cell BK501.out 4).trans rfl; have hcz37_5 : w36.cell? ⟨gb501, 5, none⟩ = some (.slice Ao35 t498.length co35) := (blk_cell BK501.out 5).trans rfl; have hfz37_0 := blk_frozen BK501.out 0; have hfz37_1 := blk_frozen BK501.out 1; have hfz37_2 := blk_frozen BK501.out 2; have hfz37_3 := blk_frozen BK501.out 3; have hfz37_4 := blk_frozen BK501.out 4; have hfz37_5 := blk_frozen BK501.out 5; obtain ⟨Ao38, co38, eo38⟩ := Kd.R_slice HO504.out; subst eo38) | ((with_reducible refine gate_callee (f := 24) rfl ?_); refine goesL_ (some 38) rfl rfl Try.func24 (by kernel_rfl) rfl #[.agg #[.string t489, .slice Ao33 t490.length co33, .slice Ao34 t493.length co34, .int .i64 t496, .int .i64 t497, .slice Ao35 t498.length co35], .slice Ao38 t502.length co38] rfl (by first | rfl | (simp only [List.map_toArray, List.map_cons, List.map_nil]; done) | (simp only [List.map_toArray, List.map_cons, List.map_nil]; rfl)) ?_; (with_reducible refine (impl_EvidenceFor.calls k t489 _ _ t490 _ _ t493 t496 t497 _ _ t498 _ _ t502 t505 t506 t507 _ ?side1 ?side2 ?side3 ?side4 ?side5 ?side6 ?side7 ?side8 A15.out).mono ?_); (case side1 => repeat (first | exact (Kd.R_reads' HO492.out).2.2 | (with_reducible refine Kd.C_alloc ?_ _) | (with_reducible refine Kd.C_drewN ?_ _) | (with_reducible refine Kd.C_drew ?_))); (case side2 => exact (Kd.R_reads' HO492.out).2.1); (case side3 => repeat (first | exact (Kd.R_reads' HO495.out).2.2 | (with_reducible refine Kd.C_alloc ?_ _) | (with_reducible refine Kd.C_drewN ?_ _) | (with_reducible refine Kd.C_drew ?_))); (case side4 => exact (Kd.R_reads' HO495.out).2.1); (case side5 => repeat (first | exact (Kd.S_reads' HO500.out).2.2 | (with_reducible refine Kd.C_alloc ?_ _) | (with_reducible refine Kd.C_drewN ?_ _) | (with_reducible refine Kd.C_drew ?_))); (case side6 => exact (Kd.S_reads' HO500.out).2.1); (case side7 => repeat (first | exact (Kd.R_reads' HO504.out).2.2 | (with_reducible refine Kd.C_alloc ?_ _) | (with_reducible refine Kd.C_drewN ?_ _) | (with_reducible refine Kd.C_drew ?_))); (case side8 => exact (Kd.R_reads' HO504.out).2.1); rintro e w39 ⟨rfl, hb⟩; refine ⟨_, rfl, ?_⟩; have n0_ := Aside0.mk (Kd.R_below (by (with_reducible repeat (first | apply Kd.R_alloc | apply Kd.R_drewN | apply Kd.R_drew)); exact HO474.out) hb); have n1_ := Aside0.mk (Kd.R_below (by (with_reducible repeat (first | apply Kd.R_alloc | apply Kd.R_drewN | apply Kd.R_drew)); exact HO477.out) hb); have n2_ := Aside0.mk (Kd.S_below (by (with_reducible repeat (first | apply Kd.S_alloc | apply Kd.S_drewN | apply Kd.S_drew)); exact HO482.out) hb); have n3_ := Aside0.mk (Kd.R_below (by (with_reducible repeat (first | apply Kd.R_alloc | apply Kd.R_drewN | apply Kd.R_drew)); exact HO485.out) hb); have n4_ := Aside0.mk (Kd.R_below (by (with_reducible repeat (first | apply Kd.R_alloc | apply Kd.R_drewN | apply Kd.R_drew)); exact HO492.out) hb); have n5_ := Aside0.mk (Kd.R_below (by (with_reducible repeat (first | apply Kd.R_alloc | apply Kd.R_drewN | apply Kd.R_drew)); exact HO495.out) hb); have n6_ := Aside0.mk (Kd.S_below (by (with_reducible repeat (first | apply Kd.S_alloc | apply Kd.S_drewN | apply Kd.S_drew)); exact HO500.out) hb); have n7_ := Aside0.mk (Kd.R_below (by (with_reducible repeat (first | apply Kd.R_alloc | apply Kd.R_drewN | apply Kd.R_drew)); exact HO504.out) hb); have n8_ := Aside0.mk (blk_below (g := gb469) (o := .cells #[.string a0_0, .slice A0_1 l0_1.length c0_1, .slice A0_2 l0_2.length c0_2, .int .i64 a0_3, .int .i64 a0_4, .slice A0_5 l0_5.length c0_5] 25 (0, 0)) (by (with_reducible repeat (first | refine blk_drewN ?_ _ | refine blk_drew ?_ | refine blk_alloc ?_ _)); exact BK469.out) hb); have n9_ := Aside0.mk (blk_below (g := gb501) (o := .cells #[.string t489, .slice Ao33 t490.length co33, .slice Ao34 t493.length co34, .int .i64 t496, .int .i64 t497, .slice Ao35 t498.length co35] 29 (0, 0)) (by (with_reducible repeat (first | refine blk_drewN ?_ _ | refine blk_drew ?_ | refine blk_alloc ?_ _)); exact BK501.out) hb); have n10_ := Aside0.mk (below_step (by repeat (first | (with_reducible first | exact HB.out | apply below_alloc | apply pw_below_drewN | apply below_drew1 | refine below_set ?_ GE469.out | refine below_set ?_ GE501.out) | exact HB.out)) hb); clear HO474; clear HO477; clear HO482; clear HO485; clear HO492; clear HO495; clear HO500; clear HO504; clear BK469; clear BK501; clear HB; have HO474 := n0_; have HO477 := n1_; have HO482 := n2_; have HO485 := n3_; have HO492 := n4_; have HO495 := n5_; have HO500 := n6_; have HO504 := n7_; have BK469 := n8_; have BK501 := n9_; have HB := n10_; clear n0_ n1_ n2_ n3_ n4_ n5_ n6_ n7_ n8_ n9_ n10_; (try clear hb); (try clear hb2); (try clear hk); (try clear hi)))
   (try simp only [Act.put, List.setIfInBounds_toArray, List.set_cons_zero, List.set_cons_succ])
   go_cut [54] (fun v54 wc => ∃ (kq : Nat) (x54_15 : Bool), v54 = .bool x54_15 ∧ Aside0 (laws_FnExactEvidenceFor.j0 kq l1 t502 x54_15 a0_0 l0_1 l0_2 a0_3 a0_4 l0_5 t489 t490 t493 t496 t497 t498 = some r) ∧ Aside0 (kq ≤ k) ∧ Aside0 (Kd.R (Kd.int .i64) 2 wc w.heap.size (fun k_ => some k_ ≠ ((.slice Ao33 t490.length co33) : Value).ownBlock ∧ some k_ ≠ ((.slice Ao34 t493.length co34) : Value).ownBlock) (.slice Ao38 t502.length co38) t502) ∧ Aside0 (Kd.R (Kd.int .i64) 2 wc w.heap.size (fun k_ => some k_ ≠ ((.slice Ao38 t502.length co38) : Value).ownBlock ∧ some k_ ≠ ((.slice Ao34 t493.length co34) : Value).ownBlock) (.slice Ao33 t490.length co33) t490) ∧ Aside0 (Kd.R (Kd.int .i64) 2 wc w.heap.size (fun k_ => some k_ ≠ ((.slice Ao38 t502.length co38) : Value).ownBlock ∧ some k_ ≠ ((.slice Ao33 t490.length co33) : Value).ownBlock) (.slice Ao34 t493.length co34) t493) ∧ Aside0 (Kd.S (Kd.slice 2 (Kd.int .i64)) 22 wc w.heap.size (fun k_ => some k_ ≠ ((.slice Ao38 t502.length co38) : Value).ownBlock ∧ some k_ ≠ ((.slice Ao33 t490.length co33) : Value).ownBlock ∧ some k_ ≠ ((.slice Ao34 t493.length co34) : Value).ownBlock) (.slice Ao35 t498.length co35) t498) ∧ Aside0 (wc.heap[gb469]? = some (.cells #[.string a0_0, (.slice A0_1 l0_1.length c0_1), (.slice A0_2 l0_2.length c0_2), .int .i64 a0_3, .int .i64 a0_4, (.slice A0_5 l0_5.length c0_5)] 25 (0, 0))) ∧ Aside0 (wc.heap[gb501]? = some (.cells #[.string t489, (.slice Ao33 t490.length co33), (.slice Ao34 t493.length co34), .int .i64 t496, .int .i64 t497, (.slice Ao35 t498.length co35)] 29 (0, 0))) ∧ Aside0 (Below w.heap.size w wc))
   case first =>
    have H := HC16.out
    clear HC16
    by_cases c40 : t505 = t486
    ·rw [if_pos c40] at H
     have c40b0 : (t505 == t486) = true := beq_iff_eq.mpr c40
     have c40b1 : (t505 != t486) = false := bne_eq_false_iff_eq.mpr c40
     clear c40
     (first | rw [c40b0] | (simp only [i64_w, i32_w]; rw [c40b0]) | skip)
     by_cases c41 : t506 = t487
     ·rw [if_pos c41] at H
      have c41b0 : (t506 == t487) = true := beq_iff_eq.mpr c41
      have c41b1 : (t506 != t487) = false := bne_eq_false_iff_eq.mpr c41
      clear c41
      have H' := Aside0.mk H
      clear H
      go_wp2
      go_meet
      case rel => exact ⟨_, ((t507 != t488)), (by first | rfl | (simp; done) | (simp [*]; done)), H', ⟨by first | omega | exact Nat.le_refl _⟩, ⟨by (with_reducible repeat (first | apply Kd.R_alloc | apply Kd.R_drewN | apply Kd.R_drew)); exact Kd.R_mono HO504.out (fun _ hk => ⟨hk.1.2, hk.2⟩)⟩, ⟨by (with_reducible repeat (first | apply Kd.R_alloc | apply Kd.R_drewN | apply Kd.R_drew)); exact Kd.R_mono HO492.out (fun _ hk => ⟨hk.2, hk.1.1.1.1⟩)⟩, ⟨by (with_reducible repeat (first | apply Kd.R_alloc | apply Kd.R_drewN | apply Kd.R_drew)); exact Kd.R_mono HO495.out (fun _ hk => ⟨hk.2, hk.1.1.1.1⟩)⟩, ⟨by (with_reducible repeat (first | apply Kd.S_alloc | apply Kd.S_drewN | apply Kd.S_drew)); exact Kd.S_mono HO500.out (fun _ hk => ⟨hk.2, ⟨hk.1.1.1.1.1.1, hk.1.1.1.1.1.2⟩⟩)⟩, ⟨by (with_reducible repeat (first | refine blk_drewN ?_ _ | refine blk_drew ?_ | refine blk_alloc ?_ _)); exact BK469.out⟩, ⟨by (with_reducible repeat (first | refine blk_drewN ?_ _ | refine blk_drew ?_ | refine blk_alloc ?_ _)); exact BK501.out⟩, ⟨by repeat (first | (with_reducible first | exact HB.out | apply below_alloc | apply pw_below_drewN | apply below_drew1 | refine below_set ?_ GE469.out | refine below_set ?_ GE501.out) | exact HB.out)⟩⟩
     ·rw [if_neg c41] at H
      have c41b0 : (t506 == t487) = false := beq_eq_false_iff_ne.mpr c41
      have c41b1 : (t506 != t487) = true := bne_iff_ne.mpr c41
      have H' := Aside0.mk H
      clear H
      go_wp2
      go_meet
      case rel => exact ⟨_, (true), (by first | rfl | (simp; done) | (simp [*]; done)), H', ⟨by first | omega | exact Nat.le_refl _⟩, ⟨by (with_reducible repeat (first | apply Kd.R_alloc | apply Kd.R_drewN | apply Kd.R_drew)); exact Kd.R_mono HO504.out (fun _ hk => ⟨hk.1.2, hk.2⟩)⟩, ⟨by (with_reducible repeat (first | apply Kd.R_alloc | apply Kd.R_drewN | apply Kd.R_drew)); exact Kd.R_mono HO492.out (fun _ hk => ⟨hk.2, hk.1.1.1.1⟩)⟩, ⟨by (with_reducible repeat (first | apply Kd.R_alloc | apply Kd.R_drewN | apply Kd.R_drew)); exact Kd.R_mono HO495.out (fun _ hk => ⟨hk.2, hk.1.1.1.1⟩)⟩, ⟨by (with_reducible repeat (first | apply Kd.S_alloc | apply Kd.S_drewN | apply Kd.S_drew)); exact Kd.S_mono HO500.out (fun _ hk => ⟨hk.2, ⟨hk.1.1.1.1.1.1, hk.1.1.1.1.1.2⟩⟩)⟩, ⟨by (with_reducible repeat (first | refine blk_drewN ?_ _ | refine blk_drew ?_ | refine blk_alloc ?_ _)); exact BK469.out⟩, ⟨by (with_reducible repeat (first | refine blk_drewN ?_ _ | refine blk_drew ?_ | refine blk_alloc ?_ _)); exact BK501.out⟩, ⟨by repeat (first | (with_reducible first | exact HB.out | apply below_alloc | apply pw_below_drewN | apply below_drew1 | refine below_set ?_ GE469.out | refine below_set ?_ GE501.out) | exact HB.out)⟩⟩
    ·rw [if_neg c40] at H
     have c40b0 : (t505 == t486) = false := beq_eq_false_iff_ne.mpr c40
     have c40b1 : (t505 != t486) = true := bne_iff_ne.mpr c40
     (first | rw [c40b0] | (simp only [i64_w, i32_w]; rw [c40b0]) | skip)
     have H' := Aside0.mk H
     clear H
     go_wp2
     go_meet
     case rel => exact ⟨_, (true), (by first | rfl | (simp; done) | (simp [*]; done)), H', ⟨by first | omega | exact Nat.le_refl _⟩, ⟨by (with_reducible repeat (first | apply Kd.R_alloc | apply Kd.R_drewN | apply Kd.R_drew)); exact Kd.R_mono HO504.out (fun _ hk => ⟨hk.1.2, hk.2⟩)⟩, ⟨by (with_reducible repeat (first | apply Kd.R_alloc | apply Kd.R_drewN | apply Kd.R_drew)); exact Kd.R_mono HO492.out (fun _ hk => ⟨hk.2, hk.1.1.1.1⟩)⟩, ⟨by (with_reducible repeat (first | apply Kd.R_alloc | apply Kd.R_drewN | apply Kd.R_drew)); exact Kd.R_mono HO495.out (fun _ hk => ⟨hk.2, hk.1.1.1.1⟩)⟩, ⟨by (with_reducible repeat (first | apply Kd.S_alloc | apply Kd.S_drewN | apply Kd.S_drew)); exact Kd.S_mono HO500.out (fun _ hk => ⟨hk.2, ⟨hk.1.1.1.1.1.1, hk.1.1.1.1.1.2⟩⟩)⟩, ⟨by (with_reducible repeat (first | refine blk_drewN ?_ _ | refine blk_drew ?_ | refine blk_alloc ?_ _)); exact BK469.out⟩, ⟨by (with_reducible repeat (first | refine blk_drewN ?_ _ | refine blk_drew ?_ | refine blk_alloc ?_ _)); exact BK501.out⟩, ⟨by repeat (first | (with_reducible first | exact HB.out | apply below_alloc | apply pw_below_drewN | apply below_drew1 | refine below_set ?_ GE469.out | refine below_set ?_ GE501.out) | exact HB.out)⟩⟩
   case rest =>
    clear HC16
    try clear c1
    try clear c2
    try clear p2
    try clear c3
    try clear c3b0
    try clear c3b1
    try clear c4
    try clear c5
    try clear c6
    try clear c6b0
    try clear c15
    try clear c17
    try clear c22
    try clear c23
    try clear c24
    try clear c31
    try clear c40
    try clear c40b0
    try clear c40b1
    try clear c41
    try clear c41b0
    try clear c41b1
    try clear hcz18_0
    try clear hcz18_1
    try clear hcz18_2
    try clear hcz18_3
    try clear hcz18_4
    try clear hcz18_5
    try clear hcz20_0
    try clear hcz20_1
    try clear hcz20_2
    try clear hcz20_3
    try clear hcz20_4
    try clear hcz20_5
    try clear hcz28_0
    try clear hcz28_1
    try clear hcz28_2
    try clear hcz28_3
    try clear hcz28_4
    try clear hcz28_5
    try clear hcz32_0
    try clear hcz32_1
    try clear hcz32_2
    try clear hcz32_3
    try clear hcz32_4
    try clear hcz32_5
    try clear hcz37_0
    try clear hcz37_1
    try clear hcz37_2
    try clear hcz37_3
    try clear hcz37_4
    try clear hcz37_5
    try clear hcz8_0
    try clear hcz8_1
    try clear hcz8_2
    try clear hcz8_3
    try clear hcz8_4
    try clear hcz8_5
    try clear hfz18_0
    try clear hfz18_1
    try clear hfz18_2
    try clear hfz18_3
    try clear hfz18_4
    try clear hfz18_5
    try clear hfz20_0
    try clear hfz20_1
    try clear hfz20_2
    try clear hfz20_3
    try clear hfz20_4
    try clear hfz20_5
    try clear hfz28_0
    try clear hfz28_1
    try clear hfz28_2
    try clear hfz28_3
    try clear hfz28_4
    try clear hfz28_5
    try clear hfz32_0
    try clear hfz32_1
    try clear hfz32_2
    try clear hfz32_3
    try clear hfz32_4
    try clear hfz32_5
    try clear hfz37_0
    try clear hfz37_1
    try clear hfz37_2
    try clear hfz37_3
    try clear hfz37_4
    try clear hfz37_5
    try clear hfz8_0
    try clear hfz8_1
    try clear hfz8_2
    try clear hfz8_3
    try clear hfz8_4
    try clear hfz8_5
    obtain ⟨kq, x54_15, rfl, HA, HJ15, HO_10, HO_502001, HO_502002, HO_502005, BK469, BK501, HB⟩ := hcut
    cases kq with
    | zero => exact absurd HA.out (by simp [laws_FnExactEvidenceFor.j0])
    | succ kj15 =>
     have H := HA.out
     clear HA
     simp only [laws_FnExactEvidenceFor.j0] at H
     by_cases c42 : x54_15 = true
     ·subst c42
      have H1 : (some false) = some r := by rw [if_pos rfl] at H; exact H
      clear H
      have H := H1
      clear H1
      exact absurd ((Option.some.inj H).trans HT.out) (by decide)
     ·replace c42 := Bool.eq_false_iff.mpr c42
      subst c42
      have H1 : ((laws_toRaga.f kj15 a0_0 l0_1 l0_2 a0_3 a0_4 l0_5).bind fun bt508 => ((laws_eqRaga.f kj15 t489 t490 t493 t496 t497 t498 bt508.1 bt508.2.1 bt508.2.2.1 bt508.2.2.2.1 bt508.2.2.2.2.1 bt508.2.2.2.2.2).bind fun t520 => (if t520 = true then ((laws_toInt64S.f kj15 l1).bind fun t521 => ((laws_eqInt64S.f kj15 t502 t521).bind fun t524 => (if t524 = true then (some true) else (some false)))) else (some false)))) = some r := by rw [if_neg (show ¬ (false = true) by decide)] at H; exact H
      clear H
      have H := H1
      clear H1
      replace H := Option.bind_eq_some_iff.mp H
      obtain ⟨⟨t508, t509, t512, t515, t516, t517⟩, A430, H⟩ := H
      replace H : ((laws_eqRaga.f kj15 t489 t490 t493 t496 t497 t498 t508 t509 t512 t515 t516 t517).bind fun t520 => (if t520 = true then ((laws_toInt64S.f kj15 l1).bind fun t521 => ((laws_eqInt64S.f kj15 t502 t521).bind fun t524 => (if t524 = true then (some true) else (some false)))) else (some false))) = some r := H
      have A43 := Aside0.mk A430
      clear A430
      replace H := Option.bind_eq_some_iff.mp H
      obtain ⟨t520, A440, H⟩ := H
      replace H : (if t520 = true then ((laws_toInt64S.f kj15 l1).bind fun t521 => ((laws_eqInt64S.f kj15 t502 t521).bind fun t524 => (if t524 = true then (some true) else (some false)))) else (some false)) = some r := H
      have A44 := Aside0.mk A440
      clear A440
      by_cases c45 : t520 = true
      ·subst c45
       have H1 : ((laws_toInt64S.f kj15 l1).bind fun t521 => ((laws_eqInt64S.f kj15 t502 t521).bind fun t524 => (if t524 = true then (some true) else (some false)))) = some r := by rw [if_pos rfl] at H; exact H
       clear H
       have H := H1
       clear H1
       replace H := Option.bind_eq_some_iff.mp H
       obtain ⟨t521, A460, H⟩ := H
       replace H : ((laws_eqInt64S.f kj15 t502 t521).bind fun t524 => (if t524 = true then (some true) else (some false))) = some r := H
       have A46 := Aside0.mk A460
       clear A460
       replace H := Option.bind_eq_some_iff.mp H
       obtain ⟨t524, A470, H⟩ := H
       replace H : (if t524 = true then (some true) else (some false)) = some r := H
       have A47 := Aside0.mk A470
       clear A470
       by_cases c48 : t524 = true
       ·subst c48
        have H1 : (some true) = some r := by rw [if_pos rfl] at H; exact H
        clear H
        have H := H1
        clear H1
        obtain rfl := Option.some.inj H
        try go_wp2
        have n0_ := Aside0.mk (Kd.R_drew HO_10.out)
        have n1_ := Aside0.mk (Kd.R_drew HO_502001.out)
        have n2_ := Aside0.mk (Kd.R_drew HO_502002.out)
        have n3_ := Aside0.mk (Kd.S_drew HO_502005.out)
        have n4_ := Aside0.mk (blk_drew BK469.out)
        have n5_ := Aside0.mk (blk_drew BK501.out)
        have n6_ := Aside0.mk (below_drew1 HB.out)
        clear HO_10
        clear HO_502001
        clear HO_502002
        clear HO_502005
        clear BK469
        clear BK501
        clear HB
        have HO_10 := n0_
        have HO_502001 := n1_
        have HO_502002 := n2_
        have HO_502005 := n3_
        have BK469 := n4_
        have BK501 := n5_
        have HB := n6_
        clear n0_ n1_ n2_ n3_ n4_ n5_ n6_
        refine start_ (n := 5) (S := fun w' => w'.cell? ⟨gb501, 0, none⟩ = some (.string t489) ∧ w'.cell? ⟨gb501, 1, none⟩ = some (.slice Ao33 t490.length co33) ∧ w'.cell? ⟨gb501, 2, none⟩ = some (.slice Ao34 t493.length co34) ∧ w'.cell? ⟨gb501, 3, none⟩ = some (.int .i64 t496) ∧ w'.cell? ⟨gb501, 4, none⟩ = some (.int .i64 t497) ∧ w'.cell? ⟨gb501, 5, none⟩ = some (.slice Ao35 t498.length co35) ∧ w'.cell? ⟨gb469, 0, none⟩ = some (.string a0_0) ∧ w'.cell? ⟨gb469, 1, none⟩ = some (.slice A0_1 l0_1.length c0_1) ∧ w'.cell? ⟨gb469, 2, none⟩ = some (.slice A0_2 l0_2.length c0_2) ∧ w'.cell? ⟨gb469, 3, none⟩ = some (.int .i64 a0_3) ∧ w'.cell? ⟨gb469, 4, none⟩ = some (.int .i64 a0_4) ∧ w'.cell? ⟨gb469, 5, none⟩ = some (.slice A0_5 l0_5.length c0_5)) (ds := []) #[false, false, false, false, false] (by kernel_rfl) rfl rfl ⟨(blk_cell BK501.out 0).trans rfl, (blk_cell BK501.out 1).trans rfl, (blk_cell BK501.out 2).trans rfl, (blk_cell BK501.out 3).trans rfl, (blk_cell BK501.out 4).trans rfl, (blk_cell BK501.out 5).trans rfl, (blk_cell BK469.out 0).trans rfl, (blk_cell BK469.out 1).trans rfl, (blk_cell BK469.out 2).trans rfl, (blk_cell BK469.out 3).trans rfl, (blk_cell BK469.out 4).trans rfl, (blk_cell BK469.out 5).trans rfl⟩ (fun hHeld => ?_)
        generalize wc.drew = w49 at HO_10 HO_502001 HO_502002 HO_502005 BK469 BK501 HB hHeld ⊢
        refine take_ (i := 0) (N := some 55) (v := ?_) (a' := ?_) #[true, false, false, false, false] rfl rfl (by kernel_rfl) (fun _ _ _ h => h) (Or.inl ⟨by rfl, ?_⟩) hHeld ?_ ?_
        rotate_left
        ·rintro w' ⟨s0, s1, s2, s3, s4, s5, s6, s7, s8, s9, s10, s11⟩
         go_simp
         with_reducible rfl
        rotate_left
        ·go_simp
         rfl
        refine take_ (i := 1) (N := some 56) (v := ?_) (a' := ?_) #[true, true, false, false, false] rfl rfl (by kernel_rfl) (fun _ _ _ h => h) (Or.inl ⟨by rfl, ?_⟩) hHeld ?_ ?_
        rotate_left
        ·rintro w' ⟨s0, s1, s2, s3, s4, s5, s6, s7, s8, s9, s10, s11⟩
         go_simp
         with_reducible rfl
        rotate_left
        ·go_simp
         rfl
        refine one_ (i := 2) (N := some 57) #[true, true, true, false, false] rfl rfl (by kernel_rfl) (by decide) (fun K hK => ?_)
        refine goes_ Try.func17 (by kernel_rfl) rfl #[.agg #[.string a0_0, .slice A0_1 l0_1.length c0_1, .slice A0_2 l0_2.length c0_2, .int .i64 a0_3, .int .i64 a0_4, .slice A0_5 l0_5.length c0_5]] (by rfl) rfl rfl (by first | rfl | (simp only [List.map_toArray, List.map_cons, List.map_nil]; done) | (simp only [List.map_toArray, List.map_cons, List.map_nil]; rfl)) ?_
        with_reducible refine (laws_toRaga.calls kj15 a0_0 _ _ l0_1 _ _ l0_2 a0_3 a0_4 _ _ l0_5 t508 t509 t512 t515 t516 t517 _ ?side1 ?side2 ?side3 ?side4 ?side5 ?side6 A43.out).mono ?_
        (case side1 => exact (Kd.C_below HR0_1.out HB.out))
        (case side2 => exact HC0_1.out)
        (case side3 => exact (Kd.C_below HR0_2.out HB.out))
        (case side4 => exact HC0_2.out)
        (case side5 => exact (Kd.C_below HR0_5.out HB.out))
        (case side6 => exact HC0_5.out)
        rintro e w50 ⟨v510, v513, v518, rfl, ho0, ho1, ho2, hb⟩
        refine ⟨_, rfl, ?_⟩
        have n0_ := Aside0.mk (Kd.R_mono (Kd.R_told (Kd.R_told (Kd.R_old (by (with_reducible repeat (first | apply Kd.R_alloc | apply Kd.R_drewN | apply Kd.R_drew)); exact HO_10.out) hb) (Kd.R_base ho0)) (Kd.R_base ho1)) (fun _ h_ => h_.1))
        have n1_ := Aside0.mk (Kd.R_mono (Kd.R_told (Kd.R_told (Kd.R_old (by (with_reducible repeat (first | apply Kd.R_alloc | apply Kd.R_drewN | apply Kd.R_drew)); exact HO_502001.out) hb) (Kd.R_base ho0)) (Kd.R_base ho1)) (fun _ h_ => h_.1))
        have n2_ := Aside0.mk (Kd.R_mono (Kd.R_told (Kd.R_told (Kd.R_old (by (with_reducible repeat (first | apply Kd.R_alloc | apply Kd.R_drewN | apply Kd.R_drew)); exact HO_502002.out) hb) (Kd.R_base ho0)) (Kd.R_base ho1)) (fun _ h_ => h_.1))
        have n3_ := Aside0.mk (Kd.S_mono (Kd.S_told (Kd.S_told (Kd.S_told (Kd.S_old (by (with_reducible repeat (first | apply Kd.S_alloc | apply Kd.S_drewN | apply Kd.S_drew)); exact HO_502005.out) hb) (Kd.R_base ho0)) (Kd.R_base ho1)) (Kd.S_base ho2)) (fun _ h_ => h_.1))
        have n4_ := Aside0.mk (Kd.R_lower (Kd.R_new' (Kd.R_new' (Kd.R_new' ho0 (Kd.R_lt (by (with_reducible repeat (first | apply Kd.R_alloc | apply Kd.R_drewN | apply Kd.R_drew)); exact HO_10.out))) (Kd.R_lt (by (with_reducible repeat (first | apply Kd.R_alloc | apply Kd.R_drewN | apply Kd.R_drew)); exact HO_502001.out))) (Kd.R_lt (by (with_reducible repeat (first | apply Kd.R_alloc | apply Kd.R_drewN | apply Kd.R_drew)); exact HO_502002.out))) (below_size (by repeat (first | (with_reducible first | exact HB.out | apply below_alloc | apply pw_below_drewN | apply below_drew1 | refine below_set ?_ GE469.out | refine below_set ?_ GE501.out) | exact HB.out))))
        have n5_ := Aside0.mk (Kd.R_lower (Kd.R_new' (Kd.R_new' (Kd.R_new' ho1 (Kd.R_lt (by (with_reducible repeat (first | apply Kd.R_alloc | apply Kd.R_drewN | apply Kd.R_drew)); exact HO_10.out))) (Kd.R_lt (by (with_reducible repeat (first | apply Kd.R_alloc | apply Kd.R_drewN | apply Kd.R_drew)); exact HO_502001.out))) (Kd.R_lt (by (with_reducible repeat (first | apply Kd.R_alloc | apply Kd.R_drewN | apply Kd.R_drew)); exact HO_502002.out))) (below_size (by repeat (first | (with_reducible first | exact HB.out | apply below_alloc | apply pw_below_drewN | apply below_drew1 | refine below_set ?_ GE469.out | refine below_set ?_ GE501.out) | exact HB.out))))
        have n6_ := Aside0.mk (Kd.S_lower (Kd.S_new' (Kd.S_new' (Kd.S_new' (Kd.S_new' ho2 (Kd.R_lt (by (with_reducible repeat (first | apply Kd.R_alloc | apply Kd.R_drewN | apply Kd.R_drew)); exact HO_10.out))) (Kd.R_lt (by (with_reducible repeat (first | apply Kd.R_alloc | apply Kd.R_drewN | apply Kd.R_drew)); exact HO_502001.out))) (Kd.R_lt (by (with_reducible repeat (first | apply Kd.R_alloc | apply Kd.R_drewN | apply Kd.R_drew)); exact HO_502002.out))) (Kd.S_lt (by (with_reducible repeat (first | apply Kd.S_alloc | apply Kd.S_drewN | apply Kd.S_drew)); exact HO_502005.out))) (below_size (by repeat (first | (with_reducible first | exact HB.out | apply below_alloc | apply pw_below_drewN | apply below_drew1 | refine below_set ?_ GE469.out | refine below_set ?_ GE501.out) | exact HB.out))))
        have n7_ := Aside0.mk (blk_below (g := gb469) (o := .cells #[.string a0_0, .slice A0_1 l0_1.length c0_1, .slice A0_2 l0_2.length c0_2, .int .i64 a0_3, .int .i64 a0_4, .slice A0_5 l0_5.length c0_5] 25 (0, 0)) (by (with_reducible repeat (first | refine blk_drewN ?_ _ | refine blk_drew ?_ | refine blk_alloc ?_ _)); exact BK469.out) hb)
        have n8_ := Aside0.mk (blk_below (g := gb501) (o := .cells #[.string t489, .slice Ao33 t490.length co33, .slice Ao34 t493.length co34, .int .i64 t496, .int .i64 t497, .slice Ao35 t498.length co35] 29 (0, 0)) (by (with_reducible repeat (first | refine blk_drewN ?_ _ | refine blk_drew ?_ | refine blk_alloc ?_ _)); exact BK501.out) hb)
        have n9_ := Aside0.mk (below_step (by repeat (first | (with_reducible first | exact HB.out | apply below_alloc | apply pw_below_drewN | apply below_drew1 | refine below_set ?_ GE469.out | refine below_set ?_ GE501.out) | exact HB.out)) hb)
        clear HO_10
        clear HO_502001
        clear HO_502002
        clear HO_502005
        clear BK469
        clear BK501
        clear HB
        have HO_10 := n0_
        have HO_502001 := n1_
        have HO_502002 := n2_
        have HO_502005 := n3_
        have HO511 := n4_
        have HO514 := n5_
        have HO519 := n6_
        have BK469 := n7_
        have BK501 := n8_
        have HB := n9_
        clear n0_ n1_ n2_ n3_ n4_ n5_ n6_ n7_ n8_ n9_
        (try clear hb)
        (try clear hb2)
        (try clear hk)
        (try clear hi)
        (try clear ho0)
        (try clear ho1)
        (try clear ho2)
        obtain ⟨Ao51, co51, eo51⟩ := Kd.R_slice HO511.out
        (first | subst eo51 | (injection eo51 with f1_ f2_ f3_; have f4_ := f1_.symm; have f5_ := f3_.symm; clear f1_ f2_ f3_; subst f4_; subst f5_))
        obtain ⟨Ao52, co52, eo52⟩ := Kd.R_slice HO514.out
        (first | subst eo52 | (injection eo52 with f1_ f2_ f3_; have f4_ := f1_.symm; have f5_ := f3_.symm; clear f1_ f2_ f3_; subst f4_; subst f5_))
        obtain ⟨Ao53, co53, eo53⟩ := Kd.S_slice HO519.out
        (first | subst eo53 | (injection eo53 with f1_ f2_ f3_; have f4_ := f1_.symm; have f5_ := f3_.symm; clear f1_ f2_ f3_; subst f4_; subst f5_))
        refine hK.out _ _ ⟨(blk_cell BK501.out 0).trans rfl, (blk_cell BK501.out 1).trans rfl, (blk_cell BK501.out 2).trans rfl, (blk_cell BK501.out 3).trans rfl, (blk_cell BK501.out 4).trans rfl, (blk_cell BK501.out 5).trans rfl, (blk_cell BK469.out 0).trans rfl, (blk_cell BK469.out 1).trans rfl, (blk_cell BK469.out 2).trans rfl, (blk_cell BK469.out 3).trans rfl, (blk_cell BK469.out 4).trans rfl, (blk_cell BK469.out 5).trans rfl⟩ (fun hHeld => ?_)
        clear hK K
        refine norm_ (a' := ?_) ?_ ?_
        rotate_left
        ·show Act.put _ (some 57) _ = _
         go_simp
         rfl
        refine one_ (i := 3) (N := some 58) #[true, true, true, true, false] rfl rfl (by kernel_rfl) (by decide) (fun K hK => ?_)
        refine goes_ Try.func19 (by kernel_rfl) rfl #[.agg #[.string t489, .slice Ao33 t490.length co33, .slice Ao34 t493.length co34, .int .i64 t496, .int .i64 t497, .slice Ao35 t498.length co35], .agg #[.string t508, .slice Ao51 t509.length co51, .slice Ao52 t512.length co52, .int .i64 t515, .int .i64 t516, .slice Ao53 t517.length co53]] (by rfl) rfl rfl (by first | rfl | (simp only [List.map_toArray, List.map_cons, List.map_nil]; done) | (simp only [List.map_toArray, List.map_cons, List.map_nil]; rfl)) ?_
        with_reducible refine (laws_eqRaga.calls kj15 t489 _ _ t490 _ _ t493 t496 t497 _ _ t498 t508 _ _ t509 _ _ t512 t515 t516 _ _ t517 true _ ?side1 ?side2 ?side3 ?side4 ?side5 ?side6 ?side7 ?side8 ?side9 ?side10 ?side11 ?side12 A44.out).mono ?_
        (case side1 => repeat (first | exact (Kd.R_reads' HO_502001.out).2.2 | (with_reducible refine Kd.C_alloc ?_ _) | (with_reducible refine Kd.C_drewN ?_ _) | (with_reducible refine Kd.C_drew ?_)))
        (case side2 => exact (Kd.R_reads' HO_502001.out).2.1)
        (case side3 => repeat (first | exact (Kd.R_reads' HO_502002.out).2.2 | (with_reducible refine Kd.C_alloc ?_ _) | (with_reducible refine Kd.C_drewN ?_ _) | (with_reducible refine Kd.C_drew ?_)))
        (case side4 => exact (Kd.R_reads' HO_502002.out).2.1)
        (case side5 => repeat (first | exact (Kd.S_reads' HO_502005.out).2.2 | (with_reducible refine Kd.C_alloc ?_ _) | (with_reducible refine Kd.C_drewN ?_ _) | (with_reducible refine Kd.C_drew ?_)))
        (case side6 => exact (Kd.S_reads' HO_502005.out).2.1)
        (case side7 => repeat (first | exact (Kd.R_reads' HO511.out).2.2 | (with_reducible refine Kd.C_alloc ?_ _) | (with_reducible refine Kd.C_drewN ?_ _) | (with_reducible refine Kd.C_drew ?_)))
        (case side8 => exact (Kd.R_reads' HO511.out).2.1)
        (case side9 => repeat (first | exact (Kd.R_reads' HO514.out).2.2 | (with_reducible refine Kd.C_alloc ?_ _) | (with_reducible refine Kd.C_drewN ?_ _) | (with_reducible refine Kd.C_drew ?_)))
        (case side10 => exact (Kd.R_reads' HO514.out).2.1)
        (case side11 => repeat (first | exact (Kd.S_reads' HO519.out).2.2 | (with_reducible refine Kd.C_alloc ?_ _) | (with_reducible refine Kd.C_drewN ?_ _) | (with_reducible refine Kd.C_drew ?_)))
        (case side12 => exact (Kd.S_reads' HO519.out).2.1)
        rintro e w54 ⟨rfl, hb⟩
        refine ⟨_, rfl, ?_⟩
        have n0_ := Aside0.mk (Kd.R_below (by (with_reducible repeat (first | apply Kd.R_alloc | apply Kd.R_drewN | apply Kd.R_drew)); exact HO_10.out) hb)
        have n1_ := Aside0.mk (Kd.R_below (by (with_reducible repeat (first | apply Kd.R_alloc | apply Kd.R_drewN | apply Kd.R_drew)); exact HO_502001.out) hb)
        have n2_ := Aside0.mk (Kd.R_below (by (with_reducible repeat (first | apply Kd.R_alloc | apply Kd.R_drewN | apply Kd.R_drew)); exact HO_502002.out) hb)
        have n3_ := Aside0.mk (Kd.S_below (by (with_reducible repeat (first | apply Kd.S_alloc | apply Kd.S_drewN | apply Kd.S_drew)); exact HO_502005.out) hb)
        have n4_ := Aside0.mk (Kd.R_below (by (with_reducible repeat (first | apply Kd.R_alloc | apply Kd.R_drewN | apply Kd.R_drew)); exact HO511.out) hb)
        have n5_ := Aside0.mk (Kd.R_below (by (with_reducible repeat (first | apply Kd.R_alloc | apply Kd.R_drewN | apply Kd.R_drew)); exact HO514.out) hb)
        have n6_ := Aside0.mk (Kd.S_below (by (with_reducible repeat (first | apply Kd.S_alloc | apply Kd.S_drewN | apply Kd.S_drew)); exact HO519.out) hb)
        have n7_ := Aside0.mk (blk_below (g := gb469) (o := .cells #[.string a0_0, .slice A0_1 l0_1.length c0_1, .slice A0_2 l0_2.length c0_2, .int .i64 a0_3, .int .i64 a0_4, .slice A0_5 l0_5.length c0_5] 25 (0, 0)) (by (with_reducible repeat (first | refine blk_drewN ?_ _ | refine blk_drew ?_ | refine blk_alloc ?_ _)); exact BK469.out) hb)
        have n8_ := Aside0.mk (blk_below (g := gb501) (o := .cells #[.string t489, .slice Ao33 t490.length co33, .slice Ao34 t493.length co34, .int .i64 t496, .int .i64 t497, .slice Ao35 t498.length co35] 29 (0, 0)) (by (with_reducible repeat (first | refine blk_drewN ?_ _ | refine blk_drew ?_ | refine blk_alloc ?_ _)); exact BK501.out) hb)
        have n9_ := Aside0.mk (below_step (by repeat (first | (with_reducible first | exact HB.out | apply below_alloc | apply pw_below_drewN | apply below_drew1 | refine below_set ?_ GE469.out | refine below_set ?_ GE501.out) | exact HB.out)) hb)
        clear HO_10
        clear HO_502001
        clear HO_502002
        clear HO_502005
        clear HO511
        clear HO514
        clear HO519
        clear BK469
        clear BK501
        clear HB
        have HO_10 := n0_
        have HO_502001 := n1_
        have HO_502002 := n2_
        have HO_502005 := n3_
        have HO511 := n4_
        have HO514 := n5_
        have HO519 := n6_
        have BK469 := n7_
        have BK501 := n8_
        have HB := n9_
        clear n0_ n1_ n2_ n3_ n4_ n5_ n6_ n7_ n8_ n9_
        (try clear hb)
        (try clear hb2)
        (try clear hk)
        (try clear hi)
        refine hK.out _ _ ⟨(blk_cell BK501.out 0).trans rfl, (blk_cell BK501.out 1).trans rfl, (blk_cell BK501.out 2).trans rfl, (blk_cell BK501.out 3).trans rfl, (blk_cell BK501.out 4).trans rfl, (blk_cell BK501.out 5).trans rfl, (blk_cell BK469.out 0).trans rfl, (blk_cell BK469.out 1).trans rfl, (blk_cell BK469.out 2).trans rfl, (blk_cell BK469.out 3).trans rfl, (blk_cell BK469.out 4).trans rfl, (blk_cell BK469.out 5).trans rfl⟩ (fun hHeld => ?_)
        clear hK K
        refine norm_ (a' := ?_) ?_ ?_
        rotate_left
        ·show Act.put _ (some 58) _ = _
         go_simp
         rfl
        refine pure_ (i := 4) (N := some 59) (v := ?_) (a' := ?_) #[true, true, true, true, true] rfl rfl (by kernel_rfl) (fun _ _ _ h => h) (Or.inl ⟨by rfl, ?_⟩) ?_ ?_
        rotate_left
        ·intro w'; go_simp; with_reducible rfl
        rotate_left
        ·go_simp; rfl
        refine done_ (by kernel_rfl) ?_
        try go_wp2_with (first | ((with_reducible refine gate_callee (f := 23) rfl ?_); refine goesL_ (some 62) rfl rfl Try.func23 (by kernel_rfl) rfl #[.slice A1 l1.length c1] rfl (by first | rfl | (simp only [List.map_toArray, List.map_cons, List.map_nil]; done) | (simp only [List.map_toArray, List.map_cons, List.map_nil]; rfl)) ?_; (with_reducible refine (laws_toInt64S.calls kj15 _ _ l1 t521 _ ?side1 ?side2 A46.out).mono ?_); (case side1 => exact (Kd.C_below HR1.out HB.out)); (case side2 => exact HC1.out); rintro e w55 ⟨v522, rfl, ho0, hb⟩; refine ⟨_, rfl, ?_⟩; have n0_ := Aside0.mk (Kd.R_elder' (by (with_reducible repeat (first | apply Kd.R_alloc | apply Kd.R_drewN | apply Kd.R_drew)); exact HO_10.out) (Kd.R_base ho0) hb); have n1_ := Aside0.mk (Kd.R_elder' (by (with_reducible repeat (first | apply Kd.R_alloc | apply Kd.R_drewN | apply Kd.R_drew)); exact HO_502001.out) (Kd.R_base ho0) hb); have n2_ := Aside0.mk (Kd.R_elder' (by (with_reducible repeat (first | apply Kd.R_alloc | apply Kd.R_drewN | apply Kd.R_drew)); exact HO_502002.out) (Kd.R_base ho0) hb); have n3_ := Aside0.mk (Kd.S_elder' (by (with_reducible repeat (first | apply Kd.S_alloc | apply Kd.S_drewN | apply Kd.S_drew)); exact HO_502005.out) (Kd.R_base ho0) hb); have n4_ := Aside0.mk (Kd.R_elder' (by (with_reducible repeat (first | apply Kd.R_alloc | apply Kd.R_drewN | apply Kd.R_drew)); exact HO511.out) (Kd.R_base ho0) hb); have n5_ := Aside0.mk (Kd.R_elder' (by (with_reducible repeat (first | apply Kd.R_alloc | apply Kd.R_drewN | apply Kd.R_drew)); exact HO514.out) (Kd.R_base ho0) hb); have n6_ := Aside0.mk (Kd.S_elder' (by (with_reducible repeat (first | apply Kd.S_alloc | apply Kd.S_drewN | apply Kd.S_drew)); exact HO519.out) (Kd.R_base ho0) hb); have n7_ := Aside0.mk (Kd.R_lower (Kd.R_new' (Kd.R_new' (Kd.R_new' (Kd.R_new' (Kd.R_new' ho0 (Kd.R_lt (by (with_reducible repeat (first | apply Kd.R_alloc | apply Kd.R_drewN | apply Kd.R_drew)); exact HO_10.out))) (Kd.R_lt (by (with_reducible repeat (first | apply Kd.R_alloc | apply Kd.R_drewN | apply Kd.R_drew)); exact HO_502001.out))) (Kd.R_lt (by (with_reducible repeat (first | apply Kd.R_alloc | apply Kd.R_drewN | apply Kd.R_drew)); exact HO_502002.out))) (Kd.R_lt (by (with_reducible repeat (first | apply Kd.R_alloc | apply Kd.R_drewN | apply Kd.R_drew)); exact HO511.out))) (Kd.R_lt (by (with_reducible repeat (first | apply Kd.R_alloc | apply Kd.R_drewN | apply Kd.R_drew)); exact HO514.out))) (below_size (by repeat (first | (with_reducible first | exact HB.out | apply below_alloc | apply pw_below_drewN | apply below_drew1 | refine below_set ?_ GE469.out | refine below_set ?_ GE501.out) | exact HB.out)))); have n8_ := Aside0.mk (blk_below (g := gb469) (o := .cells #[.string a0_0, .slice A0_1 l0_1.length c0_1, .slice A0_2 l0_2.length c0_2, .int .i64 a0_3, .int .i64 a0_4, .slice A0_5 l0_5.length c0_5] 25 (0, 0)) (by (with_reducible repeat (first | refine blk_drewN ?_ _ | refine blk_drew ?_ | refine blk_alloc ?_ _)); exact BK469.out) hb); have n9_ := Aside0.mk (blk_below (g := gb501) (o := .cells #[.string t489, .slice Ao33 t490.length co33, .slice Ao34 t493.length co34, .int .i64 t496, .int .i64 t497, .slice Ao35 t498.length co35] 29 (0, 0)) (by (with_reducible repeat (first | refine blk_drewN ?_ _ | refine blk_drew ?_ | refine blk_alloc ?_ _)); exact BK501.out) hb); have n10_ := Aside0.mk (below_step (by repeat (first | (with_reducible first | exact HB.out | apply below_alloc | apply pw_below_drewN | apply below_drew1 | refine below_set ?_ GE469.out | refine below_set ?_ GE501.out) | exact HB.out)) hb); clear HO_10; clear HO_502001; clear HO_502002; clear HO_502005; clear HO511; clear HO514; clear HO519; clear BK469; clear BK501; clear HB; have HO_10 := n0_; have HO_502001 := n1_; have HO_502002 := n2_; have HO_502005 := n3_; have HO511 := n4_; have HO514 := n5_; have HO519 := n6_; have HO523 := n7_; have BK469 := n8_; have BK501 := n9_; have HB := n10_; clear n0_ n1_ n2_ n3_ n4_ n5_ n6_ n7_ n8_ n9_ n10_; (try clear hb); (try clear hb2); (try clear hk); (try clear hi); (try clear ho0); obtain ⟨Ao56, co56, eo56⟩ := Kd.R_slice HO523.out; subst eo56) | ((with_reducible refine gate_callee (f := 25) rfl ?_); refine goesL_ (some 63) rfl rfl Try.func25 (by kernel_rfl) rfl #[.slice Ao38 t502.length co38, .slice Ao56 t521.length co56] rfl (by first | rfl | (simp only [List.map_toArray, List.map_cons, List.map_nil]; done) | (simp only [List.map_toArray, List.map_cons, List.map_nil]; rfl)) ?_; (with_reducible refine (laws_eqInt64S.calls kj15 _ _ t502 _ _ t521 true _ ?side1 ?side2 ?side3 ?side4 A47.out).mono ?_); (case side1 => repeat (first | exact (Kd.R_reads' HO_10.out).2.2 | (with_reducible refine Kd.C_alloc ?_ _) | (with_reducible refine Kd.C_drewN ?_ _) | (with_reducible refine Kd.C_drew ?_))); (case side2 => exact (Kd.R_reads' HO_10.out).2.1); (case side3 => repeat (first | exact (Kd.R_reads' HO523.out).2.2 | (with_reducible refine Kd.C_alloc ?_ _) | (with_reducible refine Kd.C_drewN ?_ _) | (with_reducible refine Kd.C_drew ?_))); (case side4 => exact (Kd.R_reads' HO523.out).2.1); rintro e w' ⟨rfl, ⟨nd, rfl⟩⟩; refine ⟨_, rfl, ?_⟩))
        go_ret
        exact ⟨by first | rfl | (simp [errW_none, errW_some] <;> rfl) | (simp [*, errW_none, errW_some] <;> rfl), by repeat (first | (with_reducible first | exact HB.out | apply below_alloc | apply pw_below_drewN | apply below_drew1 | refine below_set ?_ GE469.out | refine below_set ?_ GE501.out) | exact HB.out)⟩
       ·replace c48 := Bool.eq_false_iff.mpr c48
        subst c48
        have H1 : (some false) = some r := by rw [if_neg (show ¬ (false = true) by decide)] at H; exact H
        clear H
        have H := H1
        clear H1
        exact absurd ((Option.some.inj H).trans HT.out) (by decide)
      ·replace c45 := Bool.eq_false_iff.mpr c45
       subst c45
       have H1 : (some false) = some r := by rw [if_neg (show ¬ (false = true) by decide)] at H; exact H
       clear H
       have H := H1
       clear H1
       exact absurd ((Option.some.inj H).trans HT.out) (by decide)

/-- THE ONE PURE STATEMENT of laws_FnExactEvidenceFor. -/
def laws_FnExactEvidenceFor.Pure : Prop := ∀ (a0_0 : ByteArray) (l0_1 : List Int) (l0_2 : List Int) (a0_3 : Int) (a0_4 : Int) (l0_5 : List (List Int)) (l1 : List Int), a0_0.size ≤ maxLen → (l0_1.length ≤ maxLen ∧ ∀ y0 ∈ l0_1, (Lit.int .i64 y0).wf = true) → (l0_2.length ≤ maxLen ∧ ∀ y0 ∈ l0_2, (Lit.int .i64 y0).wf = true) → (Lit.int .i64 a0_3).wf = true → (Lit.int .i64 a0_4).wf = true → (l0_5.length ≤ maxLen ∧ ∀ y0 ∈ l0_5, (y0.length ≤ maxLen ∧ ∀ y1 ∈ y0, (Lit.int .i64 y1).wf = true)) → (l1.length ≤ maxLen ∧ ∀ y0 ∈ l1, (Lit.int .i64 y0).wf = true) → ∃ k, laws_FnExactEvidenceFor.f k a0_0 l0_1 l0_2 a0_3 a0_4 l0_5 l1 = some true
theorem laws_FnExactEvidenceFor.walk (P : laws_FnExactEvidenceFor.Pure) (a0_0 : ByteArray) (A0_1 : Option Addr) (c0_1 : Nat) (l0_1 : List Int) (A0_2 : Option Addr) (c0_2 : Nat) (l0_2 : List Int) (a0_3 : Int) (a0_4 : Int) (A0_5 : Option Addr) (c0_5 : Nat) (l0_5 : List (List Int)) (A1 : Option Addr) (c1 : Nat) (l1 : List Int) (w : World) (hr0_1 : Kd.C (Kd.int .i64) w A0_1 l0_1.length l0_1) (hc0_1 : l0_1.length ≤ c0_1) (hr0_2 : Kd.C (Kd.int .i64) w A0_2 l0_2.length l0_2) (hc0_2 : l0_2.length ≤ c0_2) (hr0_5 : Kd.C (Kd.slice 2 (Kd.int .i64)) w A0_5 l0_5.length l0_5) (hc0_5 : l0_5.length ≤ c0_5) (hr1 : Kd.C (Kd.int .i64) w A1 l1.length l1) (hc1 : l1.length ≤ c1) (w0_0 : a0_0.size ≤ maxLen) (w0_1 : (l0_1.length ≤ maxLen ∧ ∀ y0 ∈ l0_1, (Lit.int .i64 y0).wf = true)) (w0_2 : (l0_2.length ≤ maxLen ∧ ∀ y0 ∈ l0_2, (Lit.int .i64 y0).wf = true)) (w0_3 : (Lit.int .i64 a0_3).wf = true) (w0_4 : (Lit.int .i64 a0_4).wf = true) (w0_5 : (l0_5.length ≤ maxLen ∧ ∀ y0 ∈ l0_5, (y0.length ≤ maxLen ∧ ∀ y1 ∈ y0, (Lit.int .i64 y1).wf = true))) (w1 : (l1.length ≤ maxLen ∧ ∀ y0 ∈ l1, (Lit.int .i64 y0).wf = true)) :
  Calls Try.prog 5 #[.agg #[.string a0_0, .slice A0_1 l0_1.length c0_1, .slice A0_2 l0_2.length c0_2, .int .i64 a0_3, .int .i64 a0_4, .slice A0_5 l0_5.length c0_5], .slice A1 l1.length c1] w fun e w' => e = .returned (.bool true) ∧ Below w.heap.size w w' := by
 obtain ⟨k, h⟩ := P a0_0 l0_1 l0_2 a0_3 a0_4 l0_5 l1 w0_0 w0_1 w0_2 w0_3 w0_4 w0_5 w1
 refine (laws_FnExactEvidenceFor.calls k a0_0 _ _ l0_1 _ _ l0_2 a0_3 a0_4 _ _ l0_5 _ _ l1 true w hr0_1 hc0_1 hr0_2 hc0_2 hr0_5 hc0_5 hr1 hc1 rfl h).mono ?_
 rintro e w' ⟨rfl, hd⟩
 exact ⟨rfl, hd⟩

end Go.Proofs.Ytmminpglcflmeaa.P
end

section
namespace Go.Proofs.Ytmminpglcflmeaa.Pure
open Go.RowKit Go.Proofs.Ytmminpglcflmeaa.P Go.Proofs.YtmminpglcflmeaaW.PrintWords Go.Proofs.YtmminpglcflmeaaW.PrintLast Go.Proofs.YtmminpglcflmeaaW.PrintMore
set_option linter.unusedVariables false
set_option linter.unusedSimpArgs false

def wrongC (u0 d0 : List Int) (f0 : List (List Int)) (l : List Int) : Nat → Nat → Int
  | 0, _ => 0
  | m + 1, i => (if reasonR u0 d0 f0 (rd l ((i : Int) - 1)) (rd l i) = 0 then 0 else 1) + wrongC u0 d0 f0 l m (i + 1)
theorem wrongC_bound (u0 d0 : List Int) (f0 : List (List Int)) (l : List Int) : ∀ m i, 0 ≤ wrongC u0 d0 f0 l m i ∧ wrongC u0 d0 f0 l m i ≤ m := by
  intro m
  induction m with
  | zero => intro i; simp [wrongC]
  | succ m ih =>
    intro i
    have := ih (i + 1)
    simp only [wrongC]
    split <;> omega
theorem impl_wrong_l0 (s0 : ByteArray) (u0 d0 : List Int) (st0 wk0 : Int) (f0 : List (List Int)) (l : List Int) (h0 : Fits s0 u0 d0 f0) (v0 : ragaB s0 u0 d0 st0 wk0 f0 = true) (hp : pitchesB l = true) : ∀ (m i : Nat) (x : Int), l.length - i = m → 1 ≤ i → 0 ≤ x → x ≤ i → Ev (fun k => impl_Raga_wrongMoves.l0 k l x i s0 u0 d0 st0 wk0 f0) (x + wrongC u0 d0 f0 l m i) := by
  obtain ⟨p1, p2, p3, p4⟩ := ragaB_parts v0
  have hl := pitchesB_len hp
  intro m
  induction m with
  | zero =>
    intro i x hm hi x0 x1
    refine Ev.succ ?_
    simp only [impl_Raga_wrongMoves.l0]
    refine Ev.ite_neg (by omega) ?_
    simpa [wrongC] using Ev.now _
  | succ m ih =>
    intro i x hm hi x0 x1
    have q1 := pitchesB_rd hp (i := (i : Int) - 1) (by omega) (by omega)
    have q2 := pitchesB_rd hp (i := (i : Int)) (by omega) (by omega)
    refine Ev.succ ?_
    simp only [impl_Raga_wrongMoves.l0, wrongC]
    rw [w64 (x := (i : Int) - 1) (by omega) (by omega), w64 (x := (i : Int) + 1) (by omega) (by omega), w64 (x := x + 1) (by omega) (by omega)]
    refine Ev.ite_pos (by omega) (Ev.ite_pos (by omega) (Ev.ite_pos (by omega) (Ev.ite_pos (by omega) (Ev.bind (impl_reason_ev s0 u0 d0 st0 wk0 f0 _ _ (by omega) (by omega) h0.2.1 h0.2.2.1 p3 p4) ?_))))
    by_cases c : reasonR u0 d0 f0 (rd l ((i : Int) - 1)) (rd l i) = 0
    · rw [if_pos c]
      exact Ev.ite_pos c (Ev.cast (ih (i + 1) x (by omega) (by omega) (by omega) (by omega)) (by omega))
    · rw [if_neg c]
      exact Ev.ite_neg c (Ev.cast (ih (i + 1) (x + 1) (by omega) (by omega) (by omega) (by omega)) (by omega))
theorem spec_wrong_l0 (s0 : ByteArray) (u0 d0 : List Int) (st0 wk0 : Int) (f0 : List (List Int)) (l : List Int) (h0 : Fits s0 u0 d0 f0) (v0 : ragaB s0 u0 d0 st0 wk0 f0 = true) (hp : pitchesB l = true) : ∀ (m i : Nat) (g x : Int), l.length - i = m → 1 ≤ i → 0 ≤ x → x ≤ i → 0 ≤ g → g ≤ i → Ev (fun k => spec_l12Evidence.l0 k l g x i s0 u0 d0 st0 wk0 f0) (g + ((m : Int) - wrongC u0 d0 f0 l m i), x + wrongC u0 d0 f0 l m i) := by
  obtain ⟨p1, p2, p3, p4⟩ := ragaB_parts v0
  have hl := pitchesB_len hp
  intro m
  induction m with
  | zero =>
    intro i g x hm hi x0 x1 g0 g1
    refine Ev.succ ?_
    simp only [spec_l12Evidence.l0]
    refine Ev.ite_neg (by omega) ?_
    simpa [wrongC] using Ev.now _
  | succ m ih =>
    intro i g x hm hi x0 x1 g0 g1
    have q1 := pitchesB_rd hp (i := (i : Int) - 1) (by omega) (by omega)
    have q2 := pitchesB_rd hp (i := (i : Int)) (by omega) (by omega)
    refine Ev.succ ?_
    simp only [spec_l12Evidence.l0, wrongC]
    rw [w64 (x := (i : Int) - 1) (by omega) (by omega), w64 (x := (i : Int) + 1) (by omega) (by omega), w64 (x := x + 1) (by omega) (by omega), w64 (x := g + 1) (by omega) (by omega)]
    refine Ev.ite_pos (by omega) (Ev.ite_pos (by omega) (Ev.ite_pos (by omega) (Ev.ite_pos (by omega) (Ev.bind (spec_l05Reason_ev s0 u0 d0 st0 wk0 f0 _ _ (by omega) (by omega) h0.2.1 h0.2.2.1 p3 p4) ?_))))
    by_cases c : reasonR u0 d0 f0 (rd l ((i : Int) - 1)) (rd l i) = 0
    · rw [if_pos c]
      refine Ev.ite_pos c (Ev.cast (ih (i + 1) (g + 1) x (by omega) (by omega) (by omega) (by omega) (by omega) (by omega)) ?_)
      rw [show g + 1 + ((m : Int) - wrongC u0 d0 f0 l m (i + 1)) = g + (((m + 1 : Nat) : Int) - (0 + wrongC u0 d0 f0 l m (i + 1))) by omega, Int.zero_add]
    · rw [if_neg c]
      refine Ev.ite_neg c (Ev.cast (ih (i + 1) g (x + 1) (by omega) (by omega) (by omega) (by omega) (by omega) (by omega)) ?_)
      rw [show g + ((m : Int) - wrongC u0 d0 f0 l m (i + 1)) = g + (((m + 1 : Nat) : Int) - (1 + wrongC u0 d0 f0 l m (i + 1))) by omega, show x + 1 + wrongC u0 d0 f0 l m (i + 1) = x + (1 + wrongC u0 d0 f0 l m (i + 1)) by omega]
theorem bothEvidenceFor (s0 : ByteArray) (u0 d0 : List Int) (st0 wk0 : Int) (f0 : List (List Int)) (l : List Int) (h0 : Fits s0 u0 d0 f0) (hl : l.length ≤ 1048576) : ∃ r, Ev (fun k => spec_EvidenceFor.f k s0 u0 d0 st0 wk0 f0 l) r ∧ Ev (fun k => impl_EvidenceFor.f k s0 u0 d0 st0 wk0 f0 l) r := by
  have a0 := spec_l05Ok_ev s0 u0 d0 st0 wk0 f0 h0.1 h0.2.1 h0.2.2.1 h0.2.2.2.1
  have b0 := impl_ValidRaga_ev s0 u0 d0 st0 wk0 f0 h0.1 h0.2.1 h0.2.2.1 h0.2.2.2.1
  unfold spec_EvidenceFor.f impl_EvidenceFor.f
  cases v0 : ragaB s0 u0 d0 st0 wk0 f0 with
  | false => exact ⟨(0, 0, 1), Ev.bind a0 (Ev.ite_neg (by rw [v0]; decide) (Ev.now _)), Ev.bind b0 (Ev.ite_neg (by rw [v0]; decide) (Ev.now _))⟩
  | true =>
    cases hp : pitchesB l with
    | false => exact ⟨(0, 0, 7), Ev.bind a0 (Ev.ite_pos v0 (Ev.bind (spec_l05Pitches_ev l (by omega)) (Ev.ite_neg (by rw [hp]; decide) (Ev.now _)))), Ev.bind b0 (Ev.ite_pos v0 (Ev.bindc (impl_pitchesOk_eq l) (Ev.ite_neg (by rw [hp]; decide) (Ev.now _))))⟩
    | true =>
      have hb := wrongC_bound u0 d0 f0 l (l.length - 1) 1
      have hm : mx ((l.length : Int) - 1) 0 = ((l.length - 1 : Nat) : Int) := by rw [mx_eq]; omega
      refine ⟨(((l.length - 1 : Nat) : Int) - wrongC u0 d0 f0 l (l.length - 1) 1, wrongC u0 d0 f0 l (l.length - 1) 1, 0), Ev.bind a0 (Ev.ite_pos v0 (Ev.bind (spec_l05Pitches_ev l (by omega)) (Ev.ite_pos hp (Ev.bind (a := (((l.length - 1 : Nat) : Int) - wrongC u0 d0 f0 l (l.length - 1) 1, wrongC u0 d0 f0 l (l.length - 1) 1)) ?_ (Ev.now _))))), Ev.bind b0 (Ev.ite_pos v0 (Ev.bindc (impl_pitchesOk_eq l) (Ev.ite_pos hp (Ev.bind (a := wrongC u0 d0 f0 l (l.length - 1) 1) ?_ ?_))))⟩
      · unfold spec_l12Evidence.f
        simpa using spec_wrong_l0 s0 u0 d0 st0 wk0 f0 l h0 v0 hp (l.length - 1) 1 0 0 (by omega) (by omega) (by omega) (by omega) (by omega) (by omega)
      · unfold impl_Raga_wrongMoves.f
        simpa using impl_wrong_l0 s0 u0 d0 st0 wk0 f0 l h0 v0 hp (l.length - 1) 1 0 (by omega) (by omega) (by omega) (by omega)
      · rw [w64 (x := (l.length : Int) - 1) (by omega) (by omega), hm, w64 (x := _ - _) (by omega) (by omega)]
        exact Ev.now _
theorem FnExactEvidenceFor : laws_FnExactEvidenceFor.Pure := by
  intro s0 u0 d0 st0 wk0 f0 l hs0 ⟨hu0, _⟩ ⟨hd0, _⟩ _ _ ⟨hf0, hr0⟩ ⟨hl, _⟩
  refine Ev.out (r := true) ?_
  unfold laws_FnExactEvidenceFor.f
  by_cases gl : (l.length : Int) > 1048576
  · exact Ev.ite_pos gl (Ev.now _)
  refine Ev.ite_neg gl ?_
  obtain ⟨t, et, ct⟩ := szRaga_ge s0 u0 d0 st0 wk0 f0 1048576 (by omega) (by omega) hs0 hu0 hd0 hf0 (fun y hy => (hr0 y hy).1)
  refine Ev.bind et ?_
  rcases ct with ct | ⟨c0, c1, h0⟩
  · exact Ev.ite_pos ct (Ev.now _)
  refine Ev.ite_neg (by omega) ?_
  have t0 := toRaga_ev h0 st0 wk0
  have t1 := toInt64S_ev l (by omega)
  obtain ⟨r, es, ei⟩ := bothEvidenceFor s0 u0 d0 st0 wk0 f0 l h0 (by omega)
  refine Ev.bind t0 (Ev.bind t1 (Ev.bind es (Ev.bind t0 (Ev.bind t1 (Ev.bind ei ?_)))))
  refine Ev.ite_pos rfl ?_
  refine Ev.ite_pos rfl ?_
  refine Ev.succ ?_
  simp only [laws_FnExactEvidenceFor.j0]
  exact Ev.ite_neg (by simp) (Ev.bind t0 (Ev.bind (eqRaga_self h0 st0 wk0) (Ev.ite_pos rfl (Ev.bind t1 (Ev.bind (eqInt64S_self l (by omega)) (Ev.ite_pos rfl (Ev.now _)))))))

end Go.Proofs.Ytmminpglcflmeaa.Pure
end
