/- The pure statement of FnExactBeatsWith. No condition. -/
import Derived.Test.YthpcepojkhjlfaaGa1
import Derived.Test.YthpcepojkhjlfaaGa2
import Derived.Test.YthpcepojkhjlfaaGa3
import Derived.Test.YthpcepojkhjlfaaGa4
section
namespace Go.Proofs.Ythpcepojkhjlfaa.P
open Go.RowKit Go.Proofs.YthpcepojkhjlfaaW.PrintWords Go.Proofs.YthpcepojkhjlfaaW.PrintLast Go.Proofs.YthpcepojkhjlfaaW.PrintMore
attribute [local go_sem] max2_int min2_int max_two min_two max_three min_three max_four min_four   -- for this text's walks alone
set_option linter.unusedVariables false
set_option linter.unusedSimpArgs false

/-! ### laws_FnExactBeatsWith: function 12 -/
mutual
def laws_FnExactBeatsWith.j0 : Nat → Int → List Int → Int → List Int → Int → Bool → ByteArray → List Int → List Int → ByteArray → List Int → List Int → Option (Bool)
  | 0, _, _, _, _, _, _, _, _, _, _, _, _ => none
  | k + 1, x1, x6, x7, x9, x10, x44, x580000, x580001, x580002, x600000, x600001, x600002 => if x44 = true then (some false) else ((laws_toTala.f k x580000 x580001 x580002).bind fun bt605 => ((laws_eqTala.f k x600000 x600001 x600002 bt605.1 bt605.2.1 bt605.2.2).bind fun t612 => (if t612 = true then ((laws_markTala.f k x600000 x600001 x600002 1).bind fun bt613 => (if bt613.1 < 0 then (laws_FnExactBeatsWith.j1 k x1 x6 x7 x9 true x580000 x580001 x580002) else ((laws_eqInt64S.f k x9 x6).bind fun t616 => (if t616 = true then (laws_FnExactBeatsWith.j1 k x1 x6 x7 x9 (x10 != x7) x580000 x580001 x580002) else (laws_FnExactBeatsWith.j1 k x1 x6 x7 x9 true x580000 x580001 x580002))))) else (some false))))
def laws_FnExactBeatsWith.j1 : Nat → Int → List Int → Int → List Int → Bool → ByteArray → List Int → List Int → Option (Bool)
  | 0, _, _, _, _, _, _, _, _ => none
  | k + 1, x1, x6, x7, x9, x65, x580000, x580001, x580002 => if x65 = true then (some false) else ((laws_markInt64S.f k x9 1).bind fun bt617 => ((laws_heldInt64S.f k bt617.2 1).bind fun t619 => (if t619 < 0 then (some false) else (if t619 = bt617.1 then ((laws_toTala.f k x580000 x580001 x580002).bind fun bt620 => ((impl_BeatsWith.f k bt620.1 bt620.2.1 bt620.2.2 x1).bind fun bt627 => ((laws_eqInt64S.f k bt627.1 x6).bind fun t631 => (if t631 = true then (laws_FnExactBeatsWith.j2 k bt617.2 bt617.1 (bt627.2 != x7)) else (laws_FnExactBeatsWith.j2 k bt617.2 bt617.1 true))))) else (some false)))))
def laws_FnExactBeatsWith.j2 : Nat → List Int → Int → Bool → Option (Bool)
  | 0, _, _, _ => none
  | k + 1, x9, x12, x92 => if x92 = true then (some false) else ((laws_heldInt64S.f k x9 1).bind fun t632 => (if t632 < 0 then (some false) else (if t632 = x12 then (some true) else (some false))))
end
def laws_FnExactBeatsWith.f (k : Nat) (a0_0 : ByteArray) (l0_1 : List Int) (l0_2 : List Int) (a1 : Int) : Option (Bool) := (laws_szTala.f a0_0 l0_1 l0_2 1048576).bind fun t580 => (if t580 < 0 then (some true) else ((laws_toTala.f k a0_0 l0_1 l0_2).bind fun bt581 => ((spec_BeatsWith.f k bt581.1 bt581.2.1 bt581.2.2 a1).bind fun bt588 => ((laws_toTala.f k a0_0 l0_1 l0_2).bind fun bt592 => ((impl_BeatsWith.f k bt592.1 bt592.2.1 bt592.2.2 a1).bind fun bt600 => ((laws_eqInt64S.f k bt600.1 bt588.1).bind fun t604 => (if t604 = true then (laws_FnExactBeatsWith.j0 k a1 bt588.1 bt588.2 bt600.1 bt600.2 (bt600.2 != bt588.2) a0_0 l0_1 l0_2 bt592.1 bt592.2.1 bt592.2.2) else (laws_FnExactBeatsWith.j0 k a1 bt588.1 bt588.2 bt600.1 bt600.2 true a0_0 l0_1 l0_2 bt592.1 bt592.2.1 bt592.2.2))))))))
theorem laws_FnExactBeatsWith.mono_l : ∀ k, (∀ y0 y1 y2 y3 y4 y5 y6 y7 y8 y9 y10 y11, LeO (laws_FnExactBeatsWith.j0 k y0 y1 y2 y3 y4 y5 y6 y7 y8 y9 y10 y11) (laws_FnExactBeatsWith.j0 (k + 1) y0 y1 y2 y3 y4 y5 y6 y7 y8 y9 y10 y11)) ∧ (∀ y0 y1 y2 y3 y4 y5 y6 y7, LeO (laws_FnExactBeatsWith.j1 k y0 y1 y2 y3 y4 y5 y6 y7) (laws_FnExactBeatsWith.j1 (k + 1) y0 y1 y2 y3 y4 y5 y6 y7)) ∧ (∀ y0 y1 y2, LeO (laws_FnExactBeatsWith.j2 k y0 y1 y2) (laws_FnExactBeatsWith.j2 (k + 1) y0 y1 y2))
  | 0 => ⟨fun _ _ _ _ _ _ _ _ _ _ _ _ r h => by simp [laws_FnExactBeatsWith.j0] at h, fun _ _ _ _ _ _ _ _ r h => by simp [laws_FnExactBeatsWith.j1] at h, fun _ _ _ r h => by simp [laws_FnExactBeatsWith.j2] at h⟩
  | k + 1 => by
    obtain ⟨ih0, ih1, ih2⟩ := laws_FnExactBeatsWith.mono_l k
    refine ⟨?_, ?_, ?_⟩
    · intro y0 y1 y2 y3 y4 y5 y6 y7 y8 y9 y10 y11
      unfold laws_FnExactBeatsWith.j0
      repeat' first
      | (with_reducible exact ih0 _ _ _ _ _ _ _ _ _ _ _ _)
      | (with_reducible exact ih1 _ _ _ _ _ _ _ _)
      | (with_reducible exact ih2 _ _ _)
      | (with_reducible exact impl_BeatsWith.mono _ _ _ _ _)
      | (with_reducible exact laws_eqInt64S.mono _ _ _)
      | (with_reducible exact laws_eqTala.mono _ _ _ _ _ _ _)
      | (with_reducible exact laws_heldInt64S.mono _ _ _)
      | (with_reducible exact laws_markInt64S.mono _ _ _)
      | (with_reducible exact laws_markTala.mono _ _ _ _ _)
      | (with_reducible exact laws_toTala.mono _ _ _ _)
      | (with_reducible exact spec_BeatsWith.mono _ _ _ _ _)
      | (with_reducible exact LeO.refl _)
      | (with_reducible exact LeO.none _)
      | (with_reducible refine LeO.ite ?_ ?_)
      | (with_reducible refine LeO.bind ?_ (fun _ => ?_))
      | exact ih0 _ _ _ _ _ _ _ _ _ _ _ _
      | exact ih1 _ _ _ _ _ _ _ _
      | exact ih2 _ _ _
      | exact impl_BeatsWith.mono _ _ _ _ _
      | exact laws_eqInt64S.mono _ _ _
      | exact laws_eqTala.mono _ _ _ _ _ _ _
      | exact laws_heldInt64S.mono _ _ _
      | exact laws_markInt64S.mono _ _ _
      | exact laws_markTala.mono _ _ _ _ _
      | exact laws_toTala.mono _ _ _ _
      | exact spec_BeatsWith.mono _ _ _ _ _
      | exact LeO.none _
      | refine LeO.ite ?_ ?_
      | refine LeO.bind ?_ (fun _ => ?_)
    · intro y0 y1 y2 y3 y4 y5 y6 y7
      unfold laws_FnExactBeatsWith.j1
      repeat' first
      | (with_reducible exact ih0 _ _ _ _ _ _ _ _ _ _ _ _)
      | (with_reducible exact ih1 _ _ _ _ _ _ _ _)
      | (with_reducible exact ih2 _ _ _)
      | (with_reducible exact impl_BeatsWith.mono _ _ _ _ _)
      | (with_reducible exact laws_eqInt64S.mono _ _ _)
      | (with_reducible exact laws_eqTala.mono _ _ _ _ _ _ _)
      | (with_reducible exact laws_heldInt64S.mono _ _ _)
      | (with_reducible exact laws_markInt64S.mono _ _ _)
      | (with_reducible exact laws_markTala.mono _ _ _ _ _)
      | (with_reducible exact laws_toTala.mono _ _ _ _)
      | (with_reducible exact spec_BeatsWith.mono _ _ _ _ _)
      | (with_reducible exact LeO.refl _)
      | (with_reducible exact LeO.none _)
      | (with_reducible refine LeO.ite ?_ ?_)
      | (with_reducible refine LeO.bind ?_ (fun _ => ?_))
      | exact ih0 _ _ _ _ _ _ _ _ _ _ _ _
      | exact ih1 _ _ _ _ _ _ _ _
      | exact ih2 _ _ _
      | exact impl_BeatsWith.mono _ _ _ _ _
      | exact laws_eqInt64S.mono _ _ _
      | exact laws_eqTala.mono _ _ _ _ _ _ _
      | exact laws_heldInt64S.mono _ _ _
      | exact laws_markInt64S.mono _ _ _
      | exact laws_markTala.mono _ _ _ _ _
      | exact laws_toTala.mono _ _ _ _
      | exact spec_BeatsWith.mono _ _ _ _ _
      | exact LeO.none _
      | refine LeO.ite ?_ ?_
      | refine LeO.bind ?_ (fun _ => ?_)
    · intro y0 y1 y2
      unfold laws_FnExactBeatsWith.j2
      repeat' first
      | (with_reducible exact ih0 _ _ _ _ _ _ _ _ _ _ _ _)
      | (with_reducible exact ih1 _ _ _ _ _ _ _ _)
      | (with_reducible exact ih2 _ _ _)
      | (with_reducible exact impl_BeatsWith.mono _ _ _ _ _)
      | (with_reducible exact laws_eqInt64S.mono _ _ _)
      | (with_reducible exact laws_eqTala.mono _ _ _ _ _ _ _)
      | (with_reducible exact laws_heldInt64S.mono _ _ _)
      | (with_reducible exact laws_markInt64S.mono _ _ _)
      | (with_reducible exact laws_markTala.mono _ _ _ _ _)
      | (with_reducible exact laws_toTala.mono _ _ _ _)
      | (with_reducible exact spec_BeatsWith.mono _ _ _ _ _)
      | (with_reducible exact LeO.refl _)
      | (with_reducible exact LeO.none _)
      | (with_reducible refine LeO.ite ?_ ?_)
      | (with_reducible refine LeO.bind ?_ (fun _ => ?_))
      | exact ih0 _ _ _ _ _ _ _ _ _ _ _ _
      | exact ih1 _ _ _ _ _ _ _ _
      | exact ih2 _ _ _
      | exact impl_BeatsWith.mono _ _ _ _ _
      | exact laws_eqInt64S.mono _ _ _
      | exact laws_eqTala.mono _ _ _ _ _ _ _
      | exact laws_heldInt64S.mono _ _ _
      | exact laws_markInt64S.mono _ _ _
      | exact laws_markTala.mono _ _ _ _ _
      | exact laws_toTala.mono _ _ _ _
      | exact spec_BeatsWith.mono _ _ _ _ _
      | exact LeO.none _
      | refine LeO.ite ?_ ?_
      | refine LeO.bind ?_ (fun _ => ?_)
theorem laws_FnExactBeatsWith.mono : ∀ a0 a1 a2 a3 k, LeO (laws_FnExactBeatsWith.f k a0 a1 a2 a3) (laws_FnExactBeatsWith.f (k + 1) a0 a1 a2 a3) := by
  intro a0 a1 a2 a3 k
  obtain ⟨ih0, ih1, ih2⟩ := laws_FnExactBeatsWith.mono_l k
  unfold laws_FnExactBeatsWith.f
  repeat' first
      | (with_reducible exact ih0 _ _ _ _ _ _ _ _ _ _ _ _)
      | (with_reducible exact ih1 _ _ _ _ _ _ _ _)
      | (with_reducible exact ih2 _ _ _)
      | (with_reducible exact impl_BeatsWith.mono _ _ _ _ _)
      | (with_reducible exact laws_eqInt64S.mono _ _ _)
      | (with_reducible exact laws_eqTala.mono _ _ _ _ _ _ _)
      | (with_reducible exact laws_heldInt64S.mono _ _ _)
      | (with_reducible exact laws_markInt64S.mono _ _ _)
      | (with_reducible exact laws_markTala.mono _ _ _ _ _)
      | (with_reducible exact laws_toTala.mono _ _ _ _)
      | (with_reducible exact spec_BeatsWith.mono _ _ _ _ _)
      | (with_reducible exact LeO.refl _)
      | (with_reducible exact LeO.none _)
      | (with_reducible refine LeO.ite ?_ ?_)
      | (with_reducible refine LeO.bind ?_ (fun _ => ?_))
      | exact ih0 _ _ _ _ _ _ _ _ _ _ _ _
      | exact ih1 _ _ _ _ _ _ _ _
      | exact ih2 _ _ _
      | exact impl_BeatsWith.mono _ _ _ _ _
      | exact laws_eqInt64S.mono _ _ _
      | exact laws_eqTala.mono _ _ _ _ _ _ _
      | exact laws_heldInt64S.mono _ _ _
      | exact laws_markInt64S.mono _ _ _
      | exact laws_markTala.mono _ _ _ _ _
      | exact laws_toTala.mono _ _ _ _
      | exact spec_BeatsWith.mono _ _ _ _ _
      | exact LeO.none _
      | refine LeO.ite ?_ ?_
      | refine LeO.bind ?_ (fun _ => ?_)
set_option maxHeartbeats 8000000 in
set_option maxRecDepth 100000 in
theorem laws_FnExactBeatsWith.calls (k : Nat) (a0_0 : ByteArray) (A0_1 : Option Addr) (c0_1 : Nat) (l0_1 : List Int) (A0_2 : Option Addr) (c0_2 : Nat) (l0_2 : List Int) (a1 : Int) (r : Bool) (w : World) (hr0_1 : Kd.C (Kd.int .i64) w A0_1 l0_1.length l0_1) (hc0_1 : l0_1.length ≤ c0_1) (hr0_2 : Kd.C (Kd.int .i64) w A0_2 l0_2.length l0_2) (hc0_2 : l0_2.length ≤ c0_2) (hT : r = true) (h : laws_FnExactBeatsWith.f k a0_0 l0_1 l0_2 a1 = some r) :
    Calls Try.prog 12 #[.agg #[.string a0_0, .slice A0_1 l0_1.length c0_1, .slice A0_2 l0_2.length c0_2], .int .i64 a1] w fun e w' => e = .returned (.bool r) ∧ Below w.heap.size w w' := by
  have hu24 := Try.underlying24
  have hu27 := Try.underlying27
  have HR0_1 := Aside0.mk hr0_1
  have HC0_1 := Aside0.mk hc0_1
  clear hr0_1 hc0_1
  have HR0_2 := Aside0.mk hr0_2
  have HC0_2 := Aside0.mk hc0_2
  clear hr0_2 hc0_2
  have HT := Aside0.mk hT
  clear hT
  have HB := Aside0.mk (Below.refl w.heap.size w)
  have H : ((laws_szTala.f a0_0 l0_1 l0_2 1048576).bind fun t580 => (if t580 < 0 then (some true) else ((laws_toTala.f k a0_0 l0_1 l0_2).bind fun bt581 => ((spec_BeatsWith.f k bt581.1 bt581.2.1 bt581.2.2 a1).bind fun bt588 => ((laws_toTala.f k a0_0 l0_1 l0_2).bind fun bt592 => ((impl_BeatsWith.f k bt592.1 bt592.2.1 bt592.2.2 a1).bind fun bt600 => ((laws_eqInt64S.f k bt600.1 bt588.1).bind fun t604 => (if t604 = true then (laws_FnExactBeatsWith.j0 k a1 bt588.1 bt588.2 bt600.1 bt600.2 (bt600.2 != bt588.2) a0_0 l0_1 l0_2 bt592.1 bt592.2.1 bt592.2.2) else (laws_FnExactBeatsWith.j0 k a1 bt588.1 bt588.2 bt600.1 bt600.2 true a0_0 l0_1 l0_2 bt592.1 bt592.2.1 bt592.2.2))))))))) = some r := h
  clear h
  replace H := Option.bind_eq_some_iff.mp H
  obtain ⟨t580, A30, H⟩ := H
  replace H : (if t580 < 0 then (some true) else ((laws_toTala.f k a0_0 l0_1 l0_2).bind fun bt581 => ((spec_BeatsWith.f k bt581.1 bt581.2.1 bt581.2.2 a1).bind fun bt588 => ((laws_toTala.f k a0_0 l0_1 l0_2).bind fun bt592 => ((impl_BeatsWith.f k bt592.1 bt592.2.1 bt592.2.2 a1).bind fun bt600 => ((laws_eqInt64S.f k bt600.1 bt588.1).bind fun t604 => (if t604 = true then (laws_FnExactBeatsWith.j0 k a1 bt588.1 bt588.2 bt600.1 bt600.2 (bt600.2 != bt588.2) a0_0 l0_1 l0_2 bt592.1 bt592.2.1 bt592.2.2) else (laws_FnExactBeatsWith.j0 k a1 bt588.1 bt588.2 bt600.1 bt600.2 true a0_0 l0_1 l0_2 bt592.1 bt592.2.1 bt592.2.2)))))))) = some r := H
  have A3 := Aside0.mk A30
  clear A30
  by_cases c4 : t580 < 0
  · rw [if_pos c4] at H
    have c4b0 : decide (t580 < 0) = true := decide_eq_true c4
    clear c4
    obtain rfl := Option.some.inj H
    go_enter Try.func12, Try.ntmps12
    go_wp2_with (first | ((with_reducible refine gate_dst (N := 2) rfl ?_); refine box_event ?hg (N := 2) ?hd (cs := #[.string a0_0, .slice A0_1 l0_1.length c0_1, .slice A0_2 l0_2.length c0_2]) (t := 24) ?hr ?_; (case hd => rfl); (case hg => rfl); (case hr => first | (go_simp; done) | (go_simp; rfl)); intro gb579 hg w5 hbox hb; have n0_ := Aside0.mk (below_step (by repeat (first | (with_reducible first | exact HB.out | apply below_alloc | apply pw_below_drewN | apply below_drew1) | exact HB.out)) hb); have n1_ := Aside0.mk (hbox); have n2_ := Aside0.mk ((by rw [hg]; exact (below_size (by repeat (first | (with_reducible first | exact HB.out | apply below_alloc | apply pw_below_drewN | apply below_drew1) | exact HB.out))) : w.heap.size ≤ gb579)); have n3_ := Aside0.mk ((by rw [hg]; exact (below_size (by repeat (first | (with_reducible first | exact HB.out | apply below_alloc | apply pw_below_drewN | apply below_drew1) | exact HB.out))) : w.heap.size ≤ gb579)); clear HB; have HB := n0_; have BK579 := n1_; have GW579 := n2_; have GE579 := n3_; clear n0_ n1_ n2_ n3_; clear hb hbox hg; have hcz6_0 : w5.cell? ⟨gb579, 0, none⟩ = some (.string a0_0) := (blk_cell BK579.out 0).trans rfl; have hcz6_1 : w5.cell? ⟨gb579, 1, none⟩ = some (.slice A0_1 l0_1.length c0_1) := (blk_cell BK579.out 1).trans rfl; have hcz6_2 : w5.cell? ⟨gb579, 2, none⟩ = some (.slice A0_2 l0_2.length c0_2) := (blk_cell BK579.out 2).trans rfl; have hfz6_0 := blk_frozen BK579.out 0; have hfz6_1 := blk_frozen BK579.out 1; have hfz6_2 := blk_frozen BK579.out 2) | ((with_reducible refine gate_callee (f := 15) rfl ?_); refine goesL_ (some 18) rfl rfl Try.func15 (by kernel_rfl) rfl #[.agg #[.string a0_0, .slice A0_1 l0_1.length c0_1, .slice A0_2 l0_2.length c0_2], .int .i64 1048576] rfl (by (try simp only [List.map_toArray, List.map_cons, List.map_nil]); first | done | rfl | (simp only [List.length_drop, List.length_take]; rfl)) ?_; (with_reducible refine (laws_szTala.calls a0_0 _ _ l0_1 _ _ l0_2 1048576 t580 _ ?side1 ?side2 ?side3 ?side4 A3.out).mono ?_); (case side1 => repeat (first | exact (Kd.C_below HR0_1.out HB.out) | (with_reducible refine Kd.C_alloc ?_ _) | (with_reducible refine Kd.C_drewN ?_ _) | (with_reducible refine Kd.C_drew ?_))); (case side2 => exact HC0_1.out); (case side3 => repeat (first | exact (Kd.C_below HR0_2.out HB.out) | (with_reducible refine Kd.C_alloc ?_ _) | (with_reducible refine Kd.C_drewN ?_ _) | (with_reducible refine Kd.C_drew ?_))); (case side4 => exact HC0_2.out); rintro e w7 ⟨rfl, hb⟩; refine ⟨_, rfl, ?_⟩; have n0_ := Aside0.mk (blk_below (g := gb579) (o := .cells #[.string a0_0, .slice A0_1 l0_1.length c0_1, .slice A0_2 l0_2.length c0_2] 24 (0, 0)) (by (with_reducible repeat (first | refine blk_drewN ?_ _ | refine blk_drew ?_ | refine blk_alloc ?_ _)); exact BK579.out) hb); have n1_ := Aside0.mk (below_step (by repeat (first | (with_reducible first | exact HB.out | apply below_alloc | apply pw_below_drewN | apply below_drew1 | refine below_set ?_ GE579.out) | exact HB.out)) hb); clear BK579; clear HB; have BK579 := n0_; have HB := n1_; clear n0_ n1_; (try clear hb); (try clear hb2); (try clear hk); (try clear hi)))
    go_ret
    exact ⟨by first | rfl | (simp [errW_none, errW_some] <;> rfl) | (simp [*, errW_none, errW_some] <;> rfl), by repeat (first | (with_reducible first | exact HB.out | apply below_alloc | apply pw_below_drewN | apply below_drew1 | refine below_set ?_ GE579.out) | exact HB.out)⟩
  · rw [if_neg c4] at H
    have c4b0 : decide (t580 < 0) = false := decide_eq_false c4
    clear c4
    replace H := Option.bind_eq_some_iff.mp H
    obtain ⟨⟨t581, t582, t585⟩, A80, H⟩ := H
    replace H : ((spec_BeatsWith.f k t581 t582 t585 a1).bind fun bt588 => ((laws_toTala.f k a0_0 l0_1 l0_2).bind fun bt592 => ((impl_BeatsWith.f k bt592.1 bt592.2.1 bt592.2.2 a1).bind fun bt600 => ((laws_eqInt64S.f k bt600.1 bt588.1).bind fun t604 => (if t604 = true then (laws_FnExactBeatsWith.j0 k a1 bt588.1 bt588.2 bt600.1 bt600.2 (bt600.2 != bt588.2) a0_0 l0_1 l0_2 bt592.1 bt592.2.1 bt592.2.2) else (laws_FnExactBeatsWith.j0 k a1 bt588.1 bt588.2 bt600.1 bt600.2 true a0_0 l0_1 l0_2 bt592.1 bt592.2.1 bt592.2.2)))))) = some r := H
    have A8 := Aside0.mk A80
    clear A80
    replace H := Option.bind_eq_some_iff.mp H
    obtain ⟨⟨t588, t591⟩, A90, H⟩ := H
    replace H : ((laws_toTala.f k a0_0 l0_1 l0_2).bind fun bt592 => ((impl_BeatsWith.f k bt592.1 bt592.2.1 bt592.2.2 a1).bind fun bt600 => ((laws_eqInt64S.f k bt600.1 t588).bind fun t604 => (if t604 = true then (laws_FnExactBeatsWith.j0 k a1 t588 t591 bt600.1 bt600.2 (bt600.2 != t591) a0_0 l0_1 l0_2 bt592.1 bt592.2.1 bt592.2.2) else (laws_FnExactBeatsWith.j0 k a1 t588 t591 bt600.1 bt600.2 true a0_0 l0_1 l0_2 bt592.1 bt592.2.1 bt592.2.2))))) = some r := H
    have A9 := Aside0.mk A90
    clear A90
    replace H := Option.bind_eq_some_iff.mp H
    obtain ⟨⟨t592, t593, t596⟩, A100, H⟩ := H
    replace H : ((impl_BeatsWith.f k t592 t593 t596 a1).bind fun bt600 => ((laws_eqInt64S.f k bt600.1 t588).bind fun t604 => (if t604 = true then (laws_FnExactBeatsWith.j0 k a1 t588 t591 bt600.1 bt600.2 (bt600.2 != t591) a0_0 l0_1 l0_2 t592 t593 t596) else (laws_FnExactBeatsWith.j0 k a1 t588 t591 bt600.1 bt600.2 true a0_0 l0_1 l0_2 t592 t593 t596)))) = some r := H
    have A10 := Aside0.mk A100
    clear A100
    replace H := Option.bind_eq_some_iff.mp H
    obtain ⟨⟨t600, t603⟩, A110, H⟩ := H
    replace H : ((laws_eqInt64S.f k t600 t588).bind fun t604 => (if t604 = true then (laws_FnExactBeatsWith.j0 k a1 t588 t591 t600 t603 (t603 != t591) a0_0 l0_1 l0_2 t592 t593 t596) else (laws_FnExactBeatsWith.j0 k a1 t588 t591 t600 t603 true a0_0 l0_1 l0_2 t592 t593 t596))) = some r := H
    have A11 := Aside0.mk A110
    clear A110
    have HC12 := Aside0.mk H
    clear H
    go_enter Try.func12, Try.ntmps12
    go_upto_region 8 with (first | ((with_reducible refine gate_dst (N := 2) rfl ?_); refine box_event ?hg (N := 2) ?hd (cs := #[.string a0_0, .slice A0_1 l0_1.length c0_1, .slice A0_2 l0_2.length c0_2]) (t := 24) ?hr ?_; (case hd => rfl); (case hg => rfl); (case hr => first | (go_simp; done) | (go_simp; rfl)); intro gb579 hg w13 hbox hb; have n0_ := Aside0.mk (below_step (by repeat (first | (with_reducible first | exact HB.out | apply below_alloc | apply pw_below_drewN | apply below_drew1) | exact HB.out)) hb); have n1_ := Aside0.mk (hbox); have n2_ := Aside0.mk ((by rw [hg]; exact (below_size (by repeat (first | (with_reducible first | exact HB.out | apply below_alloc | apply pw_below_drewN | apply below_drew1) | exact HB.out))) : w.heap.size ≤ gb579)); have n3_ := Aside0.mk ((by rw [hg]; exact (below_size (by repeat (first | (with_reducible first | exact HB.out | apply below_alloc | apply pw_below_drewN | apply below_drew1) | exact HB.out))) : w.heap.size ≤ gb579)); clear HB; have HB := n0_; have BK579 := n1_; have GW579 := n2_; have GE579 := n3_; clear n0_ n1_ n2_ n3_; clear hb hbox hg; have hcz14_0 : w13.cell? ⟨gb579, 0, none⟩ = some (.string a0_0) := (blk_cell BK579.out 0).trans rfl; have hcz14_1 : w13.cell? ⟨gb579, 1, none⟩ = some (.slice A0_1 l0_1.length c0_1) := (blk_cell BK579.out 1).trans rfl; have hcz14_2 : w13.cell? ⟨gb579, 2, none⟩ = some (.slice A0_2 l0_2.length c0_2) := (blk_cell BK579.out 2).trans rfl; have hfz14_0 := blk_frozen BK579.out 0; have hfz14_1 := blk_frozen BK579.out 1; have hfz14_2 := blk_frozen BK579.out 2) | ((with_reducible refine gate_callee (f := 15) rfl ?_); refine goesL_ (some 18) rfl rfl Try.func15 (by kernel_rfl) rfl #[.agg #[.string a0_0, .slice A0_1 l0_1.length c0_1, .slice A0_2 l0_2.length c0_2], .int .i64 1048576] rfl (by (try simp only [List.map_toArray, List.map_cons, List.map_nil]); first | done | rfl | (simp only [List.length_drop, List.length_take]; rfl)) ?_; (with_reducible refine (laws_szTala.calls a0_0 _ _ l0_1 _ _ l0_2 1048576 t580 _ ?side1 ?side2 ?side3 ?side4 A3.out).mono ?_); (case side1 => repeat (first | exact (Kd.C_below HR0_1.out HB.out) | (with_reducible refine Kd.C_alloc ?_ _) | (with_reducible refine Kd.C_drewN ?_ _) | (with_reducible refine Kd.C_drew ?_))); (case side2 => exact HC0_1.out); (case side3 => repeat (first | exact (Kd.C_below HR0_2.out HB.out) | (with_reducible refine Kd.C_alloc ?_ _) | (with_reducible refine Kd.C_drewN ?_ _) | (with_reducible refine Kd.C_drew ?_))); (case side4 => exact HC0_2.out); rintro e w15 ⟨rfl, hb⟩; refine ⟨_, rfl, ?_⟩; have n0_ := Aside0.mk (blk_below (g := gb579) (o := .cells #[.string a0_0, .slice A0_1 l0_1.length c0_1, .slice A0_2 l0_2.length c0_2] 24 (0, 0)) (by (with_reducible repeat (first | refine blk_drewN ?_ _ | refine blk_drew ?_ | refine blk_alloc ?_ _)); exact BK579.out) hb); have n1_ := Aside0.mk (below_step (by repeat (first | (with_reducible first | exact HB.out | apply below_alloc | apply pw_below_drewN | apply below_drew1 | refine below_set ?_ GE579.out) | exact HB.out)) hb); clear BK579; clear HB; have BK579 := n0_; have HB := n1_; clear n0_ n1_; (try clear hb); (try clear hb2); (try clear hk); (try clear hi); have hcz16_0 : w15.cell? ⟨gb579, 0, none⟩ = some (.string a0_0) := (blk_cell BK579.out 0).trans rfl; have hcz16_1 : w15.cell? ⟨gb579, 1, none⟩ = some (.slice A0_1 l0_1.length c0_1) := (blk_cell BK579.out 1).trans rfl; have hcz16_2 : w15.cell? ⟨gb579, 2, none⟩ = some (.slice A0_2 l0_2.length c0_2) := (blk_cell BK579.out 2).trans rfl; have hfz16_0 := blk_frozen BK579.out 0; have hfz16_1 := blk_frozen BK579.out 1; have hfz16_2 := blk_frozen BK579.out 2) | ((with_reducible refine gate_callee (f := 17) rfl ?_); refine goesL_ (some 23) rfl rfl Try.func17 (by kernel_rfl) rfl #[.agg #[.string a0_0, .slice A0_1 l0_1.length c0_1, .slice A0_2 l0_2.length c0_2]] rfl (by (try simp only [List.map_toArray, List.map_cons, List.map_nil]); first | done | rfl | (simp only [List.length_drop, List.length_take]; rfl)) ?_; (with_reducible refine (laws_toTala.calls k a0_0 _ _ l0_1 _ _ l0_2 t581 t582 t585 _ ?side1 ?side2 ?side3 ?side4 A8.out).mono ?_); (case side1 => repeat (first | exact (Kd.C_below HR0_1.out HB.out) | (with_reducible refine Kd.C_alloc ?_ _) | (with_reducible refine Kd.C_drewN ?_ _) | (with_reducible refine Kd.C_drew ?_))); (case side2 => exact HC0_1.out); (case side3 => repeat (first | exact (Kd.C_below HR0_2.out HB.out) | (with_reducible refine Kd.C_alloc ?_ _) | (with_reducible refine Kd.C_drewN ?_ _) | (with_reducible refine Kd.C_drew ?_))); (case side4 => exact HC0_2.out); rintro e w17 ⟨v583, v586, rfl, ho0, ho1, hb⟩; refine ⟨_, rfl, ?_⟩; have n0_ := Aside0.mk (Kd.R_lower ho0 (below_size (by repeat (first | (with_reducible first | exact HB.out | apply below_alloc | apply pw_below_drewN | apply below_drew1 | refine below_set ?_ GE579.out) | exact HB.out)))); have n1_ := Aside0.mk (Kd.R_lower ho1 (below_size (by repeat (first | (with_reducible first | exact HB.out | apply below_alloc | apply pw_below_drewN | apply below_drew1 | refine below_set ?_ GE579.out) | exact HB.out)))); have n2_ := Aside0.mk (blk_below (g := gb579) (o := .cells #[.string a0_0, .slice A0_1 l0_1.length c0_1, .slice A0_2 l0_2.length c0_2] 24 (0, 0)) (by (with_reducible repeat (first | refine blk_drewN ?_ _ | refine blk_drew ?_ | refine blk_alloc ?_ _)); exact BK579.out) hb); have n3_ := Aside0.mk (below_step (by repeat (first | (with_reducible first | exact HB.out | apply below_alloc | apply pw_below_drewN | apply below_drew1 | refine below_set ?_ GE579.out) | exact HB.out)) hb); clear BK579; clear HB; have HO584 := n0_; have HO587 := n1_; have BK579 := n2_; have HB := n3_; clear n0_ n1_ n2_ n3_; (try clear hb); (try clear hb2); (try clear hk); (try clear hi); (try clear ho0); (try clear ho1); obtain ⟨Ao18, co18, eo18⟩ := Kd.R_slice HO584.out; subst eo18; obtain ⟨Ao19, co19, eo19⟩ := Kd.R_slice HO587.out; subst eo19) | ((with_reducible refine gate_callee (f := 38) rfl ?_); refine goesL_ (some 25) rfl rfl Try.func38 (by kernel_rfl) rfl #[.agg #[.string t581, .slice Ao18 t582.length co18, .slice Ao19 t585.length co19], .int .i64 a1] rfl (by (try simp only [List.map_toArray, List.map_cons, List.map_nil]); first | done | rfl | (simp only [List.length_drop, List.length_take]; rfl)) ?_; (with_reducible refine (spec_BeatsWith.calls k t581 _ _ t582 _ _ t585 a1 t588 t591 _ ?side1 ?side2 ?side3 ?side4 A9.out).mono ?_); (case side1 => repeat (first | exact (Kd.R_reads' HO584.out).2.2 | (with_reducible refine Kd.C_alloc ?_ _) | (with_reducible refine Kd.C_drewN ?_ _) | (with_reducible refine Kd.C_drew ?_))); (case side2 => exact (Kd.R_reads' HO584.out).2.1); (case side3 => repeat (first | exact (Kd.R_reads' HO587.out).2.2 | (with_reducible refine Kd.C_alloc ?_ _) | (with_reducible refine Kd.C_drewN ?_ _) | (with_reducible refine Kd.C_drew ?_))); (case side4 => exact (Kd.R_reads' HO587.out).2.1); rintro e w20 ⟨v589, rfl, ho0, hb⟩; refine ⟨_, rfl, ?_⟩; have n0_ := Aside0.mk (Kd.R_elder' (by (with_reducible repeat (first | apply Kd.R_alloc | apply Kd.R_drewN | apply Kd.R_drew)); exact HO584.out) (Kd.R_base ho0) hb); have n1_ := Aside0.mk (Kd.R_elder' (by (with_reducible repeat (first | apply Kd.R_alloc | apply Kd.R_drewN | apply Kd.R_drew)); exact HO587.out) (Kd.R_base ho0) hb); have n2_ := Aside0.mk (Kd.R_lower (Kd.R_new' (Kd.R_new' ho0 (Kd.R_lt (by (with_reducible repeat (first | apply Kd.R_alloc | apply Kd.R_drewN | apply Kd.R_drew)); exact HO584.out))) (Kd.R_lt (by (with_reducible repeat (first | apply Kd.R_alloc | apply Kd.R_drewN | apply Kd.R_drew)); exact HO587.out))) (below_size (by repeat (first | (with_reducible first | exact HB.out | apply below_alloc | apply pw_below_drewN | apply below_drew1 | refine below_set ?_ GE579.out) | exact HB.out)))); have n3_ := Aside0.mk (blk_below (g := gb579) (o := .cells #[.string a0_0, .slice A0_1 l0_1.length c0_1, .slice A0_2 l0_2.length c0_2] 24 (0, 0)) (by (with_reducible repeat (first | refine blk_drewN ?_ _ | refine blk_drew ?_ | refine blk_alloc ?_ _)); exact BK579.out) hb); have n4_ := Aside0.mk (below_step (by repeat (first | (with_reducible first | exact HB.out | apply below_alloc | apply pw_below_drewN | apply below_drew1 | refine below_set ?_ GE579.out) | exact HB.out)) hb); clear HO584; clear HO587; clear BK579; clear HB; have HO584 := n0_; have HO587 := n1_; have HO590 := n2_; have BK579 := n3_; have HB := n4_; clear n0_ n1_ n2_ n3_ n4_; (try clear hb); (try clear hb2); (try clear hk); (try clear hi); (try clear ho0); have hcz21_0 : w20.cell? ⟨gb579, 0, none⟩ = some (.string a0_0) := (blk_cell BK579.out 0).trans rfl; have hcz21_1 : w20.cell? ⟨gb579, 1, none⟩ = some (.slice A0_1 l0_1.length c0_1) := (blk_cell BK579.out 1).trans rfl; have hcz21_2 : w20.cell? ⟨gb579, 2, none⟩ = some (.slice A0_2 l0_2.length c0_2) := (blk_cell BK579.out 2).trans rfl; have hfz21_0 := blk_frozen BK579.out 0; have hfz21_1 := blk_frozen BK579.out 1; have hfz21_2 := blk_frozen BK579.out 2) | ((with_reducible refine gate_callee (f := 17) rfl ?_); refine goesL_ (some 29) rfl rfl Try.func17 (by kernel_rfl) rfl #[.agg #[.string a0_0, .slice A0_1 l0_1.length c0_1, .slice A0_2 l0_2.length c0_2]] rfl (by (try simp only [List.map_toArray, List.map_cons, List.map_nil]); first | done | rfl | (simp only [List.length_drop, List.length_take]; rfl)) ?_; (with_reducible refine (laws_toTala.calls k a0_0 _ _ l0_1 _ _ l0_2 t592 t593 t596 _ ?side1 ?side2 ?side3 ?side4 A10.out).mono ?_); (case side1 => repeat (first | exact (Kd.C_below HR0_1.out HB.out) | (with_reducible refine Kd.C_alloc ?_ _) | (with_reducible refine Kd.C_drewN ?_ _) | (with_reducible refine Kd.C_drew ?_))); (case side2 => exact HC0_1.out); (case side3 => repeat (first | exact (Kd.C_below HR0_2.out HB.out) | (with_reducible refine Kd.C_alloc ?_ _) | (with_reducible refine Kd.C_drewN ?_ _) | (with_reducible refine Kd.C_drew ?_))); (case side4 => exact HC0_2.out); rintro e w22 ⟨v594, v597, rfl, ho0, ho1, hb⟩; refine ⟨_, rfl, ?_⟩; have n0_ := Aside0.mk (Kd.R_mono (Kd.R_told (Kd.R_told (Kd.R_old (by (with_reducible repeat (first | apply Kd.R_alloc | apply Kd.R_drewN | apply Kd.R_drew)); exact HO584.out) hb) (Kd.R_base ho0)) (Kd.R_base ho1)) (fun _ h_ => h_.1)); have n1_ := Aside0.mk (Kd.R_mono (Kd.R_told (Kd.R_told (Kd.R_old (by (with_reducible repeat (first | apply Kd.R_alloc | apply Kd.R_drewN | apply Kd.R_drew)); exact HO587.out) hb) (Kd.R_base ho0)) (Kd.R_base ho1)) (fun _ h_ => h_.1)); have n2_ := Aside0.mk (Kd.R_mono (Kd.R_told (Kd.R_told (Kd.R_old (by (with_reducible repeat (first | apply Kd.R_alloc | apply Kd.R_drewN | apply Kd.R_drew)); exact HO590.out) hb) (Kd.R_base ho0)) (Kd.R_base ho1)) (fun _ h_ => h_.1)); have n3_ := Aside0.mk (Kd.R_lower (Kd.R_new' (Kd.R_new' (Kd.R_new' ho0 (Kd.R_lt (by (with_reducible repeat (first | apply Kd.R_alloc | apply Kd.R_drewN | apply Kd.R_drew)); exact HO584.out))) (Kd.R_lt (by (with_reducible repeat (first | apply Kd.R_alloc | apply Kd.R_drewN | apply Kd.R_drew)); exact HO587.out))) (Kd.R_lt (by (with_reducible repeat (first | apply Kd.R_alloc | apply Kd.R_drewN | apply Kd.R_drew)); exact HO590.out))) (below_size (by repeat (first | (with_reducible first | exact HB.out | apply below_alloc | apply pw_below_drewN | apply below_drew1 | refine below_set ?_ GE579.out) | exact HB.out)))); have n4_ := Aside0.mk (Kd.R_lower (Kd.R_new' (Kd.R_new' (Kd.R_new' ho1 (Kd.R_lt (by (with_reducible repeat (first | apply Kd.R_alloc | apply Kd.R_drewN | apply Kd.R_drew)); exact HO584.out))) (Kd.R_lt (by (with_reducible repeat (first | apply Kd.R_alloc | apply Kd.R_drewN | apply Kd.R_drew)); exact HO587.out))) (Kd.R_lt (by (with_reducible repeat (first | apply Kd.R_alloc | apply Kd.R_drewN | apply Kd.R_drew)); exact HO590.out))) (below_size (by repeat (first | (with_reducible first | exact HB.out | apply below_alloc | apply pw_below_drewN | apply below_drew1 | refine below_set ?_ GE579.out) | exact HB.out)))); have n5_ := Aside0.mk (blk_below (g := gb579) (o := .cells #[.string a0_0, .slice A0_1 l0_1.length c0_1, .slice A0_2 l0_2.length c0_2] 24 (0, 0)) (by (with_reducible repeat (first | refine blk_drewN ?_ _ | refine blk_drew ?_ | refine blk_alloc ?_ _)); exact BK579.out) hb); have n6_ := Aside0.mk (below_step (by repeat (first | (with_reducible first | exact HB.out | apply below_alloc | apply pw_below_drewN | apply below_drew1 | refine below_set ?_ GE579.out) | exact HB.out)) hb); clear HO584; clear HO587; clear HO590; clear BK579; clear HB; have HO584 := n0_; have HO587 := n1_; have HO590 := n2_; have HO595 := n3_; have HO598 := n4_; have BK579 := n5_; have HB := n6_; clear n0_ n1_ n2_ n3_ n4_ n5_ n6_; (try clear hb); (try clear hb2); (try clear hk); (try clear hi); (try clear ho0); (try clear ho1)) | ((with_reducible refine gate_dst (N := 8) rfl ?_); refine box_event ?hg (N := 8) ?hd (cs := #[.string (⟨#[]⟩ : ByteArray), .slice none 0 0, .slice none 0 0]) (t := 27) ?hr ?_; (case hd => rfl); (case hg => rfl); (case hr => first | (go_simp; done) | (go_simp; rfl)); intro gb599 hg w23 hbox hb; have n0_ := Aside0.mk (Kd.R_below (by (with_reducible repeat (first | apply Kd.R_alloc | apply Kd.R_drewN | apply Kd.R_drew)); exact HO584.out) hb); have n1_ := Aside0.mk (Kd.R_below (by (with_reducible repeat (first | apply Kd.R_alloc | apply Kd.R_drewN | apply Kd.R_drew)); exact HO587.out) hb); have n2_ := Aside0.mk (Kd.R_below (by (with_reducible repeat (first | apply Kd.R_alloc | apply Kd.R_drewN | apply Kd.R_drew)); exact HO590.out) hb); have n3_ := Aside0.mk (Kd.R_below (by (with_reducible repeat (first | apply Kd.R_alloc | apply Kd.R_drewN | apply Kd.R_drew)); exact HO595.out) hb); have n4_ := Aside0.mk (Kd.R_below (by (with_reducible repeat (first | apply Kd.R_alloc | apply Kd.R_drewN | apply Kd.R_drew)); exact HO598.out) hb); have n5_ := Aside0.mk (blk_below (g := gb579) (o := .cells #[.string a0_0, .slice A0_1 l0_1.length c0_1, .slice A0_2 l0_2.length c0_2] 24 (0, 0)) (by (with_reducible repeat (first | refine blk_drewN ?_ _ | refine blk_drew ?_ | refine blk_alloc ?_ _)); exact BK579.out) hb); have n6_ := Aside0.mk (below_step (by repeat (first | (with_reducible first | exact HB.out | apply below_alloc | apply pw_below_drewN | apply below_drew1 | refine below_set ?_ GE579.out) | exact HB.out)) hb); have n7_ := Aside0.mk (hbox); have n8_ := Aside0.mk ((by rw [hg]; exact (below_size (by repeat (first | (with_reducible first | exact HB.out | apply below_alloc | apply pw_below_drewN | apply below_drew1 | refine below_set ?_ GE579.out) | exact HB.out))) : w.heap.size ≤ gb599)); have n9_ := Aside0.mk ((by rw [hg]; exact (below_size (by repeat (first | (with_reducible first | exact HB.out | apply below_alloc | apply pw_below_drewN | apply below_drew1 | refine below_set ?_ GE579.out) | exact HB.out))) : w.heap.size ≤ gb599)); have n10_ := Aside0.mk ((by rw [hg]; exact Nat.ne_of_lt (blk_lt (g := gb579) (o := .cells #[.string a0_0, .slice A0_1 l0_1.length c0_1, .slice A0_2 l0_2.length c0_2] 24 (0, 0)) (by (with_reducible repeat (first | refine blk_drewN ?_ _ | refine blk_drew ?_ | refine blk_alloc ?_ _)); exact BK579.out)) : gb579 ≠ gb599)); have n11_ := Aside0.mk ((by rw [hg]; exact Nat.ne_of_gt (blk_lt (g := gb579) (o := .cells #[.string a0_0, .slice A0_1 l0_1.length c0_1, .slice A0_2 l0_2.length c0_2] 24 (0, 0)) (by (with_reducible repeat (first | refine blk_drewN ?_ _ | refine blk_drew ?_ | refine blk_alloc ?_ _)); exact BK579.out)) : gb599 ≠ gb579)); clear HO584; clear HO587; clear HO590; clear HO595; clear HO598; clear BK579; clear HB; have HO584 := n0_; have HO587 := n1_; have HO590 := n2_; have HO595 := n3_; have HO598 := n4_; have BK579 := n5_; have HB := n6_; have BK599 := n7_; have GW599 := n8_; have GE599 := n9_; have NB579_599 := n10_; have NB599_579 := n11_; clear n0_ n1_ n2_ n3_ n4_ n5_ n6_ n7_ n8_ n9_ n10_ n11_; clear hb hbox hg; have hnb24 := NB599_579.out; have hnc24 := NB579_599.out; have hcz25_0 : w23.cell? ⟨gb599, 0, none⟩ = some (.string (⟨#[]⟩ : ByteArray)) := (blk_cell BK599.out 0).trans rfl; have hcz25_1 : w23.cell? ⟨gb599, 1, none⟩ = some (.slice none 0 0) := (blk_cell BK599.out 1).trans rfl; have hcz25_2 : w23.cell? ⟨gb599, 2, none⟩ = some (.slice none 0 0) := (blk_cell BK599.out 2).trans rfl; have hfz25_0 := blk_frozen BK599.out 0; have hfz25_1 := blk_frozen BK599.out 1; have hfz25_2 := blk_frozen BK599.out 2; obtain ⟨Ao26, co26, eo26⟩ := Kd.R_slice HO595.out; subst eo26; obtain ⟨Ao27, co27, eo27⟩ := Kd.R_slice HO598.out; subst eo27) | ((with_reducible refine gate_callee (f := 39) rfl ?_); refine goesL_ (some 33) rfl rfl Try.func39 (by kernel_rfl) rfl #[.agg #[.string t592, .slice Ao26 t593.length co26, .slice Ao27 t596.length co27], .int .i64 a1] rfl (by (try simp only [List.map_toArray, List.map_cons, List.map_nil]); first | done | rfl | (simp only [List.length_drop, List.length_take]; rfl)) ?_; (with_reducible refine (impl_BeatsWith.calls k t592 _ _ t593 _ _ t596 a1 t600 t603 _ ?side1 ?side2 ?side3 ?side4 A11.out).mono ?_); (case side1 => refine (Kd.R_reads' (e := 2) (base := w.heap.size) (ok := fun k_ => (((some k_ ≠ (.slice Ao27 t596.length co27 : Value).ownBlock ∧ some k_ ≠ (.slice Ao18 t582.length co18 : Value).ownBlock) ∧ some k_ ≠ (.slice Ao19 t585.length co19 : Value).ownBlock) ∧ some k_ ≠ (v589 : Value).ownBlock)) (n := t593.length) (c := co26) ?_).2.2; exact (by (with_reducible repeat (first | apply Kd.R_alloc | apply Kd.R_drewN | apply Kd.R_drew)); exact (Kd.R_mono (Kd.R_far (p := ⟨gb599, 2, none⟩) (Kd.R_far (p := ⟨gb599, 1, none⟩) (Kd.R_far (p := ⟨gb599, 0, none⟩) (Kd.R_types HO595.out BK599.out (by decide)) (fun _ hk => hk.2) (.string t592)) (fun _ hk => hk.2) (.slice Ao26 t593.length co26)) (fun _ hk => hk.2) (.slice Ao27 t596.length co27)) (fun _ h_ => h_.1)))); (case side2 => exact (Kd.R_reads' HO595.out).2.1); (case side3 => refine (Kd.R_reads' (e := 2) (base := w.heap.size) (ok := fun k_ => (((some k_ ≠ (.slice Ao26 t593.length co26 : Value).ownBlock ∧ some k_ ≠ (.slice Ao18 t582.length co18 : Value).ownBlock) ∧ some k_ ≠ (.slice Ao19 t585.length co19 : Value).ownBlock) ∧ some k_ ≠ (v589 : Value).ownBlock)) (n := t596.length) (c := co27) ?_).2.2; exact (by (with_reducible repeat (first | apply Kd.R_alloc | apply Kd.R_drewN | apply Kd.R_drew)); exact (Kd.R_mono (Kd.R_far (p := ⟨gb599, 2, none⟩) (Kd.R_far (p := ⟨gb599, 1, none⟩) (Kd.R_far (p := ⟨gb599, 0, none⟩) (Kd.R_types HO598.out BK599.out (by decide)) (fun _ hk => hk.2) (.string t592)) (fun _ hk => hk.2) (.slice Ao26 t593.length co26)) (fun _ hk => hk.2) (.slice Ao27 t596.length co27)) (fun _ h_ => h_.1)))); (case side4 => exact (Kd.R_reads' HO598.out).2.1); rintro e w28 ⟨v601, rfl, ho0, hb⟩; refine ⟨_, rfl, ?_⟩; have n0_ := Aside0.mk (Kd.R_elder' (by (with_reducible repeat (first | apply Kd.R_alloc | apply Kd.R_drewN | apply Kd.R_drew)); exact (Kd.R_mono (Kd.R_far (p := ⟨gb599, 2, none⟩) (Kd.R_far (p := ⟨gb599, 1, none⟩) (Kd.R_far (p := ⟨gb599, 0, none⟩) (Kd.R_types HO584.out BK599.out (by decide)) (fun _ hk => hk.2) (.string t592)) (fun _ hk => hk.2) (.slice Ao26 t593.length co26)) (fun _ hk => hk.2) (.slice Ao27 t596.length co27)) (fun _ h_ => h_.1))) (Kd.R_base ho0) hb); have n1_ := Aside0.mk (Kd.R_elder' (by (with_reducible repeat (first | apply Kd.R_alloc | apply Kd.R_drewN | apply Kd.R_drew)); exact (Kd.R_mono (Kd.R_far (p := ⟨gb599, 2, none⟩) (Kd.R_far (p := ⟨gb599, 1, none⟩) (Kd.R_far (p := ⟨gb599, 0, none⟩) (Kd.R_types HO587.out BK599.out (by decide)) (fun _ hk => hk.2) (.string t592)) (fun _ hk => hk.2) (.slice Ao26 t593.length co26)) (fun _ hk => hk.2) (.slice Ao27 t596.length co27)) (fun _ h_ => h_.1))) (Kd.R_base ho0) hb); have n2_ := Aside0.mk (Kd.R_elder' (by (with_reducible repeat (first | apply Kd.R_alloc | apply Kd.R_drewN | apply Kd.R_drew)); exact (Kd.R_mono (Kd.R_far (p := ⟨gb599, 2, none⟩) (Kd.R_far (p := ⟨gb599, 1, none⟩) (Kd.R_far (p := ⟨gb599, 0, none⟩) (Kd.R_types HO590.out BK599.out (by decide)) (fun _ hk => hk.2) (.string t592)) (fun _ hk => hk.2) (.slice Ao26 t593.length co26)) (fun _ hk => hk.2) (.slice Ao27 t596.length co27)) (fun _ h_ => h_.1))) (Kd.R_base ho0) hb); have n3_ := Aside0.mk (Kd.R_elder' (by (with_reducible repeat (first | apply Kd.R_alloc | apply Kd.R_drewN | apply Kd.R_drew)); exact (Kd.R_mono (Kd.R_far (p := ⟨gb599, 2, none⟩) (Kd.R_far (p := ⟨gb599, 1, none⟩) (Kd.R_far (p := ⟨gb599, 0, none⟩) (Kd.R_types HO595.out BK599.out (by decide)) (fun _ hk => hk.2) (.string t592)) (fun _ hk => hk.2) (.slice Ao26 t593.length co26)) (fun _ hk => hk.2) (.slice Ao27 t596.length co27)) (fun _ h_ => h_.1))) (Kd.R_base ho0) hb); have n4_ := Aside0.mk (Kd.R_elder' (by (with_reducible repeat (first | apply Kd.R_alloc | apply Kd.R_drewN | apply Kd.R_drew)); exact (Kd.R_mono (Kd.R_far (p := ⟨gb599, 2, none⟩) (Kd.R_far (p := ⟨gb599, 1, none⟩) (Kd.R_far (p := ⟨gb599, 0, none⟩) (Kd.R_types HO598.out BK599.out (by decide)) (fun _ hk => hk.2) (.string t592)) (fun _ hk => hk.2) (.slice Ao26 t593.length co26)) (fun _ hk => hk.2) (.slice Ao27 t596.length co27)) (fun _ h_ => h_.1))) (Kd.R_base ho0) hb); have n5_ := Aside0.mk (Kd.R_lower (Kd.R_new' (Kd.R_new' (Kd.R_new' (Kd.R_new' (Kd.R_new' ho0 (Kd.R_lt (by (with_reducible repeat (first | apply Kd.R_alloc | apply Kd.R_drewN | apply Kd.R_drew)); exact (Kd.R_mono (Kd.R_far (p := ⟨gb599, 2, none⟩) (Kd.R_far (p := ⟨gb599, 1, none⟩) (Kd.R_far (p := ⟨gb599, 0, none⟩) (Kd.R_types HO584.out BK599.out (by decide)) (fun _ hk => hk.2) (.string t592)) (fun _ hk => hk.2) (.slice Ao26 t593.length co26)) (fun _ hk => hk.2) (.slice Ao27 t596.length co27)) (fun _ h_ => h_.1))))) (Kd.R_lt (by (with_reducible repeat (first | apply Kd.R_alloc | apply Kd.R_drewN | apply Kd.R_drew)); exact (Kd.R_mono (Kd.R_far (p := ⟨gb599, 2, none⟩) (Kd.R_far (p := ⟨gb599, 1, none⟩) (Kd.R_far (p := ⟨gb599, 0, none⟩) (Kd.R_types HO587.out BK599.out (by decide)) (fun _ hk => hk.2) (.string t592)) (fun _ hk => hk.2) (.slice Ao26 t593.length co26)) (fun _ hk => hk.2) (.slice Ao27 t596.length co27)) (fun _ h_ => h_.1))))) (Kd.R_lt (by (with_reducible repeat (first | apply Kd.R_alloc | apply Kd.R_drewN | apply Kd.R_drew)); exact (Kd.R_mono (Kd.R_far (p := ⟨gb599, 2, none⟩) (Kd.R_far (p := ⟨gb599, 1, none⟩) (Kd.R_far (p := ⟨gb599, 0, none⟩) (Kd.R_types HO590.out BK599.out (by decide)) (fun _ hk => hk.2) (.string t592)) (fun _ hk => hk.2) (.slice Ao26 t593.length co26)) (fun _ hk => hk.2) (.slice Ao27 t596.length co27)) (fun _ h_ => h_.1))))) (Kd.R_lt (by (with_reducible repeat (first | apply Kd.R_alloc | apply Kd.R_drewN | apply Kd.R_drew)); exact (Kd.R_mono (Kd.R_far (p := ⟨gb599, 2, none⟩) (Kd.R_far (p := ⟨gb599, 1, none⟩) (Kd.R_far (p := ⟨gb599, 0, none⟩) (Kd.R_types HO595.out BK599.out (by decide)) (fun _ hk => hk.2) (.string t592)) (fun _ hk => hk.2) (.slice Ao26 t593.length co26)) (fun _ hk => hk.2) (.slice Ao27 t596.length co27)) (fun _ h_ => h_.1))))) (Kd.R_lt (by (with_reducible repeat (first | apply Kd.R_alloc | apply Kd.R_drewN | apply Kd.R_drew)); exact (Kd.R_mono (Kd.R_far (p := ⟨gb599, 2, none⟩) (Kd.R_far (p := ⟨gb599, 1, none⟩) (Kd.R_far (p := ⟨gb599, 0, none⟩) (Kd.R_types HO598.out BK599.out (by decide)) (fun _ hk => hk.2) (.string t592)) (fun _ hk => hk.2) (.slice Ao26 t593.length co26)) (fun _ hk => hk.2) (.slice Ao27 t596.length co27)) (fun _ h_ => h_.1))))) (below_size (by repeat (first | (with_reducible first | exact HB.out | apply below_alloc | apply pw_below_drewN | apply below_drew1 | refine below_set ?_ GE579.out | refine below_set ?_ GE599.out) | exact HB.out)))); have n6_ := Aside0.mk (blk_below (g := gb579) (o := .cells #[.string a0_0, .slice A0_1 l0_1.length c0_1, .slice A0_2 l0_2.length c0_2] 24 (0, 0)) (by (with_reducible repeat (first | refine blk_drewN ?_ _ | refine blk_drew ?_ | refine blk_alloc ?_ _)); refine blk_far ?_ NB579_599.out _; (with_reducible repeat (first | refine blk_drewN ?_ _ | refine blk_drew ?_ | refine blk_alloc ?_ _)); refine blk_far ?_ NB579_599.out _; (with_reducible repeat (first | refine blk_drewN ?_ _ | refine blk_drew ?_ | refine blk_alloc ?_ _)); refine blk_far ?_ NB579_599.out _; (with_reducible repeat (first | refine blk_drewN ?_ _ | refine blk_drew ?_ | refine blk_alloc ?_ _)); exact BK579.out) hb); have n7_ := Aside0.mk (blk_below (g := gb599) (o := .cells #[.string t592, .slice Ao26 t593.length co26, .slice Ao27 t596.length co27] 27 (0, 0)) (by (with_reducible repeat (first | refine blk_drewN ?_ _ | refine blk_drew ?_ | refine blk_alloc ?_ _)); refine blk_put (cs := #[.string t592, .slice Ao26 t593.length co26, .slice none 0 0]) ?_ 2 _ rfl; (with_reducible repeat (first | refine blk_drewN ?_ _ | refine blk_drew ?_ | refine blk_alloc ?_ _)); refine blk_put (cs := #[.string t592, .slice none 0 0, .slice none 0 0]) ?_ 1 _ rfl; (with_reducible repeat (first | refine blk_drewN ?_ _ | refine blk_drew ?_ | refine blk_alloc ?_ _)); refine blk_put (cs := #[.string (⟨#[]⟩ : ByteArray), .slice none 0 0, .slice none 0 0]) ?_ 0 _ rfl; (with_reducible repeat (first | refine blk_drewN ?_ _ | refine blk_drew ?_ | refine blk_alloc ?_ _)); exact BK599.out) hb); have n8_ := Aside0.mk (below_step (by repeat (first | (with_reducible first | exact HB.out | apply below_alloc | apply pw_below_drewN | apply below_drew1 | refine below_set ?_ GE579.out | refine below_set ?_ GE599.out) | exact HB.out)) hb); clear HO584; clear HO587; clear HO590; clear HO595; clear HO598; clear BK579; clear BK599; clear HB; have HO584 := n0_; have HO587 := n1_; have HO590 := n2_; have HO595 := n3_; have HO598 := n4_; have HO602 := n5_; have BK579 := n6_; have BK599 := n7_; have HB := n8_; clear n0_ n1_ n2_ n3_ n4_ n5_ n6_ n7_ n8_; (try clear hb); (try clear hb2); (try clear hk); (try clear hi); (try clear ho0)))
    (try simp only [Act.put, List.setIfInBounds_toArray, List.set_cons_zero, List.set_cons_succ])
    go_cut [44] (fun v44 wc => ∃ (kq : Nat) (x44_11 : Bool), v44 = .bool x44_11 ∧ Aside0 (laws_FnExactBeatsWith.j0 kq a1 t588 t591 t600 t603 x44_11 a0_0 l0_1 l0_2 t592 t593 t596 = some r) ∧ Aside0 (kq ≤ k) ∧ Aside0 (Kd.R (Kd.int .i64) 2 wc w.heap.size (fun k_ => some k_ ≠ (v601 : Value).ownBlock ∧ some k_ ≠ ((.slice Ao26 t593.length co26) : Value).ownBlock ∧ some k_ ≠ ((.slice Ao27 t596.length co27) : Value).ownBlock) v589 t588) ∧ Aside0 (Kd.R (Kd.int .i64) 2 wc w.heap.size (fun k_ => some k_ ≠ (v589 : Value).ownBlock ∧ some k_ ≠ ((.slice Ao26 t593.length co26) : Value).ownBlock ∧ some k_ ≠ ((.slice Ao27 t596.length co27) : Value).ownBlock) v601 t600) ∧ Aside0 (Kd.R (Kd.int .i64) 2 wc w.heap.size (fun k_ => some k_ ≠ (v589 : Value).ownBlock ∧ some k_ ≠ (v601 : Value).ownBlock ∧ some k_ ≠ ((.slice Ao27 t596.length co27) : Value).ownBlock) (.slice Ao26 t593.length co26) t593) ∧ Aside0 (Kd.R (Kd.int .i64) 2 wc w.heap.size (fun k_ => some k_ ≠ (v589 : Value).ownBlock ∧ some k_ ≠ (v601 : Value).ownBlock ∧ some k_ ≠ ((.slice Ao26 t593.length co26) : Value).ownBlock) (.slice Ao27 t596.length co27) t596) ∧ Aside0 (wc.heap[gb579]? = some (.cells #[.string a0_0, (.slice A0_1 l0_1.length c0_1), (.slice A0_2 l0_2.length c0_2)] 24 (0, 0))) ∧ Aside0 (wc.heap[gb599]? = some (.cells #[.string t592, (.slice Ao26 t593.length co26), (.slice Ao27 t596.length co27)] 27 (0, 0))) ∧ Aside0 (Below w.heap.size w wc))
    case first =>
      have H := HC12.out
      clear HC12
      replace H := Option.bind_eq_some_iff.mp H
      obtain ⟨t604, A290, H⟩ := H
      replace H : (if t604 = true then (laws_FnExactBeatsWith.j0 k a1 t588 t591 t600 t603 (t603 != t591) a0_0 l0_1 l0_2 t592 t593 t596) else (laws_FnExactBeatsWith.j0 k a1 t588 t591 t600 t603 true a0_0 l0_1 l0_2 t592 t593 t596)) = some r := H
      have A29 := Aside0.mk A290
      clear A290
      by_cases c30 : t604 = true
      · subst c30
        have H1 : (laws_FnExactBeatsWith.j0 k a1 t588 t591 t600 t603 (t603 != t591) a0_0 l0_1 l0_2 t592 t593 t596) = some r := by rw [if_pos rfl] at H; exact H
        clear H
        have H := H1
        clear H1
        have H' := Aside0.mk H
        clear H
        obtain ⟨Ao31, co31, eo31⟩ := Kd.R_slice HO602.out
        subst eo31
        obtain ⟨Ao32, co32, eo32⟩ := Kd.R_slice HO590.out
        subst eo32
        go_wp2_with (first | ((with_reducible refine gate_callee (f := 40) rfl ?_); refine goesL_ (some 38) rfl rfl Try.func40 (by kernel_rfl) rfl #[.slice Ao31 t600.length co31, .slice Ao32 t588.length co32] rfl (by (try simp only [List.map_toArray, List.map_cons, List.map_nil]); first | done | rfl | (simp only [List.length_drop, List.length_take]; rfl)) ?_; (with_reducible refine (laws_eqInt64S.calls k _ _ t600 _ _ t588 true _ ?side1 ?side2 ?side3 ?side4 A29.out).mono ?_); (case side1 => repeat (first | exact (Kd.R_reads' HO602.out).2.2 | (with_reducible refine Kd.C_alloc ?_ _) | (with_reducible refine Kd.C_drewN ?_ _) | (with_reducible refine Kd.C_drew ?_))); (case side2 => exact (Kd.R_reads' HO602.out).2.1); (case side3 => repeat (first | exact (Kd.R_reads' HO590.out).2.2 | (with_reducible refine Kd.C_alloc ?_ _) | (with_reducible refine Kd.C_drewN ?_ _) | (with_reducible refine Kd.C_drew ?_))); (case side4 => exact (Kd.R_reads' HO590.out).2.1); rintro e w' ⟨rfl, ⟨nd, rfl⟩⟩; refine ⟨_, rfl, ?_⟩))
        go_meet
        case rel => exact ⟨_, ((t603 != t591)), (by first | rfl | (simp; done) | (simp [*]; done)), H', ⟨by first | omega | exact Nat.le_refl _⟩, ⟨by (with_reducible repeat (first | apply Kd.R_alloc | apply Kd.R_drewN | apply Kd.R_drew)); exact Kd.R_mono HO590.out (fun _ hk => ⟨hk.2, ⟨hk.1.1.2, hk.1.2⟩⟩)⟩, ⟨by (with_reducible repeat (first | apply Kd.R_alloc | apply Kd.R_drewN | apply Kd.R_drew)); exact Kd.R_mono HO602.out (fun _ hk => ⟨hk.1.1.2, ⟨hk.1.2, hk.2⟩⟩)⟩, ⟨by (with_reducible repeat (first | apply Kd.R_alloc | apply Kd.R_drewN | apply Kd.R_drew)); exact Kd.R_mono HO595.out (fun _ hk => ⟨hk.1.2, ⟨hk.2, hk.1.1.1.1⟩⟩)⟩, ⟨by (with_reducible repeat (first | apply Kd.R_alloc | apply Kd.R_drewN | apply Kd.R_drew)); exact Kd.R_mono HO598.out (fun _ hk => ⟨hk.1.2, ⟨hk.2, hk.1.1.1.1⟩⟩)⟩, ⟨by (with_reducible repeat (first | refine blk_drewN ?_ _ | refine blk_drew ?_ | refine blk_alloc ?_ _)); exact BK579.out⟩, ⟨by (with_reducible repeat (first | refine blk_drewN ?_ _ | refine blk_drew ?_ | refine blk_alloc ?_ _)); exact BK599.out⟩, ⟨by repeat (first | (with_reducible first | exact HB.out | apply below_alloc | apply pw_below_drewN | apply below_drew1 | refine below_set ?_ GE579.out | refine below_set ?_ GE599.out) | exact HB.out)⟩⟩
      · replace c30 := Bool.eq_false_iff.mpr c30
        subst c30
        have H1 : (laws_FnExactBeatsWith.j0 k a1 t588 t591 t600 t603 true a0_0 l0_1 l0_2 t592 t593 t596) = some r := by rw [if_neg (show ¬ (false = true) by decide)] at H; exact H
        clear H
        have H := H1
        clear H1
        have H' := Aside0.mk H
        clear H
        obtain ⟨Ao33, co33, eo33⟩ := Kd.R_slice HO602.out
        subst eo33
        obtain ⟨Ao34, co34, eo34⟩ := Kd.R_slice HO590.out
        subst eo34
        go_wp2_with (first | ((with_reducible refine gate_callee (f := 40) rfl ?_); refine goesL_ (some 38) rfl rfl Try.func40 (by kernel_rfl) rfl #[.slice Ao33 t600.length co33, .slice Ao34 t588.length co34] rfl (by (try simp only [List.map_toArray, List.map_cons, List.map_nil]); first | done | rfl | (simp only [List.length_drop, List.length_take]; rfl)) ?_; (with_reducible refine (laws_eqInt64S.calls k _ _ t600 _ _ t588 false _ ?side1 ?side2 ?side3 ?side4 A29.out).mono ?_); (case side1 => repeat (first | exact (Kd.R_reads' HO602.out).2.2 | (with_reducible refine Kd.C_alloc ?_ _) | (with_reducible refine Kd.C_drewN ?_ _) | (with_reducible refine Kd.C_drew ?_))); (case side2 => exact (Kd.R_reads' HO602.out).2.1); (case side3 => repeat (first | exact (Kd.R_reads' HO590.out).2.2 | (with_reducible refine Kd.C_alloc ?_ _) | (with_reducible refine Kd.C_drewN ?_ _) | (with_reducible refine Kd.C_drew ?_))); (case side4 => exact (Kd.R_reads' HO590.out).2.1); rintro e w' ⟨rfl, ⟨nd, rfl⟩⟩; refine ⟨_, rfl, ?_⟩))
        go_meet
        case rel => exact ⟨_, (true), (by first | rfl | (simp; done) | (simp [*]; done)), H', ⟨by first | omega | exact Nat.le_refl _⟩, ⟨by (with_reducible repeat (first | apply Kd.R_alloc | apply Kd.R_drewN | apply Kd.R_drew)); exact Kd.R_mono HO590.out (fun _ hk => ⟨hk.2, ⟨hk.1.1.2, hk.1.2⟩⟩)⟩, ⟨by (with_reducible repeat (first | apply Kd.R_alloc | apply Kd.R_drewN | apply Kd.R_drew)); exact Kd.R_mono HO602.out (fun _ hk => ⟨hk.1.1.2, ⟨hk.1.2, hk.2⟩⟩)⟩, ⟨by (with_reducible repeat (first | apply Kd.R_alloc | apply Kd.R_drewN | apply Kd.R_drew)); exact Kd.R_mono HO595.out (fun _ hk => ⟨hk.1.2, ⟨hk.2, hk.1.1.1.1⟩⟩)⟩, ⟨by (with_reducible repeat (first | apply Kd.R_alloc | apply Kd.R_drewN | apply Kd.R_drew)); exact Kd.R_mono HO598.out (fun _ hk => ⟨hk.1.2, ⟨hk.2, hk.1.1.1.1⟩⟩)⟩, ⟨by (with_reducible repeat (first | refine blk_drewN ?_ _ | refine blk_drew ?_ | refine blk_alloc ?_ _)); exact BK579.out⟩, ⟨by (with_reducible repeat (first | refine blk_drewN ?_ _ | refine blk_drew ?_ | refine blk_alloc ?_ _)); exact BK599.out⟩, ⟨by repeat (first | (with_reducible first | exact HB.out | apply below_alloc | apply pw_below_drewN | apply below_drew1 | refine below_set ?_ GE579.out | refine below_set ?_ GE599.out) | exact HB.out)⟩⟩
    case rest =>
      clear HC12
      try clear c1
      try clear c2
      try clear p2
      try clear c3
      try clear c4
      try clear c4b0
      try clear c12
      try clear c15
      try clear c17
      try clear c24
      try clear c30
      try clear hcz14_0
      try clear hcz14_1
      try clear hcz14_2
      try clear hcz16_0
      try clear hcz16_1
      try clear hcz16_2
      try clear hcz21_0
      try clear hcz21_1
      try clear hcz21_2
      try clear hcz25_0
      try clear hcz25_1
      try clear hcz25_2
      try clear hcz6_0
      try clear hcz6_1
      try clear hcz6_2
      try clear hfz14_0
      try clear hfz14_1
      try clear hfz14_2
      try clear hfz16_0
      try clear hfz16_1
      try clear hfz16_2
      try clear hfz21_0
      try clear hfz21_1
      try clear hfz21_2
      try clear hfz25_0
      try clear hfz25_1
      try clear hfz25_2
      try clear hfz6_0
      try clear hfz6_1
      try clear hfz6_2
      obtain ⟨kq, x44_11, rfl, HA, HJ11, HO_6, HO_9, HO_600001, HO_600002, BK579, BK599, HB⟩ := hcut
      cases kq with
      | zero => exact absurd HA.out (by simp [laws_FnExactBeatsWith.j0])
      | succ kj11 =>
        have H := HA.out
        clear HA
        simp only [laws_FnExactBeatsWith.j0] at H
        by_cases c35 : x44_11 = true
        · subst c35
          have H1 : (some false) = some r := by rw [if_pos rfl] at H; exact H
          clear H
          have H := H1
          clear H1
          exact absurd ((Option.some.inj H).trans HT.out) (by decide)
        · replace c35 := Bool.eq_false_iff.mpr c35
          subst c35
          have H1 : ((laws_toTala.f kj11 a0_0 l0_1 l0_2).bind fun bt605 => ((laws_eqTala.f kj11 t592 t593 t596 bt605.1 bt605.2.1 bt605.2.2).bind fun t612 => (if t612 = true then ((laws_markTala.f kj11 t592 t593 t596 1).bind fun bt613 => (if bt613.1 < 0 then (laws_FnExactBeatsWith.j1 kj11 a1 t588 t591 t600 true a0_0 l0_1 l0_2) else ((laws_eqInt64S.f kj11 t600 t588).bind fun t616 => (if t616 = true then (laws_FnExactBeatsWith.j1 kj11 a1 t588 t591 t600 (t603 != t591) a0_0 l0_1 l0_2) else (laws_FnExactBeatsWith.j1 kj11 a1 t588 t591 t600 true a0_0 l0_1 l0_2))))) else (some false)))) = some r := by rw [if_neg (show ¬ (false = true) by decide)] at H; exact H
          clear H
          have H := H1
          clear H1
          replace H := Option.bind_eq_some_iff.mp H
          obtain ⟨⟨t605, t606, t609⟩, A360, H⟩ := H
          replace H : ((laws_eqTala.f kj11 t592 t593 t596 t605 t606 t609).bind fun t612 => (if t612 = true then ((laws_markTala.f kj11 t592 t593 t596 1).bind fun bt613 => (if bt613.1 < 0 then (laws_FnExactBeatsWith.j1 kj11 a1 t588 t591 t600 true a0_0 l0_1 l0_2) else ((laws_eqInt64S.f kj11 t600 t588).bind fun t616 => (if t616 = true then (laws_FnExactBeatsWith.j1 kj11 a1 t588 t591 t600 (t603 != t591) a0_0 l0_1 l0_2) else (laws_FnExactBeatsWith.j1 kj11 a1 t588 t591 t600 true a0_0 l0_1 l0_2))))) else (some false))) = some r := H
          have A36 := Aside0.mk A360
          clear A360
          replace H := Option.bind_eq_some_iff.mp H
          obtain ⟨t612, A370, H⟩ := H
          replace H : (if t612 = true then ((laws_markTala.f kj11 t592 t593 t596 1).bind fun bt613 => (if bt613.1 < 0 then (laws_FnExactBeatsWith.j1 kj11 a1 t588 t591 t600 true a0_0 l0_1 l0_2) else ((laws_eqInt64S.f kj11 t600 t588).bind fun t616 => (if t616 = true then (laws_FnExactBeatsWith.j1 kj11 a1 t588 t591 t600 (t603 != t591) a0_0 l0_1 l0_2) else (laws_FnExactBeatsWith.j1 kj11 a1 t588 t591 t600 true a0_0 l0_1 l0_2))))) else (some false)) = some r := H
          have A37 := Aside0.mk A370
          clear A370
          by_cases c38 : t612 = true
          · subst c38
            have H1 : ((laws_markTala.f kj11 t592 t593 t596 1).bind fun bt613 => (if bt613.1 < 0 then (laws_FnExactBeatsWith.j1 kj11 a1 t588 t591 t600 true a0_0 l0_1 l0_2) else ((laws_eqInt64S.f kj11 t600 t588).bind fun t616 => (if t616 = true then (laws_FnExactBeatsWith.j1 kj11 a1 t588 t591 t600 (t603 != t591) a0_0 l0_1 l0_2) else (laws_FnExactBeatsWith.j1 kj11 a1 t588 t591 t600 true a0_0 l0_1 l0_2))))) = some r := by rw [if_pos rfl] at H; exact H
            clear H
            have H := H1
            clear H1
            replace H := Option.bind_eq_some_iff.mp H
            obtain ⟨⟨t613, t614, t615⟩, A390, H⟩ := H
            replace H : (if t613 < 0 then (laws_FnExactBeatsWith.j1 kj11 a1 t588 t591 t600 true a0_0 l0_1 l0_2) else ((laws_eqInt64S.f kj11 t600 t588).bind fun t616 => (if t616 = true then (laws_FnExactBeatsWith.j1 kj11 a1 t588 t591 t600 (t603 != t591) a0_0 l0_1 l0_2) else (laws_FnExactBeatsWith.j1 kj11 a1 t588 t591 t600 true a0_0 l0_1 l0_2)))) = some r := H
            have A39 := Aside0.mk A390
            clear A390
            have HC40 := Aside0.mk H
            clear H
            try go_wp2
            have n0_ := Aside0.mk (Kd.R_drew HO_6.out)
            have n1_ := Aside0.mk (Kd.R_drew HO_9.out)
            have n2_ := Aside0.mk (Kd.R_drew HO_600001.out)
            have n3_ := Aside0.mk (Kd.R_drew HO_600002.out)
            have n4_ := Aside0.mk (blk_drew BK579.out)
            have n5_ := Aside0.mk (blk_drew BK599.out)
            have n6_ := Aside0.mk (below_drew1 HB.out)
            clear HO_6
            clear HO_9
            clear HO_600001
            clear HO_600002
            clear BK579
            clear BK599
            clear HB
            have HO_6 := n0_
            have HO_9 := n1_
            have HO_600001 := n2_
            have HO_600002 := n3_
            have BK579 := n4_
            have BK599 := n5_
            have HB := n6_
            clear n0_ n1_ n2_ n3_ n4_ n5_ n6_
            refine start_ (n := 5) (S := fun w' => w'.cell? ⟨gb599, 0, none⟩ = some (.string t592) ∧ w'.cell? ⟨gb599, 1, none⟩ = some (.slice Ao26 t593.length co26) ∧ w'.cell? ⟨gb599, 2, none⟩ = some (.slice Ao27 t596.length co27) ∧ w'.cell? ⟨gb579, 0, none⟩ = some (.string a0_0) ∧ w'.cell? ⟨gb579, 1, none⟩ = some (.slice A0_1 l0_1.length c0_1) ∧ w'.cell? ⟨gb579, 2, none⟩ = some (.slice A0_2 l0_2.length c0_2)) (ds := []) #[false, false, false, false, false] (by kernel_rfl) rfl rfl ⟨(blk_cell BK599.out 0).trans rfl, (blk_cell BK599.out 1).trans rfl, (blk_cell BK599.out 2).trans rfl, (blk_cell BK579.out 0).trans rfl, (blk_cell BK579.out 1).trans rfl, (blk_cell BK579.out 2).trans rfl⟩ (fun hHeld => ?_)
            generalize wc.drew = w41 at HO_6 HO_9 HO_600001 HO_600002 BK579 BK599 HB hHeld ⊢
            refine take_ (i := 0) (N := some 45) (v := ?_) (a' := ?_) #[true, false, false, false, false] rfl rfl (by kernel_rfl) (fun _ _ _ h => h) (Or.inl ⟨by rfl, ?_⟩) hHeld ?_ ?_
            rotate_left
            · rintro w' ⟨s0, s1, s2, s3, s4, s5⟩
              go_simp
              with_reducible rfl
            rotate_left
            · simp only [Act.put, List.setIfInBounds_toArray, List.set_cons_zero, List.set_cons_succ, i64_w, i32_w]
              rfl
            refine take_ (i := 1) (N := some 46) (v := ?_) (a' := ?_) #[true, true, false, false, false] rfl rfl (by kernel_rfl) (fun _ _ _ h => h) (Or.inl ⟨by rfl, ?_⟩) hHeld ?_ ?_
            rotate_left
            · rintro w' ⟨s0, s1, s2, s3, s4, s5⟩
              go_simp
              with_reducible rfl
            rotate_left
            · simp only [Act.put, List.setIfInBounds_toArray, List.set_cons_zero, List.set_cons_succ, i64_w, i32_w]
              rfl
            refine one_ (i := 2) (N := some 47) #[true, true, true, false, false] rfl rfl (by kernel_rfl) (by decide) (fun K hK => ?_)
            refine goes_ Try.func17 (by kernel_rfl) rfl #[.agg #[.string a0_0, .slice A0_1 l0_1.length c0_1, .slice A0_2 l0_2.length c0_2]] (by rfl) rfl rfl (by (try simp only [List.map_toArray, List.map_cons, List.map_nil]); first | done | rfl | (simp only [List.length_drop, List.length_take]; rfl)) ?_
            with_reducible refine (laws_toTala.calls kj11 a0_0 _ _ l0_1 _ _ l0_2 t605 t606 t609 _ ?side1 ?side2 ?side3 ?side4 A36.out).mono ?_
            (case side1 => repeat (first | exact (Kd.C_below HR0_1.out HB.out) | (with_reducible refine Kd.C_alloc ?_ _) | (with_reducible refine Kd.C_drewN ?_ _) | (with_reducible refine Kd.C_drew ?_)))
            (case side2 => exact HC0_1.out)
            (case side3 => repeat (first | exact (Kd.C_below HR0_2.out HB.out) | (with_reducible refine Kd.C_alloc ?_ _) | (with_reducible refine Kd.C_drewN ?_ _) | (with_reducible refine Kd.C_drew ?_)))
            (case side4 => exact HC0_2.out)
            rintro e w42 ⟨v607, v610, rfl, ho0, ho1, hb⟩
            refine ⟨_, rfl, ?_⟩
            have n0_ := Aside0.mk (Kd.R_mono (Kd.R_told (Kd.R_told (Kd.R_old (by (with_reducible repeat (first | apply Kd.R_alloc | apply Kd.R_drewN | apply Kd.R_drew)); exact HO_6.out) hb) (Kd.R_base ho0)) (Kd.R_base ho1)) (fun _ h_ => h_.1))
            have n1_ := Aside0.mk (Kd.R_mono (Kd.R_told (Kd.R_told (Kd.R_old (by (with_reducible repeat (first | apply Kd.R_alloc | apply Kd.R_drewN | apply Kd.R_drew)); exact HO_9.out) hb) (Kd.R_base ho0)) (Kd.R_base ho1)) (fun _ h_ => h_.1))
            have n2_ := Aside0.mk (Kd.R_mono (Kd.R_told (Kd.R_told (Kd.R_old (by (with_reducible repeat (first | apply Kd.R_alloc | apply Kd.R_drewN | apply Kd.R_drew)); exact HO_600001.out) hb) (Kd.R_base ho0)) (Kd.R_base ho1)) (fun _ h_ => h_.1))
            have n3_ := Aside0.mk (Kd.R_mono (Kd.R_told (Kd.R_told (Kd.R_old (by (with_reducible repeat (first | apply Kd.R_alloc | apply Kd.R_drewN | apply Kd.R_drew)); exact HO_600002.out) hb) (Kd.R_base ho0)) (Kd.R_base ho1)) (fun _ h_ => h_.1))
            have n4_ := Aside0.mk (Kd.R_lower (Kd.R_new' (Kd.R_new' (Kd.R_new' (Kd.R_new' ho0 (Kd.R_lt (by (with_reducible repeat (first | apply Kd.R_alloc | apply Kd.R_drewN | apply Kd.R_drew)); exact HO_6.out))) (Kd.R_lt (by (with_reducible repeat (first | apply Kd.R_alloc | apply Kd.R_drewN | apply Kd.R_drew)); exact HO_9.out))) (Kd.R_lt (by (with_reducible repeat (first | apply Kd.R_alloc | apply Kd.R_drewN | apply Kd.R_drew)); exact HO_600001.out))) (Kd.R_lt (by (with_reducible repeat (first | apply Kd.R_alloc | apply Kd.R_drewN | apply Kd.R_drew)); exact HO_600002.out))) (below_size (by repeat (first | (with_reducible first | exact HB.out | apply below_alloc | apply pw_below_drewN | apply below_drew1 | refine below_set ?_ GE579.out | refine below_set ?_ GE599.out) | exact HB.out))))
            have n5_ := Aside0.mk (Kd.R_lower (Kd.R_new' (Kd.R_new' (Kd.R_new' (Kd.R_new' ho1 (Kd.R_lt (by (with_reducible repeat (first | apply Kd.R_alloc | apply Kd.R_drewN | apply Kd.R_drew)); exact HO_6.out))) (Kd.R_lt (by (with_reducible repeat (first | apply Kd.R_alloc | apply Kd.R_drewN | apply Kd.R_drew)); exact HO_9.out))) (Kd.R_lt (by (with_reducible repeat (first | apply Kd.R_alloc | apply Kd.R_drewN | apply Kd.R_drew)); exact HO_600001.out))) (Kd.R_lt (by (with_reducible repeat (first | apply Kd.R_alloc | apply Kd.R_drewN | apply Kd.R_drew)); exact HO_600002.out))) (below_size (by repeat (first | (with_reducible first | exact HB.out | apply below_alloc | apply pw_below_drewN | apply below_drew1 | refine below_set ?_ GE579.out | refine below_set ?_ GE599.out) | exact HB.out))))
            have n6_ := Aside0.mk (blk_below (g := gb579) (o := .cells #[.string a0_0, .slice A0_1 l0_1.length c0_1, .slice A0_2 l0_2.length c0_2] 24 (0, 0)) (by (with_reducible repeat (first | refine blk_drewN ?_ _ | refine blk_drew ?_ | refine blk_alloc ?_ _)); exact BK579.out) hb)
            have n7_ := Aside0.mk (blk_below (g := gb599) (o := .cells #[.string t592, .slice Ao26 t593.length co26, .slice Ao27 t596.length co27] 27 (0, 0)) (by (with_reducible repeat (first | refine blk_drewN ?_ _ | refine blk_drew ?_ | refine blk_alloc ?_ _)); exact BK599.out) hb)
            have n8_ := Aside0.mk (below_step (by repeat (first | (with_reducible first | exact HB.out | apply below_alloc | apply pw_below_drewN | apply below_drew1 | refine below_set ?_ GE579.out | refine below_set ?_ GE599.out) | exact HB.out)) hb)
            clear HO_6
            clear HO_9
            clear HO_600001
            clear HO_600002
            clear BK579
            clear BK599
            clear HB
            have HO_6 := n0_
            have HO_9 := n1_
            have HO_600001 := n2_
            have HO_600002 := n3_
            have HO608 := n4_
            have HO611 := n5_
            have BK579 := n6_
            have BK599 := n7_
            have HB := n8_
            clear n0_ n1_ n2_ n3_ n4_ n5_ n6_ n7_ n8_
            (try clear hb)
            (try clear hb2)
            (try clear hk)
            (try clear hi)
            (try clear ho0)
            (try clear ho1)
            obtain ⟨Ao43, co43, eo43⟩ := Kd.R_slice HO608.out
            (first | subst eo43 | (injection eo43 with f1_ f2_ f3_; have f4_ := f1_.symm; have f5_ := f3_.symm; clear f1_ f2_ f3_; subst f4_; subst f5_))
            obtain ⟨Ao44, co44, eo44⟩ := Kd.R_slice HO611.out
            (first | subst eo44 | (injection eo44 with f1_ f2_ f3_; have f4_ := f1_.symm; have f5_ := f3_.symm; clear f1_ f2_ f3_; subst f4_; subst f5_))
            refine hK.out _ _ ⟨(blk_cell BK599.out 0).trans rfl, (blk_cell BK599.out 1).trans rfl, (blk_cell BK599.out 2).trans rfl, (blk_cell BK579.out 0).trans rfl, (blk_cell BK579.out 1).trans rfl, (blk_cell BK579.out 2).trans rfl⟩ (fun hHeld => ?_)
            clear hK K
            refine norm_ (a' := ?_) ?_ ?_
            rotate_left
            · show Act.put _ (some 47) _ = _
              simp only [Act.put, List.setIfInBounds_toArray, List.set_cons_zero, List.set_cons_succ, i64_w, i32_w]
              rfl
            refine one_ (i := 3) (N := some 48) #[true, true, true, true, false] rfl rfl (by kernel_rfl) (by decide) (fun K hK => ?_)
            refine goes_ Try.func19 (by kernel_rfl) rfl #[.agg #[.string t592, .slice Ao26 t593.length co26, .slice Ao27 t596.length co27], .agg #[.string t605, .slice Ao43 t606.length co43, .slice Ao44 t609.length co44]] (by rfl) rfl rfl (by (try simp only [List.map_toArray, List.map_cons, List.map_nil]); first | done | rfl | (simp only [List.length_drop, List.length_take]; rfl)) ?_
            with_reducible refine (laws_eqTala.calls kj11 t592 _ _ t593 _ _ t596 t605 _ _ t606 _ _ t609 true _ ?side1 ?side2 ?side3 ?side4 ?side5 ?side6 ?side7 ?side8 A37.out).mono ?_
            (case side1 => repeat (first | exact (Kd.R_reads' HO_600001.out).2.2 | (with_reducible refine Kd.C_alloc ?_ _) | (with_reducible refine Kd.C_drewN ?_ _) | (with_reducible refine Kd.C_drew ?_)))
            (case side2 => exact (Kd.R_reads' HO_600001.out).2.1)
            (case side3 => repeat (first | exact (Kd.R_reads' HO_600002.out).2.2 | (with_reducible refine Kd.C_alloc ?_ _) | (with_reducible refine Kd.C_drewN ?_ _) | (with_reducible refine Kd.C_drew ?_)))
            (case side4 => exact (Kd.R_reads' HO_600002.out).2.1)
            (case side5 => repeat (first | exact (Kd.R_reads' HO608.out).2.2 | (with_reducible refine Kd.C_alloc ?_ _) | (with_reducible refine Kd.C_drewN ?_ _) | (with_reducible refine Kd.C_drew ?_)))
            (case side6 => exact (Kd.R_reads' HO608.out).2.1)
            (case side7 => repeat (first | exact (Kd.R_reads' HO611.out).2.2 | (with_reducible refine Kd.C_alloc ?_ _) | (with_reducible refine Kd.C_drewN ?_ _) | (with_reducible refine Kd.C_drew ?_)))
            (case side8 => exact (Kd.R_reads' HO611.out).2.1)
            rintro e w45 ⟨rfl, hb⟩
            refine ⟨_, rfl, ?_⟩
            have n0_ := Aside0.mk (Kd.R_below (by (with_reducible repeat (first | apply Kd.R_alloc | apply Kd.R_drewN | apply Kd.R_drew)); exact HO_6.out) hb)
            have n1_ := Aside0.mk (Kd.R_below (by (with_reducible repeat (first | apply Kd.R_alloc | apply Kd.R_drewN | apply Kd.R_drew)); exact HO_9.out) hb)
            have n2_ := Aside0.mk (Kd.R_below (by (with_reducible repeat (first | apply Kd.R_alloc | apply Kd.R_drewN | apply Kd.R_drew)); exact HO_600001.out) hb)
            have n3_ := Aside0.mk (Kd.R_below (by (with_reducible repeat (first | apply Kd.R_alloc | apply Kd.R_drewN | apply Kd.R_drew)); exact HO_600002.out) hb)
            have n4_ := Aside0.mk (Kd.R_below (by (with_reducible repeat (first | apply Kd.R_alloc | apply Kd.R_drewN | apply Kd.R_drew)); exact HO608.out) hb)
            have n5_ := Aside0.mk (Kd.R_below (by (with_reducible repeat (first | apply Kd.R_alloc | apply Kd.R_drewN | apply Kd.R_drew)); exact HO611.out) hb)
            have n6_ := Aside0.mk (blk_below (g := gb579) (o := .cells #[.string a0_0, .slice A0_1 l0_1.length c0_1, .slice A0_2 l0_2.length c0_2] 24 (0, 0)) (by (with_reducible repeat (first | refine blk_drewN ?_ _ | refine blk_drew ?_ | refine blk_alloc ?_ _)); exact BK579.out) hb)
            have n7_ := Aside0.mk (blk_below (g := gb599) (o := .cells #[.string t592, .slice Ao26 t593.length co26, .slice Ao27 t596.length co27] 27 (0, 0)) (by (with_reducible repeat (first | refine blk_drewN ?_ _ | refine blk_drew ?_ | refine blk_alloc ?_ _)); exact BK599.out) hb)
            have n8_ := Aside0.mk (below_step (by repeat (first | (with_reducible first | exact HB.out | apply below_alloc | apply pw_below_drewN | apply below_drew1 | refine below_set ?_ GE579.out | refine below_set ?_ GE599.out) | exact HB.out)) hb)
            clear HO_6
            clear HO_9
            clear HO_600001
            clear HO_600002
            clear HO608
            clear HO611
            clear BK579
            clear BK599
            clear HB
            have HO_6 := n0_
            have HO_9 := n1_
            have HO_600001 := n2_
            have HO_600002 := n3_
            have HO608 := n4_
            have HO611 := n5_
            have BK579 := n6_
            have BK599 := n7_
            have HB := n8_
            clear n0_ n1_ n2_ n3_ n4_ n5_ n6_ n7_ n8_
            (try clear hb)
            (try clear hb2)
            (try clear hk)
            (try clear hi)
            refine hK.out _ _ ⟨(blk_cell BK599.out 0).trans rfl, (blk_cell BK599.out 1).trans rfl, (blk_cell BK599.out 2).trans rfl, (blk_cell BK579.out 0).trans rfl, (blk_cell BK579.out 1).trans rfl, (blk_cell BK579.out 2).trans rfl⟩ (fun hHeld => ?_)
            clear hK K
            refine norm_ (a' := ?_) ?_ ?_
            rotate_left
            · show Act.put _ (some 48) _ = _
              simp only [Act.put, List.setIfInBounds_toArray, List.set_cons_zero, List.set_cons_succ, i64_w, i32_w]
              rfl
            refine pure_ (i := 4) (N := some 49) (v := ?_) (a' := ?_) #[true, true, true, true, true] rfl rfl (by kernel_rfl) (fun _ _ _ h => h) (Or.inl ⟨by rfl, ?_⟩) ?_ ?_
            rotate_left
            · intro w'
              go_simp
              with_reducible rfl
            rotate_left
            · simp only [Act.put, List.setIfInBounds_toArray, List.set_cons_zero, List.set_cons_succ, i64_w, i32_w]
              rfl
            refine done_ (by kernel_rfl) ?_
            have hnb46 := NB599_579.out
            have hnc46 := NB579_599.out
            have hcz47_0 : w45.cell? ⟨gb599, 0, none⟩ = some (.string t592) := (blk_cell BK599.out 0).trans rfl
            have hcz47_1 : w45.cell? ⟨gb599, 1, none⟩ = some (.slice Ao26 t593.length co26) := (blk_cell BK599.out 1).trans rfl
            have hcz47_2 : w45.cell? ⟨gb599, 2, none⟩ = some (.slice Ao27 t596.length co27) := (blk_cell BK599.out 2).trans rfl
            have hfz47_0 := blk_frozen BK599.out 0
            have hfz47_1 := blk_frozen BK599.out 1
            have hfz47_2 := blk_frozen BK599.out 2
            go_upto_region 14 with (first | ((with_reducible refine gate_callee (f := 36) rfl ?_); refine goesL_ (some 52) rfl rfl Try.func36 (by kernel_rfl) rfl #[.agg #[.string t592, .slice Ao26 t593.length co26, .slice Ao27 t596.length co27], .int .i64 1] rfl (by (try simp only [List.map_toArray, List.map_cons, List.map_nil]); first | done | rfl | (simp only [List.length_drop, List.length_take]; rfl)) ?_; (with_reducible refine (laws_markTala.calls kj11 t592 (fun k_ => some k_ = (.slice Ao26 t593.length co26 : Value).ownBlock) (.slice Ao26 t593.length co26) t593 (fun k_ => some k_ = (.slice Ao27 t596.length co27 : Value).ownBlock) (.slice Ao27 t596.length co27) t596 1 t613 t614 t615 w _ ?side1 ?side2 ?side3 ?side4 ?side5 A39.out).mono ?_); (case side1 => repeat (first | (with_reducible first | exact HB.out | apply below_alloc | apply pw_below_drewN | apply below_drew1 | refine below_set ?_ GE579.out | refine below_set ?_ GE599.out) | exact HB.out)); (case side2 => exact Kd.R_tight rfl HO_600001.out); (case side3 => exact fun k_ e_ => (HO_600001.out.1 k_ e_.symm).1.1.2.2); (case side4 => exact Kd.R_tight rfl HO_600002.out); (case side5 => exact fun k_ e_ => (HO_600002.out.1 k_ e_.symm).1.1.2.2); rintro e w48 ⟨rfl, hy0, hy1, hb, hkp⟩; refine ⟨_, rfl, ?_⟩; have n0_ := Aside0.mk (Kd.R_mono (ok' := fun k_ => some k_ ≠ (v601 : Value).ownBlock ∧ some k_ ≠ (.slice Ao26 t593.length co26 : Value).ownBlock ∧ some k_ ≠ (.slice Ao27 t596.length co27 : Value).ownBlock ∧ some k_ ≠ (.slice Ao43 t606.length co43 : Value).ownBlock ∧ some k_ ≠ (.slice Ao44 t609.length co44 : Value).ownBlock) (Kd.R_keptB (HO_6.out) hkp (fun k_ hk_ hs_ => Or.elim hs_ (fun e_ => (hk_.1.1.2.1) e_) (fun e_ => (hk_.1.1.2.2) e_))) (fun k_ hk_ => ⟨hk_.1.1.1.1, hk_.1.1.1.2.1, hk_.1.1.1.2.2, hk_.1.1.2, hk_.1.2⟩)); have n1_ := Aside0.mk (Kd.R_mono (ok' := fun k_ => some k_ ≠ (v589 : Value).ownBlock ∧ some k_ ≠ (.slice Ao26 t593.length co26 : Value).ownBlock ∧ some k_ ≠ (.slice Ao27 t596.length co27 : Value).ownBlock ∧ some k_ ≠ (.slice Ao43 t606.length co43 : Value).ownBlock ∧ some k_ ≠ (.slice Ao44 t609.length co44 : Value).ownBlock) (Kd.R_keptB (HO_9.out) hkp (fun k_ hk_ hs_ => Or.elim hs_ (fun e_ => (hk_.1.1.2.1) e_) (fun e_ => (hk_.1.1.2.2) e_))) (fun k_ hk_ => ⟨hk_.1.1.1.1, hk_.1.1.1.2.1, hk_.1.1.1.2.2, hk_.1.1.2, hk_.1.2⟩)); have n2_ := Aside0.mk (Kd.R_reok rfl hy0 (fun k_ e_ => HO_600001.out.1 k_ e_)); have n3_ := Aside0.mk (Kd.R_reok rfl hy1 (fun k_ e_ => HO_600002.out.1 k_ e_)); have n4_ := Aside0.mk (blk_kept (by (with_reducible repeat (first | refine blk_drewN ?_ _ | refine blk_drew ?_ | refine blk_alloc ?_ _)); exact BK579.out) hkp (fun hs_ => Or.elim hs_ (fun e_ => (fun e_ => (Kd.R_ne HO_600001.out BK579.out (by decide)) e_) e_) (fun e_ => (fun e_ => (Kd.R_ne HO_600002.out BK579.out (by decide)) e_) e_))); have n5_ := Aside0.mk (blk_kept (by (with_reducible repeat (first | refine blk_drewN ?_ _ | refine blk_drew ?_ | refine blk_alloc ?_ _)); exact BK599.out) hkp (fun hs_ => Or.elim hs_ (fun e_ => (fun e_ => (Kd.R_ne HO_600001.out BK599.out (by decide)) e_) e_) (fun e_ => (fun e_ => (Kd.R_ne HO_600002.out BK599.out (by decide)) e_) e_))); have n6_ := Aside0.mk (Kd.R_mono (ok' := fun k_ => some k_ ≠ (v589 : Value).ownBlock ∧ some k_ ≠ (v601 : Value).ownBlock ∧ some k_ ≠ (.slice Ao26 t593.length co26 : Value).ownBlock ∧ some k_ ≠ (.slice Ao27 t596.length co27 : Value).ownBlock ∧ some k_ ≠ (.slice Ao44 t609.length co44 : Value).ownBlock) (Kd.R_keptB (HO608.out) hkp (fun k_ hk_ hs_ => Or.elim hs_ (fun e_ => (hk_.1.2) e_) (fun e_ => (hk_.2) e_))) (fun k_ hk_ => ⟨hk_.1.1.1.1.2, hk_.1.1.1.2, hk_.1.1.2, hk_.1.2, hk_.1.1.1.1.1⟩)); have n7_ := Aside0.mk (Kd.R_mono (ok' := fun k_ => some k_ ≠ (v589 : Value).ownBlock ∧ some k_ ≠ (v601 : Value).ownBlock ∧ some k_ ≠ (.slice Ao26 t593.length co26 : Value).ownBlock ∧ some k_ ≠ (.slice Ao27 t596.length co27 : Value).ownBlock ∧ some k_ ≠ (.slice Ao43 t606.length co43 : Value).ownBlock) (Kd.R_keptB (HO611.out) hkp (fun k_ hk_ hs_ => Or.elim hs_ (fun e_ => (hk_.1.2) e_) (fun e_ => (hk_.2) e_))) (fun k_ hk_ => ⟨hk_.1.1.1.1.2, hk_.1.1.1.2, hk_.1.1.2, hk_.1.2, hk_.1.1.1.1.1⟩)); have n8_ := Aside0.mk (hb); clear HO_6; clear HO_9; clear HO_600001; clear HO_600002; clear BK579; clear BK599; clear HO608; clear HO611; clear HB; have HO_6 := n0_; have HO_9 := n1_; have HO_600001 := n2_; have HO_600002 := n3_; have BK579 := n4_; have BK599 := n5_; have HO608 := n6_; have HO611 := n7_; have HB := n8_; clear n0_ n1_ n2_ n3_ n4_ n5_ n6_ n7_ n8_; (try clear hb); (try clear hkp); (try clear hy0); (try clear hy1)))
            (try simp only [Act.put, List.setIfInBounds_toArray, List.set_cons_zero, List.set_cons_succ])
            go_cut [65] (fun v65 wc => ∃ (kq : Nat) (x65_39 : Bool), v65 = .bool x65_39 ∧ Aside0 (laws_FnExactBeatsWith.j1 kq a1 t588 t591 t600 x65_39 a0_0 l0_1 l0_2 = some r) ∧ Aside0 (kq ≤ kj11) ∧ Aside0 (Kd.R (Kd.int .i64) 2 wc w.heap.size (fun k_ => some k_ ≠ (v601 : Value).ownBlock ∧ some k_ ≠ ((.slice Ao26 t593.length co26) : Value).ownBlock ∧ some k_ ≠ ((.slice Ao27 t596.length co27) : Value).ownBlock) v589 t588) ∧ Aside0 (Kd.R (Kd.int .i64) 2 wc w.heap.size (fun k_ => some k_ ≠ (v589 : Value).ownBlock ∧ some k_ ≠ ((.slice Ao26 t593.length co26) : Value).ownBlock ∧ some k_ ≠ ((.slice Ao27 t596.length co27) : Value).ownBlock) v601 t600) ∧ Aside0 (Kd.R (Kd.int .i64) 2 wc w.heap.size (fun k_ => some k_ ≠ (v589 : Value).ownBlock ∧ some k_ ≠ (v601 : Value).ownBlock ∧ some k_ ≠ ((.slice Ao27 t596.length co27) : Value).ownBlock) (.slice Ao26 t593.length co26) t614) ∧ Aside0 (Kd.R (Kd.int .i64) 2 wc w.heap.size (fun k_ => some k_ ≠ (v589 : Value).ownBlock ∧ some k_ ≠ (v601 : Value).ownBlock ∧ some k_ ≠ ((.slice Ao26 t593.length co26) : Value).ownBlock) (.slice Ao27 t596.length co27) t615) ∧ Aside0 (wc.heap[gb579]? = some (.cells #[.string a0_0, (.slice A0_1 l0_1.length c0_1), (.slice A0_2 l0_2.length c0_2)] 24 (0, 0))) ∧ Aside0 (wc.heap[gb599]? = some (.cells #[.string t592, (.slice Ao26 t593.length co26), (.slice Ao27 t596.length co27)] 27 (0, 0))) ∧ Aside0 (Below w.heap.size w wc))
            case first =>
              have H := HC40.out
              clear HC40
              by_cases c49 : t613 < 0
              · rw [if_pos c49] at H
                have c49b0 : decide (t613 < 0) = true := decide_eq_true c49
                clear c49
                (first | rw [c49b0] | (simp only [i64_w, i32_w]; rw [c49b0]) | skip)
                have H' := Aside0.mk H
                clear H
                go_wp2
                go_meet
                case rel => exact ⟨_, (true), (by first | rfl | (simp; done) | (simp [*]; done)), H', ⟨by have := HJ11.out; first | omega | exact Nat.le_refl _⟩, ⟨by (with_reducible repeat (first | apply Kd.R_alloc | apply Kd.R_drewN | apply Kd.R_drew)); exact Kd.R_mono HO_6.out (fun _ hk => ⟨hk.1, ⟨hk.2.1, hk.2.2.1⟩⟩)⟩, ⟨by (with_reducible repeat (first | apply Kd.R_alloc | apply Kd.R_drewN | apply Kd.R_drew)); exact Kd.R_mono HO_9.out (fun _ hk => ⟨hk.1, ⟨hk.2.1, hk.2.2.1⟩⟩)⟩, ⟨by (with_reducible repeat (first | apply Kd.R_alloc | apply Kd.R_drewN | apply Kd.R_drew)); exact Kd.R_mono HO_600001.out (fun _ hk => ⟨hk.1.1.1, ⟨hk.1.1.2.1, hk.1.1.2.2⟩⟩)⟩, ⟨by (with_reducible repeat (first | apply Kd.R_alloc | apply Kd.R_drewN | apply Kd.R_drew)); exact Kd.R_mono HO_600002.out (fun _ hk => ⟨hk.1.1.1, ⟨hk.1.1.2.1, hk.1.1.2.2⟩⟩)⟩, ⟨by (with_reducible repeat (first | refine blk_drewN ?_ _ | refine blk_drew ?_ | refine blk_alloc ?_ _)); exact BK579.out⟩, ⟨by (with_reducible repeat (first | refine blk_drewN ?_ _ | refine blk_drew ?_ | refine blk_alloc ?_ _)); exact BK599.out⟩, ⟨by repeat (first | (with_reducible first | exact HB.out | apply below_alloc | apply pw_below_drewN | apply below_drew1 | refine below_set ?_ GE579.out | refine below_set ?_ GE599.out) | exact HB.out)⟩⟩
              · rw [if_neg c49] at H
                have c49b0 : decide (t613 < 0) = false := decide_eq_false c49
                clear c49
                (first | rw [c49b0] | (simp only [i64_w, i32_w]; rw [c49b0]) | skip)
                replace H := Option.bind_eq_some_iff.mp H
                obtain ⟨t616, A500, H⟩ := H
                replace H : (if t616 = true then (laws_FnExactBeatsWith.j1 kj11 a1 t588 t591 t600 (t603 != t591) a0_0 l0_1 l0_2) else (laws_FnExactBeatsWith.j1 kj11 a1 t588 t591 t600 true a0_0 l0_1 l0_2)) = some r := H
                have A50 := Aside0.mk A500
                clear A500
                by_cases c51 : t616 = true
                · subst c51
                  have H1 : (laws_FnExactBeatsWith.j1 kj11 a1 t588 t591 t600 (t603 != t591) a0_0 l0_1 l0_2) = some r := by rw [if_pos rfl] at H; exact H
                  clear H
                  have H := H1
                  clear H1
                  have H' := Aside0.mk H
                  clear H
                  obtain ⟨Ao52, co52, eo52⟩ := Kd.R_slice HO_9.out
                  subst eo52
                  obtain ⟨Ao53, co53, eo53⟩ := Kd.R_slice HO_6.out
                  subst eo53
                  go_wp2_with (first | (go_at_call 40; (with_reducible refine (laws_eqInt64S.calls kj11 _ _ t600 _ _ t588 true _ ?side1 ?side2 ?side3 ?side4 A50.out).mono ?_); (case side1 => repeat (first | exact (Kd.R_reads' HO_9.out).2.2 | (with_reducible refine Kd.C_alloc ?_ _) | (with_reducible refine Kd.C_drewN ?_ _) | (with_reducible refine Kd.C_drew ?_))); (case side2 => exact (Kd.R_reads' HO_9.out).2.1); (case side3 => repeat (first | exact (Kd.R_reads' HO_6.out).2.2 | (with_reducible refine Kd.C_alloc ?_ _) | (with_reducible refine Kd.C_drewN ?_ _) | (with_reducible refine Kd.C_drew ?_))); (case side4 => exact (Kd.R_reads' HO_6.out).2.1); rintro e w' ⟨rfl, ⟨nd, rfl⟩⟩))
                  go_meet
                  case rel => exact ⟨_, ((t603 != t591)), (by first | rfl | (simp; done) | (simp [*]; done)), H', ⟨by have := HJ11.out; first | omega | exact Nat.le_refl _⟩, ⟨by (with_reducible repeat (first | apply Kd.R_alloc | apply Kd.R_drewN | apply Kd.R_drew)); exact Kd.R_mono HO_6.out (fun _ hk => ⟨hk.1, ⟨hk.2.1, hk.2.2.1⟩⟩)⟩, ⟨by (with_reducible repeat (first | apply Kd.R_alloc | apply Kd.R_drewN | apply Kd.R_drew)); exact Kd.R_mono HO_9.out (fun _ hk => ⟨hk.1, ⟨hk.2.1, hk.2.2.1⟩⟩)⟩, ⟨by (with_reducible repeat (first | apply Kd.R_alloc | apply Kd.R_drewN | apply Kd.R_drew)); exact Kd.R_mono HO_600001.out (fun _ hk => ⟨hk.1.1.1, ⟨hk.1.1.2.1, hk.1.1.2.2⟩⟩)⟩, ⟨by (with_reducible repeat (first | apply Kd.R_alloc | apply Kd.R_drewN | apply Kd.R_drew)); exact Kd.R_mono HO_600002.out (fun _ hk => ⟨hk.1.1.1, ⟨hk.1.1.2.1, hk.1.1.2.2⟩⟩)⟩, ⟨by (with_reducible repeat (first | refine blk_drewN ?_ _ | refine blk_drew ?_ | refine blk_alloc ?_ _)); exact BK579.out⟩, ⟨by (with_reducible repeat (first | refine blk_drewN ?_ _ | refine blk_drew ?_ | refine blk_alloc ?_ _)); exact BK599.out⟩, ⟨by repeat (first | (with_reducible first | exact HB.out | apply below_alloc | apply pw_below_drewN | apply below_drew1 | refine below_set ?_ GE579.out | refine below_set ?_ GE599.out) | exact HB.out)⟩⟩
                · replace c51 := Bool.eq_false_iff.mpr c51
                  subst c51
                  have H1 : (laws_FnExactBeatsWith.j1 kj11 a1 t588 t591 t600 true a0_0 l0_1 l0_2) = some r := by rw [if_neg (show ¬ (false = true) by decide)] at H; exact H
                  clear H
                  have H := H1
                  clear H1
                  have H' := Aside0.mk H
                  clear H
                  obtain ⟨Ao54, co54, eo54⟩ := Kd.R_slice HO_9.out
                  subst eo54
                  obtain ⟨Ao55, co55, eo55⟩ := Kd.R_slice HO_6.out
                  subst eo55
                  go_wp2_with (first | (go_at_call 40; (with_reducible refine (laws_eqInt64S.calls kj11 _ _ t600 _ _ t588 false _ ?side1 ?side2 ?side3 ?side4 A50.out).mono ?_); (case side1 => repeat (first | exact (Kd.R_reads' HO_9.out).2.2 | (with_reducible refine Kd.C_alloc ?_ _) | (with_reducible refine Kd.C_drewN ?_ _) | (with_reducible refine Kd.C_drew ?_))); (case side2 => exact (Kd.R_reads' HO_9.out).2.1); (case side3 => repeat (first | exact (Kd.R_reads' HO_6.out).2.2 | (with_reducible refine Kd.C_alloc ?_ _) | (with_reducible refine Kd.C_drewN ?_ _) | (with_reducible refine Kd.C_drew ?_))); (case side4 => exact (Kd.R_reads' HO_6.out).2.1); rintro e w' ⟨rfl, ⟨nd, rfl⟩⟩))
                  go_meet
                  case rel => exact ⟨_, (true), (by first | rfl | (simp; done) | (simp [*]; done)), H', ⟨by have := HJ11.out; first | omega | exact Nat.le_refl _⟩, ⟨by (with_reducible repeat (first | apply Kd.R_alloc | apply Kd.R_drewN | apply Kd.R_drew)); exact Kd.R_mono HO_6.out (fun _ hk => ⟨hk.1, ⟨hk.2.1, hk.2.2.1⟩⟩)⟩, ⟨by (with_reducible repeat (first | apply Kd.R_alloc | apply Kd.R_drewN | apply Kd.R_drew)); exact Kd.R_mono HO_9.out (fun _ hk => ⟨hk.1, ⟨hk.2.1, hk.2.2.1⟩⟩)⟩, ⟨by (with_reducible repeat (first | apply Kd.R_alloc | apply Kd.R_drewN | apply Kd.R_drew)); exact Kd.R_mono HO_600001.out (fun _ hk => ⟨hk.1.1.1, ⟨hk.1.1.2.1, hk.1.1.2.2⟩⟩)⟩, ⟨by (with_reducible repeat (first | apply Kd.R_alloc | apply Kd.R_drewN | apply Kd.R_drew)); exact Kd.R_mono HO_600002.out (fun _ hk => ⟨hk.1.1.1, ⟨hk.1.1.2.1, hk.1.1.2.2⟩⟩)⟩, ⟨by (with_reducible repeat (first | refine blk_drewN ?_ _ | refine blk_drew ?_ | refine blk_alloc ?_ _)); exact BK579.out⟩, ⟨by (with_reducible repeat (first | refine blk_drewN ?_ _ | refine blk_drew ?_ | refine blk_alloc ?_ _)); exact BK599.out⟩, ⟨by repeat (first | (with_reducible first | exact HB.out | apply below_alloc | apply pw_below_drewN | apply below_drew1 | refine below_set ?_ GE579.out | refine below_set ?_ GE599.out) | exact HB.out)⟩⟩
            case rest =>
              clear HC40
              try clear c1
              try clear c2
              try clear p2
              try clear c3
              try clear c4
              try clear c4b0
              try clear c5
              try clear c12
              try clear c15
              try clear c17
              try clear c19
              try clear c24
              try clear c30
              try clear c35
              try clear c36
              try clear c38
              try clear c39
              try clear c40
              try clear c46
              try clear c49
              try clear c49b0
              try clear c51
              try clear hcz14_0
              try clear hcz14_1
              try clear hcz14_2
              try clear hcz16_0
              try clear hcz16_1
              try clear hcz16_2
              try clear hcz21_0
              try clear hcz21_1
              try clear hcz21_2
              try clear hcz25_0
              try clear hcz25_1
              try clear hcz25_2
              try clear hcz47_0
              try clear hcz47_1
              try clear hcz47_2
              try clear hcz6_0
              try clear hcz6_1
              try clear hcz6_2
              try clear hfz14_0
              try clear hfz14_1
              try clear hfz14_2
              try clear hfz16_0
              try clear hfz16_1
              try clear hfz16_2
              try clear hfz21_0
              try clear hfz21_1
              try clear hfz21_2
              try clear hfz25_0
              try clear hfz25_1
              try clear hfz25_2
              try clear hfz47_0
              try clear hfz47_1
              try clear hfz47_2
              try clear hfz6_0
              try clear hfz6_1
              try clear hfz6_2
              try clear p2
              obtain ⟨kq, x65_39, rfl, HA, HJ39, HO_6, HO_9, HO_600001, HO_600002, BK579, BK599, HB⟩ := hcut
              have hl600001_39 := (Kd.R_reads' HO_600001.out).1
              rw [hl600001_39] at HO_600001
              (try simp only [hl600001_39])
              (try simp only [hl600001_39] at BK579)
              (try simp only [hl600001_39] at BK599)
              (try simp only [hl600001_39] at HO_6)
              (try simp only [hl600001_39] at HO_9)
              (try simp only [hl600001_39] at HO_600002)
              have hl600002_39 := (Kd.R_reads' HO_600002.out).1
              rw [hl600002_39] at HO_600002
              (try simp only [hl600002_39])
              (try simp only [hl600002_39] at BK579)
              (try simp only [hl600002_39] at BK599)
              (try simp only [hl600002_39] at HO_6)
              (try simp only [hl600002_39] at HO_9)
              (try simp only [hl600002_39] at HO_600001)
              cases kq with
              | zero => exact absurd HA.out (by simp [laws_FnExactBeatsWith.j1])
              | succ kj39 =>
                have H := HA.out
                clear HA
                simp only [laws_FnExactBeatsWith.j1] at H
                by_cases c56 : x65_39 = true
                · subst c56
                  have H1 : (some false) = some r := by rw [if_pos rfl] at H; exact H
                  clear H
                  have H := H1
                  clear H1
                  exact absurd ((Option.some.inj H).trans HT.out) (by decide)
                · replace c56 := Bool.eq_false_iff.mpr c56
                  subst c56
                  have H1 : ((laws_markInt64S.f kj39 t600 1).bind fun bt617 => ((laws_heldInt64S.f kj39 bt617.2 1).bind fun t619 => (if t619 < 0 then (some false) else (if t619 = bt617.1 then ((laws_toTala.f kj39 a0_0 l0_1 l0_2).bind fun bt620 => ((impl_BeatsWith.f kj39 bt620.1 bt620.2.1 bt620.2.2 a1).bind fun bt627 => ((laws_eqInt64S.f kj39 bt627.1 t588).bind fun t631 => (if t631 = true then (laws_FnExactBeatsWith.j2 kj39 bt617.2 bt617.1 (bt627.2 != t591)) else (laws_FnExactBeatsWith.j2 kj39 bt617.2 bt617.1 true))))) else (some false))))) = some r := by rw [if_neg (show ¬ (false = true) by decide)] at H; exact H
                  clear H
                  have H := H1
                  clear H1
                  replace H := Option.bind_eq_some_iff.mp H
                  obtain ⟨⟨t617, t618⟩, A570, H⟩ := H
                  replace H : ((laws_heldInt64S.f kj39 t618 1).bind fun t619 => (if t619 < 0 then (some false) else (if t619 = t617 then ((laws_toTala.f kj39 a0_0 l0_1 l0_2).bind fun bt620 => ((impl_BeatsWith.f kj39 bt620.1 bt620.2.1 bt620.2.2 a1).bind fun bt627 => ((laws_eqInt64S.f kj39 bt627.1 t588).bind fun t631 => (if t631 = true then (laws_FnExactBeatsWith.j2 kj39 t618 t617 (bt627.2 != t591)) else (laws_FnExactBeatsWith.j2 kj39 t618 t617 true))))) else (some false)))) = some r := H
                  have A57 := Aside0.mk A570
                  clear A570
                  replace H := Option.bind_eq_some_iff.mp H
                  obtain ⟨t619, A580, H⟩ := H
                  replace H : (if t619 < 0 then (some false) else (if t619 = t617 then ((laws_toTala.f kj39 a0_0 l0_1 l0_2).bind fun bt620 => ((impl_BeatsWith.f kj39 bt620.1 bt620.2.1 bt620.2.2 a1).bind fun bt627 => ((laws_eqInt64S.f kj39 bt627.1 t588).bind fun t631 => (if t631 = true then (laws_FnExactBeatsWith.j2 kj39 t618 t617 (bt627.2 != t591)) else (laws_FnExactBeatsWith.j2 kj39 t618 t617 true))))) else (some false))) = some r := H
                  have A58 := Aside0.mk A580
                  clear A580
                  by_cases c59 : t619 < 0
                  · rw [if_pos c59] at H
                    have c59b0 : decide (t619 < 0) = true := decide_eq_true c59
                    clear c59
                    exact absurd ((Option.some.inj H).trans HT.out) (by decide)
                  · rw [if_neg c59] at H
                    have c59b0 : decide (t619 < 0) = false := decide_eq_false c59
                    clear c59
                    by_cases c60 : t619 = t617
                    · rw [if_pos c60] at H
                      have c60b0 : (t619 == t617) = true := beq_iff_eq.mpr c60
                      have c60b1 : (t619 != t617) = false := bne_eq_false_iff_eq.mpr c60
                      clear c60
                      replace H := Option.bind_eq_some_iff.mp H
                      obtain ⟨⟨t620, t621, t624⟩, A610, H⟩ := H
                      replace H : ((impl_BeatsWith.f kj39 t620 t621 t624 a1).bind fun bt627 => ((laws_eqInt64S.f kj39 bt627.1 t588).bind fun t631 => (if t631 = true then (laws_FnExactBeatsWith.j2 kj39 t618 t617 (bt627.2 != t591)) else (laws_FnExactBeatsWith.j2 kj39 t618 t617 true)))) = some r := H
                      have A61 := Aside0.mk A610
                      clear A610
                      replace H := Option.bind_eq_some_iff.mp H
                      obtain ⟨⟨t627, t630⟩, A620, H⟩ := H
                      replace H : ((laws_eqInt64S.f kj39 t627 t588).bind fun t631 => (if t631 = true then (laws_FnExactBeatsWith.j2 kj39 t618 t617 (t630 != t591)) else (laws_FnExactBeatsWith.j2 kj39 t618 t617 true))) = some r := H
                      have A62 := Aside0.mk A620
                      clear A620
                      have HC63 := Aside0.mk H
                      clear H
                      obtain ⟨Ao64, co64, eo64⟩ := Kd.R_slice HO_9.out
                      subst eo64
                      go_upto_region 25 with (first | ((with_reducible refine gate_callee (f := 41) rfl ?_); refine goesL_ (some 68) rfl rfl Try.func41 (by kernel_rfl) rfl #[.slice Ao64 t600.length co64, .int .i64 1] rfl (by (try simp only [List.map_toArray, List.map_cons, List.map_nil]); first | done | rfl | (simp only [List.length_drop, List.length_take]; rfl)) ?_; (with_reducible refine (laws_markInt64S.calls kj39 (fun k_ => some k_ = (.slice Ao64 t600.length co64 : Value).ownBlock) (.slice Ao64 t600.length co64) t600 1 t617 t618 w _ ?side1 ?side2 A57.out).mono ?_); (case side1 => repeat (first | (with_reducible first | exact HB.out | apply below_alloc | apply pw_below_drewN | apply below_drew1 | refine below_set ?_ GE579.out | refine below_set ?_ GE599.out) | exact HB.out)); (case side2 => exact Kd.R_tight rfl HO_9.out); rintro e w65 ⟨rfl, hy0, hb, hkp⟩; refine ⟨_, rfl, ?_⟩; have n0_ := Aside0.mk (Kd.R_mono (ok' := fun k_ => some k_ ≠ (.slice Ao64 t600.length co64 : Value).ownBlock ∧ some k_ ≠ (.slice Ao26 t614.length co26 : Value).ownBlock ∧ some k_ ≠ (.slice Ao27 t615.length co27 : Value).ownBlock) (Kd.R_keptB (HO_6.out) hkp (fun k_ hk_ hs_ => (hk_.1) hs_)) (fun k_ hk_ => ⟨hk_.1.1, hk_.1.2.1, hk_.1.2.2⟩)); have n1_ := Aside0.mk (Kd.R_reok rfl hy0 (fun k_ e_ => HO_9.out.1 k_ e_)); have n2_ := Aside0.mk (Kd.R_mono (ok' := fun k_ => some k_ ≠ (v589 : Value).ownBlock ∧ some k_ ≠ (.slice Ao64 t600.length co64 : Value).ownBlock ∧ some k_ ≠ (.slice Ao27 t615.length co27 : Value).ownBlock) (Kd.R_keptB (HO_600001.out) hkp (fun k_ hk_ hs_ => (hk_.2.1) hs_)) (fun k_ hk_ => ⟨hk_.1.1, hk_.1.2.1, hk_.1.2.2⟩)); have n3_ := Aside0.mk (Kd.R_mono (ok' := fun k_ => some k_ ≠ (v589 : Value).ownBlock ∧ some k_ ≠ (.slice Ao64 t600.length co64 : Value).ownBlock ∧ some k_ ≠ (.slice Ao26 t614.length co26 : Value).ownBlock) (Kd.R_keptB (HO_600002.out) hkp (fun k_ hk_ hs_ => (hk_.2.1) hs_)) (fun k_ hk_ => ⟨hk_.1.1, hk_.1.2.1, hk_.1.2.2⟩)); have n4_ := Aside0.mk (blk_kept (by (with_reducible repeat (first | refine blk_drewN ?_ _ | refine blk_drew ?_ | refine blk_alloc ?_ _)); exact BK579.out) hkp (fun hs_ => (fun e_ => (Kd.R_ne HO_9.out BK579.out (by decide)) e_) hs_)); have n5_ := Aside0.mk (blk_kept (by (with_reducible repeat (first | refine blk_drewN ?_ _ | refine blk_drew ?_ | refine blk_alloc ?_ _)); exact BK599.out) hkp (fun hs_ => (fun e_ => (Kd.R_ne HO_9.out BK599.out (by decide)) e_) hs_)); have n6_ := Aside0.mk (hb); clear HO_6; clear HO_9; clear HO_600001; clear HO_600002; clear BK579; clear BK599; clear HB; have HO_6 := n0_; have HO_9 := n1_; have HO_600001 := n2_; have HO_600002 := n3_; have BK579 := n4_; have BK599 := n5_; have HB := n6_; clear n0_ n1_ n2_ n3_ n4_ n5_ n6_; (try clear hb); (try clear hkp); (try clear hy0)) | ((with_reducible refine gate_callee (f := 42) rfl ?_); refine goesL_ (some 71) rfl rfl Try.func42 (by kernel_rfl) rfl #[.slice Ao64 t618.length co64, .int .i64 1] rfl (by (try simp only [List.map_toArray, List.map_cons, List.map_nil]); first | done | (rw [show t618.length = t600.length from (Kd.R_reads' HO_9.out).1.symm] <;> rfl) | rfl | (simp only [List.length_drop, List.length_take]; rfl)) ?_; (with_reducible refine (laws_heldInt64S.calls kj39 _ _ t618 1 t619 _ ?side1 ?side2 A58.out).mono ?_); (case side1 => repeat (first | exact (Kd.R_reads' HO_9.out).2.2 | (with_reducible refine Kd.C_alloc ?_ _) | (with_reducible refine Kd.C_drewN ?_ _) | (with_reducible refine Kd.C_drew ?_))); (case side2 => rw [show t618.length = t600.length from (Kd.R_reads' HO_9.out).1.symm]; exact (Kd.R_reads' HO_9.out).2.1); rintro e w' ⟨rfl, ⟨nd, rfl⟩⟩; refine ⟨_, rfl, ?_⟩; have hnb66 := NB579_599.out; have hnc66 := NB599_579.out; have hcz67_0 : w65.cell? ⟨gb579, 0, none⟩ = some (.string a0_0) := (blk_cell BK579.out 0).trans rfl; have hcz67_1 : w65.cell? ⟨gb579, 1, none⟩ = some (.slice A0_1 l0_1.length c0_1) := (blk_cell BK579.out 1).trans rfl; have hcz67_2 : w65.cell? ⟨gb579, 2, none⟩ = some (.slice A0_2 l0_2.length c0_2) := (blk_cell BK579.out 2).trans rfl; have hfz67_0 := blk_frozen BK579.out 0; have hfz67_1 := blk_frozen BK579.out 1; have hfz67_2 := blk_frozen BK579.out 2) | ((with_reducible refine gate_callee (f := 17) rfl ?_); refine goesL_ (some 79) rfl rfl Try.func17 (by kernel_rfl) rfl #[.agg #[.string a0_0, .slice A0_1 l0_1.length c0_1, .slice A0_2 l0_2.length c0_2]] rfl (by (try simp only [List.map_toArray, List.map_cons, List.map_nil]); first | done | rfl | (simp only [List.length_drop, List.length_take]; rfl)) ?_; (with_reducible refine (laws_toTala.calls kj39 a0_0 _ _ l0_1 _ _ l0_2 t620 t621 t624 _ ?side1 ?side2 ?side3 ?side4 A61.out).mono ?_); (case side1 => repeat (first | exact (Kd.C_below HR0_1.out (by repeat (first | (with_reducible first | exact HB.out | apply below_alloc | apply pw_below_drewN | apply below_drew1 | refine below_set ?_ GE579.out | refine below_set ?_ GE599.out) | exact HB.out))) | (with_reducible refine Kd.C_alloc ?_ _) | (with_reducible refine Kd.C_drewN ?_ _) | (with_reducible refine Kd.C_drew ?_))); (case side2 => exact HC0_1.out); (case side3 => repeat (first | exact (Kd.C_below HR0_2.out (by repeat (first | (with_reducible first | exact HB.out | apply below_alloc | apply pw_below_drewN | apply below_drew1 | refine below_set ?_ GE579.out | refine below_set ?_ GE599.out) | exact HB.out))) | (with_reducible refine Kd.C_alloc ?_ _) | (with_reducible refine Kd.C_drewN ?_ _) | (with_reducible refine Kd.C_drew ?_))); (case side4 => exact HC0_2.out); rintro e w68 ⟨v622, v625, rfl, ho0, ho1, hb⟩; refine ⟨_, rfl, ?_⟩; have n0_ := Aside0.mk (Kd.R_mono (Kd.R_told (Kd.R_told (Kd.R_old (by (with_reducible repeat (first | apply Kd.R_alloc | apply Kd.R_drewN | apply Kd.R_drew)); exact HO_6.out) hb) (Kd.R_base ho0)) (Kd.R_base ho1)) (fun _ h_ => h_.1)); have n1_ := Aside0.mk (Kd.R_mono (Kd.R_told (Kd.R_told (Kd.R_old (by (with_reducible repeat (first | apply Kd.R_alloc | apply Kd.R_drewN | apply Kd.R_drew)); exact HO_9.out) hb) (Kd.R_base ho0)) (Kd.R_base ho1)) (fun _ h_ => h_.1)); have n2_ := Aside0.mk (Kd.R_mono (Kd.R_told (Kd.R_told (Kd.R_old (by (with_reducible repeat (first | apply Kd.R_alloc | apply Kd.R_drewN | apply Kd.R_drew)); exact HO_600001.out) hb) (Kd.R_base ho0)) (Kd.R_base ho1)) (fun _ h_ => h_.1)); have n3_ := Aside0.mk (Kd.R_mono (Kd.R_told (Kd.R_told (Kd.R_old (by (with_reducible repeat (first | apply Kd.R_alloc | apply Kd.R_drewN | apply Kd.R_drew)); exact HO_600002.out) hb) (Kd.R_base ho0)) (Kd.R_base ho1)) (fun _ h_ => h_.1)); have n4_ := Aside0.mk (Kd.R_lower (Kd.R_new' (Kd.R_new' (Kd.R_new' (Kd.R_new' ho0 (Kd.R_lt (by (with_reducible repeat (first | apply Kd.R_alloc | apply Kd.R_drewN | apply Kd.R_drew)); exact HO_6.out))) (Kd.R_lt (by (with_reducible repeat (first | apply Kd.R_alloc | apply Kd.R_drewN | apply Kd.R_drew)); exact HO_9.out))) (Kd.R_lt (by (with_reducible repeat (first | apply Kd.R_alloc | apply Kd.R_drewN | apply Kd.R_drew)); exact HO_600001.out))) (Kd.R_lt (by (with_reducible repeat (first | apply Kd.R_alloc | apply Kd.R_drewN | apply Kd.R_drew)); exact HO_600002.out))) (below_size (by repeat (first | (with_reducible first | exact HB.out | apply below_alloc | apply pw_below_drewN | apply below_drew1 | refine below_set ?_ GE579.out | refine below_set ?_ GE599.out) | exact HB.out)))); have n5_ := Aside0.mk (Kd.R_lower (Kd.R_new' (Kd.R_new' (Kd.R_new' (Kd.R_new' ho1 (Kd.R_lt (by (with_reducible repeat (first | apply Kd.R_alloc | apply Kd.R_drewN | apply Kd.R_drew)); exact HO_6.out))) (Kd.R_lt (by (with_reducible repeat (first | apply Kd.R_alloc | apply Kd.R_drewN | apply Kd.R_drew)); exact HO_9.out))) (Kd.R_lt (by (with_reducible repeat (first | apply Kd.R_alloc | apply Kd.R_drewN | apply Kd.R_drew)); exact HO_600001.out))) (Kd.R_lt (by (with_reducible repeat (first | apply Kd.R_alloc | apply Kd.R_drewN | apply Kd.R_drew)); exact HO_600002.out))) (below_size (by repeat (first | (with_reducible first | exact HB.out | apply below_alloc | apply pw_below_drewN | apply below_drew1 | refine below_set ?_ GE579.out | refine below_set ?_ GE599.out) | exact HB.out)))); have n6_ := Aside0.mk (blk_below (g := gb579) (o := .cells #[.string a0_0, .slice A0_1 l0_1.length c0_1, .slice A0_2 l0_2.length c0_2] 24 (0, 0)) (by (with_reducible repeat (first | refine blk_drewN ?_ _ | refine blk_drew ?_ | refine blk_alloc ?_ _)); exact BK579.out) hb); have n7_ := Aside0.mk (blk_below (g := gb599) (o := .cells #[.string t592, .slice Ao26 t614.length co26, .slice Ao27 t615.length co27] 27 (0, 0)) (by (with_reducible repeat (first | refine blk_drewN ?_ _ | refine blk_drew ?_ | refine blk_alloc ?_ _)); exact BK599.out) hb); have n8_ := Aside0.mk (below_step (by repeat (first | (with_reducible first | exact HB.out | apply below_alloc | apply pw_below_drewN | apply below_drew1 | refine below_set ?_ GE579.out | refine below_set ?_ GE599.out) | exact HB.out)) hb); clear HO_6; clear HO_9; clear HO_600001; clear HO_600002; clear BK579; clear BK599; clear HB; have HO_6 := n0_; have HO_9 := n1_; have HO_600001 := n2_; have HO_600002 := n3_; have HO623 := n4_; have HO626 := n5_; have BK579 := n6_; have BK599 := n7_; have HB := n8_; clear n0_ n1_ n2_ n3_ n4_ n5_ n6_ n7_ n8_; (try clear hb); (try clear hb2); (try clear hk); (try clear hi); (try clear ho0); (try clear ho1); obtain ⟨Ao69, co69, eo69⟩ := Kd.R_slice HO623.out; subst eo69; obtain ⟨Ao70, co70, eo70⟩ := Kd.R_slice HO626.out; subst eo70) | ((with_reducible refine gate_callee (f := 39) rfl ?_); refine goesL_ (some 81) rfl rfl Try.func39 (by kernel_rfl) rfl #[.agg #[.string t620, .slice Ao69 t621.length co69, .slice Ao70 t624.length co70], .int .i64 a1] rfl (by (try simp only [List.map_toArray, List.map_cons, List.map_nil]); first | done | rfl | (simp only [List.length_drop, List.length_take]; rfl)) ?_; (with_reducible refine (impl_BeatsWith.calls kj39 t620 _ _ t621 _ _ t624 a1 t627 t630 _ ?side1 ?side2 ?side3 ?side4 A62.out).mono ?_); (case side1 => repeat (first | exact (Kd.R_reads' HO623.out).2.2 | (with_reducible refine Kd.C_alloc ?_ _) | (with_reducible refine Kd.C_drewN ?_ _) | (with_reducible refine Kd.C_drew ?_))); (case side2 => exact (Kd.R_reads' HO623.out).2.1); (case side3 => repeat (first | exact (Kd.R_reads' HO626.out).2.2 | (with_reducible refine Kd.C_alloc ?_ _) | (with_reducible refine Kd.C_drewN ?_ _) | (with_reducible refine Kd.C_drew ?_))); (case side4 => exact (Kd.R_reads' HO626.out).2.1); rintro e w71 ⟨v628, rfl, ho0, hb⟩; refine ⟨_, rfl, ?_⟩; have n0_ := Aside0.mk (Kd.R_elder' (by (with_reducible repeat (first | apply Kd.R_alloc | apply Kd.R_drewN | apply Kd.R_drew)); exact HO_6.out) (Kd.R_base ho0) hb); have n1_ := Aside0.mk (Kd.R_elder' (by (with_reducible repeat (first | apply Kd.R_alloc | apply Kd.R_drewN | apply Kd.R_drew)); exact HO_9.out) (Kd.R_base ho0) hb); have n2_ := Aside0.mk (Kd.R_elder' (by (with_reducible repeat (first | apply Kd.R_alloc | apply Kd.R_drewN | apply Kd.R_drew)); exact HO_600001.out) (Kd.R_base ho0) hb); have n3_ := Aside0.mk (Kd.R_elder' (by (with_reducible repeat (first | apply Kd.R_alloc | apply Kd.R_drewN | apply Kd.R_drew)); exact HO_600002.out) (Kd.R_base ho0) hb); have n4_ := Aside0.mk (Kd.R_elder' (by (with_reducible repeat (first | apply Kd.R_alloc | apply Kd.R_drewN | apply Kd.R_drew)); exact HO623.out) (Kd.R_base ho0) hb); have n5_ := Aside0.mk (Kd.R_elder' (by (with_reducible repeat (first | apply Kd.R_alloc | apply Kd.R_drewN | apply Kd.R_drew)); exact HO626.out) (Kd.R_base ho0) hb); have n6_ := Aside0.mk (Kd.R_lower (Kd.R_new' (Kd.R_new' (Kd.R_new' (Kd.R_new' (Kd.R_new' (Kd.R_new' ho0 (Kd.R_lt (by (with_reducible repeat (first | apply Kd.R_alloc | apply Kd.R_drewN | apply Kd.R_drew)); exact HO_6.out))) (Kd.R_lt (by (with_reducible repeat (first | apply Kd.R_alloc | apply Kd.R_drewN | apply Kd.R_drew)); exact HO_9.out))) (Kd.R_lt (by (with_reducible repeat (first | apply Kd.R_alloc | apply Kd.R_drewN | apply Kd.R_drew)); exact HO_600001.out))) (Kd.R_lt (by (with_reducible repeat (first | apply Kd.R_alloc | apply Kd.R_drewN | apply Kd.R_drew)); exact HO_600002.out))) (Kd.R_lt (by (with_reducible repeat (first | apply Kd.R_alloc | apply Kd.R_drewN | apply Kd.R_drew)); exact HO623.out))) (Kd.R_lt (by (with_reducible repeat (first | apply Kd.R_alloc | apply Kd.R_drewN | apply Kd.R_drew)); exact HO626.out))) (below_size (by repeat (first | (with_reducible first | exact HB.out | apply below_alloc | apply pw_below_drewN | apply below_drew1 | refine below_set ?_ GE579.out | refine below_set ?_ GE599.out) | exact HB.out)))); have n7_ := Aside0.mk (blk_below (g := gb579) (o := .cells #[.string a0_0, .slice A0_1 l0_1.length c0_1, .slice A0_2 l0_2.length c0_2] 24 (0, 0)) (by (with_reducible repeat (first | refine blk_drewN ?_ _ | refine blk_drew ?_ | refine blk_alloc ?_ _)); exact BK579.out) hb); have n8_ := Aside0.mk (blk_below (g := gb599) (o := .cells #[.string t592, .slice Ao26 t614.length co26, .slice Ao27 t615.length co27] 27 (0, 0)) (by (with_reducible repeat (first | refine blk_drewN ?_ _ | refine blk_drew ?_ | refine blk_alloc ?_ _)); exact BK599.out) hb); have n9_ := Aside0.mk (below_step (by repeat (first | (with_reducible first | exact HB.out | apply below_alloc | apply pw_below_drewN | apply below_drew1 | refine below_set ?_ GE579.out | refine below_set ?_ GE599.out) | exact HB.out)) hb); clear HO_6; clear HO_9; clear HO_600001; clear HO_600002; clear HO623; clear HO626; clear BK579; clear BK599; clear HB; have HO_6 := n0_; have HO_9 := n1_; have HO_600001 := n2_; have HO_600002 := n3_; have HO623 := n4_; have HO626 := n5_; have HO629 := n6_; have BK579 := n7_; have BK599 := n8_; have HB := n9_; clear n0_ n1_ n2_ n3_ n4_ n5_ n6_ n7_ n8_ n9_; (try clear hb); (try clear hb2); (try clear hk); (try clear hi); (try clear ho0)))
                      (try simp only [Act.put, List.setIfInBounds_toArray, List.set_cons_zero, List.set_cons_succ])
                      go_cut [92] (fun v92 wc => ∃ (kq : Nat) (x92_62 : Bool), v92 = .bool x92_62 ∧ Aside0 (laws_FnExactBeatsWith.j2 kq t618 t617 x92_62 = some r) ∧ Aside0 (kq ≤ kj39) ∧ Aside0 (Kd.R (Kd.int .i64) 2 wc w.heap.size (fun k_ => some k_ ≠ ((.slice Ao26 t614.length co26) : Value).ownBlock ∧ some k_ ≠ ((.slice Ao27 t615.length co27) : Value).ownBlock) (.slice Ao64 t600.length co64) t618) ∧ Aside0 (Kd.R (Kd.int .i64) 2 wc w.heap.size (fun k_ => some k_ ≠ ((.slice Ao64 t600.length co64) : Value).ownBlock ∧ some k_ ≠ ((.slice Ao27 t615.length co27) : Value).ownBlock) (.slice Ao26 t614.length co26) t614) ∧ Aside0 (Kd.R (Kd.int .i64) 2 wc w.heap.size (fun k_ => some k_ ≠ ((.slice Ao64 t600.length co64) : Value).ownBlock ∧ some k_ ≠ ((.slice Ao26 t614.length co26) : Value).ownBlock) (.slice Ao27 t615.length co27) t615) ∧ Aside0 (wc.heap[gb579]? = some (.cells #[.string a0_0, (.slice A0_1 l0_1.length c0_1), (.slice A0_2 l0_2.length c0_2)] 24 (0, 0))) ∧ Aside0 (wc.heap[gb599]? = some (.cells #[.string t592, (.slice Ao26 t614.length co26), (.slice Ao27 t615.length co27)] 27 (0, 0))) ∧ Aside0 (Below w.heap.size w wc))
                      case first =>
                        have H := HC63.out
                        clear HC63
                        replace H := Option.bind_eq_some_iff.mp H
                        obtain ⟨t631, A720, H⟩ := H
                        replace H : (if t631 = true then (laws_FnExactBeatsWith.j2 kj39 t618 t617 (t630 != t591)) else (laws_FnExactBeatsWith.j2 kj39 t618 t617 true)) = some r := H
                        have A72 := Aside0.mk A720
                        clear A720
                        by_cases c73 : t631 = true
                        · subst c73
                          have H1 : (laws_FnExactBeatsWith.j2 kj39 t618 t617 (t630 != t591)) = some r := by rw [if_pos rfl] at H; exact H
                          clear H
                          have H := H1
                          clear H1
                          have H' := Aside0.mk H
                          clear H
                          obtain ⟨Ao74, co74, eo74⟩ := Kd.R_slice HO629.out
                          subst eo74
                          obtain ⟨Ao75, co75, eo75⟩ := Kd.R_slice HO_6.out
                          subst eo75
                          go_wp2_with (first | ((with_reducible refine gate_callee (f := 40) rfl ?_); refine goesL_ (some 86) rfl rfl Try.func40 (by kernel_rfl) rfl #[.slice Ao74 t627.length co74, .slice Ao75 t588.length co75] rfl (by (try simp only [List.map_toArray, List.map_cons, List.map_nil]); first | done | rfl | (simp only [List.length_drop, List.length_take]; rfl)) ?_; (with_reducible refine (laws_eqInt64S.calls kj39 _ _ t627 _ _ t588 true _ ?side1 ?side2 ?side3 ?side4 A72.out).mono ?_); (case side1 => repeat (first | exact (Kd.R_reads' HO629.out).2.2 | (with_reducible refine Kd.C_alloc ?_ _) | (with_reducible refine Kd.C_drewN ?_ _) | (with_reducible refine Kd.C_drew ?_))); (case side2 => exact (Kd.R_reads' HO629.out).2.1); (case side3 => repeat (first | exact (Kd.R_reads' HO_6.out).2.2 | (with_reducible refine Kd.C_alloc ?_ _) | (with_reducible refine Kd.C_drewN ?_ _) | (with_reducible refine Kd.C_drew ?_))); (case side4 => exact (Kd.R_reads' HO_6.out).2.1); rintro e w' ⟨rfl, ⟨nd, rfl⟩⟩; refine ⟨_, rfl, ?_⟩))
                          go_meet
                          case rel => exact ⟨_, ((t630 != t591)), (by first | rfl | (simp; done) | (simp [*]; done)), H', ⟨by have := HJ11.out; have := HJ39.out; first | omega | exact Nat.le_refl _⟩, ⟨by (try simp only [hl600001_39]); (try simp only [hl600002_39]); (with_reducible repeat (first | apply Kd.R_alloc | apply Kd.R_drewN | apply Kd.R_drew)); exact Kd.R_mono HO_9.out (fun _ hk => ⟨hk.1.1.1.2.1, hk.1.1.1.2.2⟩)⟩, ⟨by (try simp only [hl600001_39]); (try simp only [hl600002_39]); (with_reducible repeat (first | apply Kd.R_alloc | apply Kd.R_drewN | apply Kd.R_drew)); exact Kd.R_mono HO_600001.out (fun _ hk => ⟨hk.1.1.1.2.1, hk.1.1.1.2.2⟩)⟩, ⟨by (try simp only [hl600001_39]); (try simp only [hl600002_39]); (with_reducible repeat (first | apply Kd.R_alloc | apply Kd.R_drewN | apply Kd.R_drew)); exact Kd.R_mono HO_600002.out (fun _ hk => ⟨hk.1.1.1.2.1, hk.1.1.1.2.2⟩)⟩, ⟨by (try simp only [hl600001_39]); (try simp only [hl600002_39]); (with_reducible repeat (first | refine blk_drewN ?_ _ | refine blk_drew ?_ | refine blk_alloc ?_ _)); exact BK579.out⟩, ⟨by (try simp only [hl600001_39]); (try simp only [hl600002_39]); (with_reducible repeat (first | refine blk_drewN ?_ _ | refine blk_drew ?_ | refine blk_alloc ?_ _)); exact BK599.out⟩, ⟨by repeat (first | (with_reducible first | exact HB.out | apply below_alloc | apply pw_below_drewN | apply below_drew1 | refine below_set ?_ GE579.out | refine below_set ?_ GE599.out) | exact HB.out)⟩⟩
                        · replace c73 := Bool.eq_false_iff.mpr c73
                          subst c73
                          have H1 : (laws_FnExactBeatsWith.j2 kj39 t618 t617 true) = some r := by rw [if_neg (show ¬ (false = true) by decide)] at H; exact H
                          clear H
                          have H := H1
                          clear H1
                          have H' := Aside0.mk H
                          clear H
                          obtain ⟨Ao76, co76, eo76⟩ := Kd.R_slice HO629.out
                          subst eo76
                          obtain ⟨Ao77, co77, eo77⟩ := Kd.R_slice HO_6.out
                          subst eo77
                          go_wp2_with (first | ((with_reducible refine gate_callee (f := 40) rfl ?_); refine goesL_ (some 86) rfl rfl Try.func40 (by kernel_rfl) rfl #[.slice Ao76 t627.length co76, .slice Ao77 t588.length co77] rfl (by (try simp only [List.map_toArray, List.map_cons, List.map_nil]); first | done | rfl | (simp only [List.length_drop, List.length_take]; rfl)) ?_; (with_reducible refine (laws_eqInt64S.calls kj39 _ _ t627 _ _ t588 false _ ?side1 ?side2 ?side3 ?side4 A72.out).mono ?_); (case side1 => repeat (first | exact (Kd.R_reads' HO629.out).2.2 | (with_reducible refine Kd.C_alloc ?_ _) | (with_reducible refine Kd.C_drewN ?_ _) | (with_reducible refine Kd.C_drew ?_))); (case side2 => exact (Kd.R_reads' HO629.out).2.1); (case side3 => repeat (first | exact (Kd.R_reads' HO_6.out).2.2 | (with_reducible refine Kd.C_alloc ?_ _) | (with_reducible refine Kd.C_drewN ?_ _) | (with_reducible refine Kd.C_drew ?_))); (case side4 => exact (Kd.R_reads' HO_6.out).2.1); rintro e w' ⟨rfl, ⟨nd, rfl⟩⟩; refine ⟨_, rfl, ?_⟩))
                          go_meet
                          case rel => exact ⟨_, (true), (by first | rfl | (simp; done) | (simp [*]; done)), H', ⟨by have := HJ11.out; have := HJ39.out; first | omega | exact Nat.le_refl _⟩, ⟨by (try simp only [hl600001_39]); (try simp only [hl600002_39]); (with_reducible repeat (first | apply Kd.R_alloc | apply Kd.R_drewN | apply Kd.R_drew)); exact Kd.R_mono HO_9.out (fun _ hk => ⟨hk.1.1.1.2.1, hk.1.1.1.2.2⟩)⟩, ⟨by (try simp only [hl600001_39]); (try simp only [hl600002_39]); (with_reducible repeat (first | apply Kd.R_alloc | apply Kd.R_drewN | apply Kd.R_drew)); exact Kd.R_mono HO_600001.out (fun _ hk => ⟨hk.1.1.1.2.1, hk.1.1.1.2.2⟩)⟩, ⟨by (try simp only [hl600001_39]); (try simp only [hl600002_39]); (with_reducible repeat (first | apply Kd.R_alloc | apply Kd.R_drewN | apply Kd.R_drew)); exact Kd.R_mono HO_600002.out (fun _ hk => ⟨hk.1.1.1.2.1, hk.1.1.1.2.2⟩)⟩, ⟨by (try simp only [hl600001_39]); (try simp only [hl600002_39]); (with_reducible repeat (first | refine blk_drewN ?_ _ | refine blk_drew ?_ | refine blk_alloc ?_ _)); exact BK579.out⟩, ⟨by (try simp only [hl600001_39]); (try simp only [hl600002_39]); (with_reducible repeat (first | refine blk_drewN ?_ _ | refine blk_drew ?_ | refine blk_alloc ?_ _)); exact BK599.out⟩, ⟨by repeat (first | (with_reducible first | exact HB.out | apply below_alloc | apply pw_below_drewN | apply below_drew1 | refine below_set ?_ GE579.out | refine below_set ?_ GE599.out) | exact HB.out)⟩⟩
                      case rest =>
                        clear HC63
                        try clear c1
                        try clear c2
                        try clear p2
                        try clear c3
                        try clear c4
                        try clear c4b0
                        try clear c5
                        try clear c6
                        try clear c7
                        try clear c12
                        try clear c15
                        try clear c17
                        try clear c19
                        try clear c24
                        try clear c30
                        try clear c35
                        try clear c36
                        try clear c38
                        try clear c39
                        try clear c40
                        try clear c41
                        try clear c42
                        try clear c46
                        try clear c49
                        try clear c49b0
                        try clear c51
                        try clear c56
                        try clear c59
                        try clear c59b0
                        try clear c60
                        try clear c60b0
                        try clear c60b1
                        try clear c66
                        try clear c73
                        try clear hcz14_0
                        try clear hcz14_1
                        try clear hcz14_2
                        try clear hcz16_0
                        try clear hcz16_1
                        try clear hcz16_2
                        try clear hcz21_0
                        try clear hcz21_1
                        try clear hcz21_2
                        try clear hcz25_0
                        try clear hcz25_1
                        try clear hcz25_2
                        try clear hcz47_0
                        try clear hcz47_1
                        try clear hcz47_2
                        try clear hcz67_0
                        try clear hcz67_1
                        try clear hcz67_2
                        try clear hcz6_0
                        try clear hcz6_1
                        try clear hcz6_2
                        try clear hfz14_0
                        try clear hfz14_1
                        try clear hfz14_2
                        try clear hfz16_0
                        try clear hfz16_1
                        try clear hfz16_2
                        try clear hfz21_0
                        try clear hfz21_1
                        try clear hfz21_2
                        try clear hfz25_0
                        try clear hfz25_1
                        try clear hfz25_2
                        try clear hfz47_0
                        try clear hfz47_1
                        try clear hfz47_2
                        try clear hfz67_0
                        try clear hfz67_1
                        try clear hfz67_2
                        try clear hfz6_0
                        try clear hfz6_1
                        try clear hfz6_2
                        try clear p2
                        obtain ⟨kq, x92_62, rfl, HA, HJ62, HO_9, HO_600001, HO_600002, BK579, BK599, HB⟩ := hcut
                        have hl9_62 := (Kd.R_reads' HO_9.out).1
                        rw [hl9_62] at HO_9
                        (try simp only [hl9_62])
                        (try simp only [hl9_62] at BK579)
                        (try simp only [hl9_62] at BK599)
                        (try simp only [hl9_62] at HO_600001)
                        (try simp only [hl9_62] at HO_600002)
                        cases kq with
                        | zero => exact absurd HA.out (by simp [laws_FnExactBeatsWith.j2])
                        | succ kj62 =>
                          have H := HA.out
                          clear HA
                          simp only [laws_FnExactBeatsWith.j2] at H
                          by_cases c78 : x92_62 = true
                          · subst c78
                            have H1 : (some false) = some r := by rw [if_pos rfl] at H; exact H
                            clear H
                            have H := H1
                            clear H1
                            exact absurd ((Option.some.inj H).trans HT.out) (by decide)
                          · replace c78 := Bool.eq_false_iff.mpr c78
                            subst c78
                            have H1 : ((laws_heldInt64S.f kj62 t618 1).bind fun t632 => (if t632 < 0 then (some false) else (if t632 = t617 then (some true) else (some false)))) = some r := by rw [if_neg (show ¬ (false = true) by decide)] at H; exact H
                            clear H
                            have H := H1
                            clear H1
                            replace H := Option.bind_eq_some_iff.mp H
                            obtain ⟨t632, A790, H⟩ := H
                            replace H : (if t632 < 0 then (some false) else (if t632 = t617 then (some true) else (some false))) = some r := H
                            have A79 := Aside0.mk A790
                            clear A790
                            by_cases c80 : t632 < 0
                            · rw [if_pos c80] at H
                              have c80b0 : decide (t632 < 0) = true := decide_eq_true c80
                              clear c80
                              exact absurd ((Option.some.inj H).trans HT.out) (by decide)
                            · rw [if_neg c80] at H
                              have c80b0 : decide (t632 < 0) = false := decide_eq_false c80
                              clear c80
                              by_cases c81 : t632 = t617
                              · rw [if_pos c81] at H
                                have c81b0 : (t632 == t617) = true := beq_iff_eq.mpr c81
                                have c81b1 : (t632 != t617) = false := bne_eq_false_iff_eq.mpr c81
                                clear c81
                                obtain rfl := Option.some.inj H
                                go_wp2_with (first | ((with_reducible refine gate_callee (f := 42) rfl ?_); refine goesL_ (some 95) rfl rfl Try.func42 (by kernel_rfl) rfl #[.slice Ao64 t618.length co64, .int .i64 1] rfl (by (try simp only [List.map_toArray, List.map_cons, List.map_nil]); first | done | rfl | (simp only [List.length_drop, List.length_take]; rfl)) ?_; (with_reducible refine (laws_heldInt64S.calls kj62 _ _ t618 1 t632 _ ?side1 ?side2 A79.out).mono ?_); (case side1 => repeat (first | exact (Kd.R_reads' HO_9.out).2.2 | (with_reducible refine Kd.C_alloc ?_ _) | (with_reducible refine Kd.C_drewN ?_ _) | (with_reducible refine Kd.C_drew ?_))); (case side2 => exact (Kd.R_reads' HO_9.out).2.1); rintro e w' ⟨rfl, ⟨nd, rfl⟩⟩; refine ⟨_, rfl, ?_⟩))
                                go_ret
                                exact ⟨by first | rfl | (simp [errW_none, errW_some] <;> rfl) | (simp [*, errW_none, errW_some] <;> rfl), by repeat (first | (with_reducible first | exact HB.out | apply below_alloc | apply pw_below_drewN | apply below_drew1 | refine below_set ?_ GE579.out | refine below_set ?_ GE599.out) | exact HB.out)⟩
                              · rw [if_neg c81] at H
                                have c81b0 : (t632 == t617) = false := beq_eq_false_iff_ne.mpr c81
                                have c81b1 : (t632 != t617) = true := bne_iff_ne.mpr c81
                                exact absurd ((Option.some.inj H).trans HT.out) (by decide)
                    · rw [if_neg c60] at H
                      have c60b0 : (t619 == t617) = false := beq_eq_false_iff_ne.mpr c60
                      have c60b1 : (t619 != t617) = true := bne_iff_ne.mpr c60
                      exact absurd ((Option.some.inj H).trans HT.out) (by decide)
          · replace c38 := Bool.eq_false_iff.mpr c38
            subst c38
            have H1 : (some false) = some r := by rw [if_neg (show ¬ (false = true) by decide)] at H; exact H
            clear H
            have H := H1
            clear H1
            exact absurd ((Option.some.inj H).trans HT.out) (by decide)

/-- THE ONE PURE STATEMENT of laws_FnExactBeatsWith. -/
def laws_FnExactBeatsWith.Pure : Prop := ∀ (a0_0 : ByteArray) (l0_1 : List Int) (l0_2 : List Int) (a1 : Int), a0_0.size ≤ maxLen → (l0_1.length ≤ maxLen ∧ ∀ y0 ∈ l0_1, (Lit.int .i64 y0).wf = true) → (l0_2.length ≤ maxLen ∧ ∀ y0 ∈ l0_2, (Lit.int .i64 y0).wf = true) → (Lit.int .i64 a1).wf = true → ∃ k, laws_FnExactBeatsWith.f k a0_0 l0_1 l0_2 a1 = some true
theorem laws_FnExactBeatsWith.walk (P : laws_FnExactBeatsWith.Pure) (a0_0 : ByteArray) (A0_1 : Option Addr) (c0_1 : Nat) (l0_1 : List Int) (A0_2 : Option Addr) (c0_2 : Nat) (l0_2 : List Int) (a1 : Int) (w : World) (hr0_1 : Kd.C (Kd.int .i64) w A0_1 l0_1.length l0_1) (hc0_1 : l0_1.length ≤ c0_1) (hr0_2 : Kd.C (Kd.int .i64) w A0_2 l0_2.length l0_2) (hc0_2 : l0_2.length ≤ c0_2) (w0_0 : a0_0.size ≤ maxLen) (w0_1 : (l0_1.length ≤ maxLen ∧ ∀ y0 ∈ l0_1, (Lit.int .i64 y0).wf = true)) (w0_2 : (l0_2.length ≤ maxLen ∧ ∀ y0 ∈ l0_2, (Lit.int .i64 y0).wf = true)) (w1 : (Lit.int .i64 a1).wf = true) :
    Calls Try.prog 12 #[.agg #[.string a0_0, .slice A0_1 l0_1.length c0_1, .slice A0_2 l0_2.length c0_2], .int .i64 a1] w fun e w' => e = .returned (.bool true) ∧ Below w.heap.size w w' := by
  obtain ⟨k, h⟩ := P a0_0 l0_1 l0_2 a1 w0_0 w0_1 w0_2 w1
  refine (laws_FnExactBeatsWith.calls k a0_0 _ _ l0_1 _ _ l0_2 a1 true w hr0_1 hc0_1 hr0_2 hc0_2 rfl h).mono ?_
  rintro e w' ⟨rfl, hd⟩
  exact ⟨rfl, hd⟩

end Go.Proofs.Ythpcepojkhjlfaa.P
end

section
namespace Go.Proofs.Ythpcepojkhjlfaa.Pure
open Go.RowKit Go.Proofs.Ythpcepojkhjlfaa.P Go.Proofs.YthpcepojkhjlfaaW.PrintWords Go.Proofs.YthpcepojkhjlfaaW.PrintLast Go.Proofs.YthpcepojkhjlfaaW.PrintMore
set_option linter.unusedVariables false
set_option linter.unusedSimpArgs false

theorem bw_loop (s : ByteArray) (x y : List Int) (m : Int) (hv : talaB s x y = true) : ∀ (d : Nat) (b : Int) (acc : List Int), (sumI x - b).toNat = d → 0 ≤ b → b ≤ sumI x → acc.length ≤ b →
    ∃ r, r.length ≤ sumI x ∧ Ev (fun k => spec_BeatsWith.l0 k m acc (sumI x) b s x y) (r, 0) ∧ Ev (fun k => impl_BeatsWith.l0 k m acc (sumI x) b s x y) (r, 0) := by
  have hs := talaB_sum hv
  intro d
  induction d with
  | zero =>
    intro b acc hd h0 h1 hl
    refine ⟨acc, by omega, ?_, ?_⟩
    · refine Ev.succ ?_
      simp only [spec_BeatsWith.l0]
      exact Ev.ite_neg (by omega) (Ev.now _)
    · refine Ev.succ ?_
      simp only [impl_BeatsWith.l0]
      exact Ev.ite_neg (by omega) (Ev.now _)
  | succ d ih =>
    intro b acc hd h0 h1 hl
    obtain ⟨e1, e2⟩ := markM_ev hv h0 (show b < sumI x by omega)
    by_cases hm : markM x y b = m
    · obtain ⟨r, r1, r2, r3⟩ := ih (b + 1) (acc ++ [b]) (by omega) (by omega) (by omega) (by simp; omega)
      refine ⟨r, r1, ?_, ?_⟩
      · refine Ev.succ ?_
        simp only [spec_BeatsWith.l0]
        refine Ev.ite_pos (by omega) (Ev.bind e2 (Ev.ite_pos hm (Ev.ite_pos (by omega) ?_)))
        rw [w64 (x := b + 1) (by omega) (by omega)]
        exact r2
      · refine Ev.succ ?_
        simp only [impl_BeatsWith.l0]
        refine Ev.ite_pos (by omega) (Ev.bind e1 (Ev.ite_pos hm (Ev.ite_pos (by omega) ?_)))
        rw [w64 (x := b + 1) (by omega) (by omega)]
        exact r3
    · obtain ⟨r, r1, r2, r3⟩ := ih (b + 1) acc (by omega) (by omega) (by omega) (by omega)
      refine ⟨r, r1, ?_, ?_⟩
      · refine Ev.succ ?_
        simp only [spec_BeatsWith.l0]
        refine Ev.ite_pos (by omega) (Ev.bind e2 (Ev.ite_neg hm ?_))
        rw [w64 (x := b + 1) (by omega) (by omega)]
        exact r2
      · refine Ev.succ ?_
        simp only [impl_BeatsWith.l0]
        refine Ev.ite_pos (by omega) (Ev.bind e1 (Ev.ite_neg hm ?_))
        rw [w64 (x := b + 1) (by omega) (by omega)]
        exact r3
theorem bothBeatsWith (s : ByteArray) (x y : List Int) (m : Int) : ∃ r c, r.length ≤ 64 ∧ Ev (fun k => spec_BeatsWith.f k s x y m) (r, c) ∧ Ev (fun k => impl_BeatsWith.f k s x y m) (r, c) := by
  unfold spec_BeatsWith.f impl_BeatsWith.f
  cases hv : talaB s x y with
  | false => exact ⟨[], 1, by simp, Ev.bind (spec_l17Ok_ev s x y) (Ev.ite_neg (by rw [hv]; decide) (Ev.now _)), Ev.bind (impl_ValidTala_ev s x y) (Ev.ite_neg (by rw [hv]; decide) (Ev.now _))⟩
  | true =>
    have hs := talaB_sum hv
    cases hm : (decide (0 ≤ m) && decide (m ≤ 3)) with
    | false => exact ⟨[], 2, by simp, Ev.bind (spec_l17Ok_ev s x y) (Ev.ite_pos hv (Ev.bindc (spec_l00In_eq _ _ _) (Ev.ite_neg (by rw [hm]; decide) (Ev.now _)))), Ev.bind (impl_ValidTala_ev s x y) (Ev.ite_pos hv (Ev.bindc (impl_within_eq _ _ _) (Ev.ite_neg (by rw [hm]; decide) (Ev.now _))))⟩
    | true =>
      obtain ⟨r, r1, r2, r3⟩ := bw_loop s x y m hv (sumI x).toNat 0 [] (by omega) (by omega) (by omega) (by simp)
      exact ⟨r, 0, by omega, Ev.bind (spec_l17Ok_ev s x y) (Ev.ite_pos hv (Ev.bindc (spec_l00In_eq _ _ _) (Ev.ite_pos hm (Ev.bind (spec_l17Beats_ev hv) r2)))), Ev.bind (impl_ValidTala_ev s x y) (Ev.ite_pos hv (Ev.bindc (impl_within_eq _ _ _) (Ev.ite_pos hm (Ev.bind (impl_beats_ev hv) r3))))⟩
theorem FnExactBeatsWith : laws_FnExactBeatsWith.Pure := by
  intro s x y m hs ⟨hx, _⟩ ⟨hy, _⟩ _
  refine Ev.out (r := true) ?_
  unfold laws_FnExactBeatsWith.f
  obtain ⟨t, ht, hc⟩ := laws_szTala_ge s x y 1048576 (by omega) (by omega) hs hx hy
  refine Ev.bindc ht ?_
  rcases hc with hc | ⟨h0, h1, _, lx, ly⟩
  · exact Ev.ite_pos hc (Ev.now _)
  refine Ev.ite_neg (by omega) ?_
  have e1 := laws_toTala_ev s x y lx ly
  obtain ⟨r, c, hl, rs, ri⟩ := bothBeatsWith s x y m
  refine Ev.bind e1 ?_
  refine Ev.bind rs ?_
  refine Ev.bind e1 ?_
  refine Ev.bind ri ?_
  refine Ev.bind (eqInt64S_self r (by omega)) ?_
  refine Ev.ite_pos rfl ?_
  refine Ev.succ ?_
  simp only [laws_FnExactBeatsWith.j0]
  refine Ev.ite_neg (by simp) ?_
  refine Ev.bind e1 ?_
  refine Ev.bind (laws_eqTala_self s x y lx ly) ?_
  refine Ev.ite_pos rfl ?_
  refine Ev.bind (laws_markTala_ev s x y lx ly) ?_
  refine Ev.ite_neg (by simp; omega) ?_
  refine Ev.bind (eqInt64S_self r (by omega)) ?_
  refine Ev.ite_pos rfl ?_
  refine Ev.succ ?_
  simp only [laws_FnExactBeatsWith.j1]
  refine Ev.ite_neg (by simp) ?_
  refine Ev.bind (markInt64S_ev r 1 (by omega) (by omega) (by omega)) ?_
  refine Ev.bind (heldInt64S_ev r.length 1 (by omega) (by omega) (by omega)) ?_
  refine Ev.ite_neg (by omega) ?_
  refine Ev.ite_pos rfl ?_
  refine Ev.bind e1 ?_
  refine Ev.bind ri ?_
  refine Ev.bind (eqInt64S_self r (by omega)) ?_
  refine Ev.ite_pos rfl ?_
  refine Ev.succ ?_
  simp only [laws_FnExactBeatsWith.j2]
  refine Ev.ite_neg (by simp) ?_
  refine Ev.bind (heldInt64S_ev r.length 1 (by omega) (by omega) (by omega)) ?_
  refine Ev.ite_neg (by omega) ?_
  exact Ev.ite_pos rfl (Ev.now _)

end Go.Proofs.Ythpcepojkhjlfaa.Pure
end
