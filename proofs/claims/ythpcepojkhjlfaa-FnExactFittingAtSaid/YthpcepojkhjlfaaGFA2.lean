/- Texts of this seat, merged: QImplValiditems, QPreDn, QImplFittingat, QLawsEqint64S, QLawsEqitem. -/
import Derived.Test.YthpcepojkhjlfaaGFA1
section
namespace Go.Proofs.Ythpcepojkhjlfaa.P
open Go.RowKit Go.Proofs.YthpcepojkhjlfaaW.PrintWords Go.Proofs.YthpcepojkhjlfaaW.PrintLast Go.Proofs.YthpcepojkhjlfaaW.PrintMore
attribute [local go_sem] max2_int min2_int max_two min_two max_three min_three max_four min_four   -- for this text's walks alone
set_option linter.unusedVariables false
set_option linter.unusedSimpArgs false

/-! ### impl_ValidItems: function 87 -/
attribute [local go_sem] str_leq str_gtr str_geq
def impl_ValidItems.l0 : Nat → List (S95) → List (S95) → Int → Int → Option (Bool)
  | 0, _, _, _, _ => none
  | k + 1, x0, x8, x9, x10 => if x10 < x9 then (if 0 ≤ x10 then (if x10 < (x8.length : Int) then ((impl_ValidItem.f k ((rd_T95 x8 x10).f0) ((rd_T95 x8 x10).f1) ((rd_T95 x8 x10).f2) ((rd_T95 x8 x10).f3) ((rd_T95 x8 x10).f4) ((rd_T95 x8 x10).f5)).bind fun t814 => (if t814 = true then (if x10 > 0 then (if 0 ≤ (wrap64 (x10 - 1)) then (if (wrap64 (x10 - 1)) < (x0.length : Int) then (if ((Op.bytesLess (((rd_T95 x0 (wrap64 (x10 - 1))).f0).toList) (((rd_T95 x8 x10).f0).toList)) = true) then (impl_ValidItems.l0 k x0 x8 x9 (wrap64 (x10 + 1))) else (some false)) else (none)) else (none)) else (impl_ValidItems.l0 k x0 x8 x9 (wrap64 (x10 + 1)))) else (some false))) else (none)) else (none)) else (some true)
def impl_ValidItems.f (k : Nat) (l0 : List (S95)) : Option (Bool) := if (l0.length : Int) > 12 then (some false) else (impl_ValidItems.l0 k l0 l0 (l0.length : Int) 0)
theorem impl_ValidItems.mono_l : ∀ k, (∀ y0 y1 y2 y3, LeO (impl_ValidItems.l0 k y0 y1 y2 y3) (impl_ValidItems.l0 (k + 1) y0 y1 y2 y3))
  | 0 => fun _ _ _ _ r h => by simp [impl_ValidItems.l0] at h
  | k + 1 => by
    have ih0 := impl_ValidItems.mono_l k
    · intro y0 y1 y2 y3
      unfold impl_ValidItems.l0
      repeat' first
      | (with_reducible exact ih0 _ _ _ _)
      | (with_reducible exact impl_ValidItem.mono _ _ _ _ _ _ _)
      | (with_reducible exact LeO.refl _)
      | (with_reducible exact LeO.none _)
      | (with_reducible refine LeO.ite ?_ ?_)
      | (with_reducible refine LeO.bind ?_ (fun _ => ?_))
      | exact ih0 _ _ _ _
      | exact impl_ValidItem.mono _ _ _ _ _ _ _
      | exact LeO.none _
      | refine LeO.ite ?_ ?_
      | refine LeO.bind ?_ (fun _ => ?_)
theorem impl_ValidItems.mono : ∀ a0 k, LeO (impl_ValidItems.f k a0) (impl_ValidItems.f (k + 1) a0) := by
  intro a0 k
  have ih0 := impl_ValidItems.mono_l k
  unfold impl_ValidItems.f
  repeat' first
      | (with_reducible exact ih0 _ _ _ _)
      | (with_reducible exact impl_ValidItem.mono _ _ _ _ _ _ _)
      | (with_reducible exact LeO.refl _)
      | (with_reducible exact LeO.none _)
      | (with_reducible refine LeO.ite ?_ ?_)
      | (with_reducible refine LeO.bind ?_ (fun _ => ?_))
      | exact ih0 _ _ _ _
      | exact impl_ValidItem.mono _ _ _ _ _ _ _
      | exact LeO.none _
      | refine LeO.ite ?_ ?_
      | refine LeO.bind ?_ (fun _ => ?_)
def impl_ValidItems.T6 : Bool × List (List Nat × List Nat) := (true, [([], []), ([0], [0]), ([1], [1]), ([2, 1], [2]), ([3], [3]), ([4, 3], [3, 4]), ([5, 3, 3], [3, 5]), ([6], [6]), ([7, 6], [6, 7]), ([6], [6]), ([6], [6]), ([10, 6], [6, 10]), ([9, 11, 6], [6, 9, 11]), ([12, 6], [6, 12]), ([13, 6], [6, 13]), ([8, 14, 6], [6, 8, 14]), ([6, 15, 3], [3, 6, 15]), ([3, 16], [3, 16])])
def impl_ValidItems.B6 : List Nat := [0, 1, 3, 7, 15, 31, 63, 127, 255, 127, 127, 1151, 3711, 7807, 15999, 32767, 65535, 131071]
theorem impl_ValidItems.tab6 : rtab .any (opsOf Try.f87 6) = impl_ValidItems.T6 := by kernel_rfl
theorem impl_ValidItems.bits6 : waitsOk impl_ValidItems.T6.2 impl_ValidItems.B6 = true := by kernel_rfl
set_option maxHeartbeats 8000000 in
set_option maxRecDepth 100000 in
theorem impl_ValidItems.calls (k : Nat) (A0 : Option Addr) (c0 : Nat) (l0 : List (S95)) (r : Bool) (w : World) (hr0 : Kd.C k95 w A0 l0.length l0) (hc0 : l0.length ≤ c0) (h : impl_ValidItems.f k l0 = some r) :
    Calls Try.prog 87 #[.slice A0 l0.length c0] w fun e w' => e = .returned (.bool r) ∧ Below w.heap.size w w' := by
  have hu95 := Try.underlying95
  have HR0 := Aside0.mk hr0
  have HC0 := Aside0.mk hc0
  clear hr0 hc0
  have HB := Aside0.mk (Below.refl w.heap.size w)
  have H : (if (l0.length : Int) > 12 then (some false) else (impl_ValidItems.l0 k l0 l0 (l0.length : Int) 0)) = some r := h
  clear h
  by_cases c2 : (l0.length : Int) > 12
  · rw [if_pos c2] at H
    have c2b0 : decide (12 < (l0.length : Int)) = true := decide_eq_true c2
    have c2b1 : decide (12 < l0.length) = true := decide_eq_true (by omega)
    clear c2
    obtain rfl := Option.some.inj H
    go_enter Try.func87, Try.ntmps87
    go_wp2
    go_ret
    exact ⟨by first | rfl | (simp [errW_none, errW_some] <;> rfl) | (simp [*, errW_none, errW_some] <;> rfl), by repeat (first | (with_reducible first | exact HB.out | apply below_alloc | apply pw_below_drewN | apply below_drew1) | exact HB.out)⟩
  · rw [if_neg c2] at H
    have c2b0 : decide (12 < (l0.length : Int)) = false := decide_eq_false c2
    have c2b1 : decide (12 < l0.length) = false := decide_eq_false (by omega)
    clear c2
    have H' := Aside0.mk H
    clear H
    go_enter Try.func87, Try.ntmps87
    go_wp2
    go_loopg [10] k (fun kq v10 w' => ∃ (x10_1 : Int), v10 = .int .i64 x10_1 ∧ Aside0 (impl_ValidItems.l0 kq l0 l0 (l0.length : Int) x10_1 = some r) ∧ Aside0 (kq ≤ k) ∧ Aside0 (Below w.heap.size w w'))
    case atStart => exact ⟨(0), (by first | rfl | (simp; done) | (simp [*]; done)), H', ⟨Nat.le_refl _⟩, ⟨by repeat (first | (with_reducible first | exact HB.out | apply below_alloc | apply pw_below_drewN | apply below_drew1) | exact HB.out)⟩⟩
    case round =>
      clear H'
      try clear c2
      try clear c2b0
      try clear c2b1
      try clear p2
      obtain ⟨x10_1, rfl, HA, HK1, HB⟩ := hrel
      cases gk with
      | zero => exact absurd HA.out (by simp [impl_ValidItems.l0])
      | succ k1 =>
        have H := HA.out
        clear HA
        simp only [impl_ValidItems.l0] at H
        by_cases c3 : x10_1 < (l0.length : Int)
        · rw [if_pos c3] at H
          have c3b0 : decide (x10_1 < (l0.length : Int)) = true := decide_eq_true c3
          clear c3
          by_cases c4 : 0 ≤ x10_1
          · rw [if_pos c4] at H
            have c4b0 : decide (0 ≤ x10_1) = true := decide_eq_true c4
            clear c4
            by_cases c5 : x10_1 < (l0.length : Int)
            · rw [if_pos c5] at H
              have c5b0 : decide (x10_1 < (l0.length : Int)) = true := decide_eq_true c5
              clear c5
              replace H := Option.bind_eq_some_iff.mp H
              obtain ⟨t814, A60, H⟩ := H
              replace H : (if t814 = true then (if x10_1 > 0 then (if 0 ≤ (wrap64 (x10_1 - 1)) then (if (wrap64 (x10_1 - 1)) < (l0.length : Int) then (if ((Op.bytesLess (((rd_T95 l0 (wrap64 (x10_1 - 1))).f0).toList) (((rd_T95 l0 x10_1).f0).toList)) = true) then (impl_ValidItems.l0 k1 l0 l0 (l0.length : Int) (wrap64 (x10_1 + 1))) else (some false)) else (none)) else (none)) else (impl_ValidItems.l0 k1 l0 l0 (l0.length : Int) (wrap64 (x10_1 + 1)))) else (some false)) = some r := H
              have A6 := Aside0.mk A60
              clear A60
              by_cases c7 : t814 = true
              · subst c7
                have H1 : (if x10_1 > 0 then (if 0 ≤ (wrap64 (x10_1 - 1)) then (if (wrap64 (x10_1 - 1)) < (l0.length : Int) then (if ((Op.bytesLess (((rd_T95 l0 (wrap64 (x10_1 - 1))).f0).toList) (((rd_T95 l0 x10_1).f0).toList)) = true) then (impl_ValidItems.l0 k1 l0 l0 (l0.length : Int) (wrap64 (x10_1 + 1))) else (some false)) else (none)) else (none)) else (impl_ValidItems.l0 k1 l0 l0 (l0.length : Int) (wrap64 (x10_1 + 1)))) = some r := by rw [if_pos rfl] at H; exact H
                clear H
                have H := H1
                clear H1
                by_cases c8 : x10_1 > 0
                · rw [if_pos c8] at H
                  have c8b0 : decide (0 < x10_1) = true := decide_eq_true c8
                  clear c8
                  obtain ⟨ji9, hji9⟩ : ∃ j_ : Int, (wrap64 (x10_1 - 1)) = j_ := ⟨_, rfl⟩
                  replace H : (if 0 ≤ (ji9) then (if (ji9) < (l0.length : Int) then (if ((Op.bytesLess (((rd_T95 l0 (ji9)).f0).toList) (((rd_T95 l0 x10_1).f0).toList)) = true) then (impl_ValidItems.l0 k1 l0 l0 (l0.length : Int) (wrap64 (x10_1 + 1))) else (some false)) else (none)) else (none)) = some r := by first | (rw [hji9] at H; exact H) | (simp only [hji9] at H ⊢; exact H)
                  (try rw [hji9] at A6)
                  have hji9w : (IntKind.i64.wrap (x10_1 - 1)) = ji9 := (i64_w _).trans hji9
                  by_cases c10 : 0 ≤ (ji9)
                  · rw [if_pos c10] at H
                    have c10b0 : decide (0 ≤ (ji9)) = true := decide_eq_true c10
                    clear c10
                    by_cases c11 : (ji9) < (l0.length : Int)
                    · rw [if_pos c11] at H
                      have c11b0 : decide ((ji9) < (l0.length : Int)) = true := decide_eq_true c11
                      clear c11
                      by_cases c12 : ((Op.bytesLess (((rd_T95 l0 (ji9)).f0).toList) (((rd_T95 l0 x10_1).f0).toList)) = true)
                      · rw [if_pos c12] at H
                        have c12b0 : (Op.bytesLess (((rd_T95 l0 (ji9)).f0).toList) (((rd_T95 l0 x10_1).f0).toList)) = true := c12
                        clear c12
                        have H' := Aside0.mk H
                        clear H
                        have p812 : 0 ≤ (x10_1 : Int) := of_decide_eq_true (by first | (with_reducible assumption) | assumption)
                        have q812 : x10_1 < (l0.length : Int) := of_decide_eq_true (by first | (with_reducible assumption) | assumption)
                        obtain ⟨ad812, e812, hx812_0, hx812_1, hx812_2, hx812_3, hx812_4, hx812_5⟩ := at_T95 HR0.out x10_1 p812 q812
                        cases e812
                        replace hx812_0 := (HB.out.cell (World.block_lt_of_cell? w _ hx812_0)).trans hx812_0
                        replace hx812_1 := (HB.out.cell (World.block_lt_of_cell? w _ hx812_1)).trans hx812_1
                        replace hx812_2 := (HB.out.cell (World.block_lt_of_cell? w _ hx812_2)).trans hx812_2
                        replace hx812_3 := (HB.out.cell (World.block_lt_of_cell? w _ hx812_3)).trans hx812_3
                        replace hx812_4 := (HB.out.cell (World.block_lt_of_cell? w _ hx812_4)).trans hx812_4
                        replace hx812_5 := (HB.out.cell (World.block_lt_of_cell? w _ hx812_5)).trans hx812_5
                        replace p812 := eq_true p812
                        replace q812 := eq_true q812
                        try go_wp2_with (first | ((with_reducible refine gate_dst (N := 4) rfl ?_); refine box_event ?hg (N := 4) ?hd (cs := #[.string (⟨#[]⟩ : ByteArray), .int .i64 0, .int .i64 0, .int .i64 0, .int .i64 0, .int .i64 0]) (t := 95) ?hr ?_; (case hd => rfl); (case hg => rfl); (case hr => first | (go_simp; done) | (go_simp; rfl)); intro gb813 hg w13 hbox hb; have n0_ := Aside0.mk (below_step (by repeat (first | (with_reducible first | exact HB.out | apply below_alloc | apply pw_below_drewN | apply below_drew1) | exact HB.out)) hb); have n1_ := Aside0.mk (hbox); have n2_ := Aside0.mk ((by rw [hg]; exact (below_size (by repeat (first | (with_reducible first | exact HB.out | apply below_alloc | apply pw_below_drewN | apply below_drew1) | exact HB.out))) : w.heap.size ≤ gb813)); have n3_ := Aside0.mk ((by rw [hg]; exact (below_size (by repeat (first | (with_reducible first | exact HB.out | apply below_alloc | apply pw_below_drewN | apply below_drew1) | exact HB.out))) : w.heap.size ≤ gb813)); clear HB; have HB := n0_; have BK813 := n1_; have GW813 := n2_; have GE813 := n3_; clear n0_ n1_ n2_ n3_; clear hb hbox hg; have hcz14_0 : w13.cell? ⟨gb813, 0, none⟩ = some (.string (⟨#[]⟩ : ByteArray)) := (blk_cell BK813.out 0).trans rfl; have hcz14_1 : w13.cell? ⟨gb813, 1, none⟩ = some (.int .i64 0) := (blk_cell BK813.out 1).trans rfl; have hcz14_2 : w13.cell? ⟨gb813, 2, none⟩ = some (.int .i64 0) := (blk_cell BK813.out 2).trans rfl; have hcz14_3 : w13.cell? ⟨gb813, 3, none⟩ = some (.int .i64 0) := (blk_cell BK813.out 3).trans rfl; have hcz14_4 : w13.cell? ⟨gb813, 4, none⟩ = some (.int .i64 0) := (blk_cell BK813.out 4).trans rfl; have hcz14_5 : w13.cell? ⟨gb813, 5, none⟩ = some (.int .i64 0) := (blk_cell BK813.out 5).trans rfl; have hfz14_0 := blk_frozen BK813.out 0; have hfz14_1 := blk_frozen BK813.out 1; have hfz14_2 := blk_frozen BK813.out 2; have hfz14_3 := blk_frozen BK813.out 3; have hfz14_4 := blk_frozen BK813.out 4; have hfz14_5 := blk_frozen BK813.out 5))
                        have n0_ : Aside0 (((((((w13.setCell ⟨gb813, 0, none⟩ (.string ((rd_T95 l0 x10_1).f0))).setCell ⟨gb813, 1, none⟩ (.int .i64 ((rd_T95 l0 x10_1).f1))).setCell ⟨gb813, 2, none⟩ (.int .i64 ((rd_T95 l0 x10_1).f2))).setCell ⟨gb813, 3, none⟩ (.int .i64 ((rd_T95 l0 x10_1).f3))).setCell ⟨gb813, 4, none⟩ (.int .i64 ((rd_T95 l0 x10_1).f4))).setCell ⟨gb813, 5, none⟩ (.int .i64 ((rd_T95 l0 x10_1).f5))).heap[gb813]? = some (.cells #[.string ((rd_T95 l0 x10_1).f0), .int .i64 ((rd_T95 l0 x10_1).f1), .int .i64 ((rd_T95 l0 x10_1).f2), .int .i64 ((rd_T95 l0 x10_1).f3), .int .i64 ((rd_T95 l0 x10_1).f4), .int .i64 ((rd_T95 l0 x10_1).f5)] 95 (0, 0))) := ⟨by (with_reducible repeat (first | refine blk_drewN ?_ _ | refine blk_drew ?_ | refine blk_alloc ?_ _)); refine blk_put (cs := #[.string ((rd_T95 l0 x10_1).f0), .int .i64 ((rd_T95 l0 x10_1).f1), .int .i64 ((rd_T95 l0 x10_1).f2), .int .i64 ((rd_T95 l0 x10_1).f3), .int .i64 ((rd_T95 l0 x10_1).f4), .int .i64 0]) ?_ 5 _ rfl; (with_reducible repeat (first | refine blk_drewN ?_ _ | refine blk_drew ?_ | refine blk_alloc ?_ _)); refine blk_put (cs := #[.string ((rd_T95 l0 x10_1).f0), .int .i64 ((rd_T95 l0 x10_1).f1), .int .i64 ((rd_T95 l0 x10_1).f2), .int .i64 ((rd_T95 l0 x10_1).f3), .int .i64 0, .int .i64 0]) ?_ 4 _ rfl; (with_reducible repeat (first | refine blk_drewN ?_ _ | refine blk_drew ?_ | refine blk_alloc ?_ _)); refine blk_put (cs := #[.string ((rd_T95 l0 x10_1).f0), .int .i64 ((rd_T95 l0 x10_1).f1), .int .i64 ((rd_T95 l0 x10_1).f2), .int .i64 0, .int .i64 0, .int .i64 0]) ?_ 3 _ rfl; (with_reducible repeat (first | refine blk_drewN ?_ _ | refine blk_drew ?_ | refine blk_alloc ?_ _)); refine blk_put (cs := #[.string ((rd_T95 l0 x10_1).f0), .int .i64 ((rd_T95 l0 x10_1).f1), .int .i64 0, .int .i64 0, .int .i64 0, .int .i64 0]) ?_ 2 _ rfl; (with_reducible repeat (first | refine blk_drewN ?_ _ | refine blk_drew ?_ | refine blk_alloc ?_ _)); refine blk_put (cs := #[.string ((rd_T95 l0 x10_1).f0), .int .i64 0, .int .i64 0, .int .i64 0, .int .i64 0, .int .i64 0]) ?_ 1 _ rfl; (with_reducible repeat (first | refine blk_drewN ?_ _ | refine blk_drew ?_ | refine blk_alloc ?_ _)); refine blk_put (cs := #[.string (⟨#[]⟩ : ByteArray), .int .i64 0, .int .i64 0, .int .i64 0, .int .i64 0, .int .i64 0]) ?_ 0 _ rfl; (with_reducible repeat (first | refine blk_drewN ?_ _ | refine blk_drew ?_ | refine blk_alloc ?_ _)); exact BK813.out⟩
                        have n1_ : Aside0 (Below w.heap.size w ((((((w13.setCell ⟨gb813, 0, none⟩ (.string ((rd_T95 l0 x10_1).f0))).setCell ⟨gb813, 1, none⟩ (.int .i64 ((rd_T95 l0 x10_1).f1))).setCell ⟨gb813, 2, none⟩ (.int .i64 ((rd_T95 l0 x10_1).f2))).setCell ⟨gb813, 3, none⟩ (.int .i64 ((rd_T95 l0 x10_1).f3))).setCell ⟨gb813, 4, none⟩ (.int .i64 ((rd_T95 l0 x10_1).f4))).setCell ⟨gb813, 5, none⟩ (.int .i64 ((rd_T95 l0 x10_1).f5)))) := ⟨by repeat (first | (with_reducible first | exact HB.out | apply below_alloc | apply pw_below_drewN | apply below_drew1 | refine below_set ?_ GE813.out) | exact HB.out)⟩
                        (try clear BK813)
                        (try clear HB)
                        generalize ((((((w13.setCell ⟨gb813, 0, none⟩ (.string ((rd_T95 l0 x10_1).f0))).setCell ⟨gb813, 1, none⟩ (.int .i64 ((rd_T95 l0 x10_1).f1))).setCell ⟨gb813, 2, none⟩ (.int .i64 ((rd_T95 l0 x10_1).f2))).setCell ⟨gb813, 3, none⟩ (.int .i64 ((rd_T95 l0 x10_1).f3))).setCell ⟨gb813, 4, none⟩ (.int .i64 ((rd_T95 l0 x10_1).f4))).setCell ⟨gb813, 5, none⟩ (.int .i64 ((rd_T95 l0 x10_1).f5))) = w15 at n0_ n1_ ⊢
                        have BK813 := n0_
                        have HB := n1_
                        clear n0_ n1_
                        have n0_ := Aside0.mk (blk_drew BK813.out)
                        have n1_ := Aside0.mk (below_drew1 HB.out)
                        clear BK813
                        clear HB
                        have BK813 := n0_
                        have HB := n1_
                        clear n0_ n1_
                        have p815 : 0 ≤ ((ji9) : Int) := of_decide_eq_true (by first | (with_reducible assumption) | assumption)
                        have q815 : (ji9) < (l0.length : Int) := of_decide_eq_true (by first | (with_reducible assumption) | assumption)
                        obtain ⟨ad815, e815, hx815_0, hx815_1, hx815_2, hx815_3, hx815_4, hx815_5⟩ := at_T95 HR0.out (ji9) p815 q815
                        have hw815_5 := hx815_5
                        have hw815_4 := hx815_4
                        have hw815_3 := hx815_3
                        have hw815_2 := hx815_2
                        have hw815_1 := hx815_1
                        have hw815_0 := hx815_0
                        obtain rfl : ad812 = ad815 := (by injection e815)
                        replace hx815_0 := (HB.out.cell (World.block_lt_of_cell? w _ hx815_0)).trans hx815_0
                        replace hx815_1 := (HB.out.cell (World.block_lt_of_cell? w _ hx815_1)).trans hx815_1
                        replace hx815_2 := (HB.out.cell (World.block_lt_of_cell? w _ hx815_2)).trans hx815_2
                        replace hx815_3 := (HB.out.cell (World.block_lt_of_cell? w _ hx815_3)).trans hx815_3
                        replace hx815_4 := (HB.out.cell (World.block_lt_of_cell? w _ hx815_4)).trans hx815_4
                        replace hx815_5 := (HB.out.cell (World.block_lt_of_cell? w _ hx815_5)).trans hx815_5
                        replace p815 := eq_true p815
                        replace q815 := eq_true q815
                        refine start_ (n := 18) (S := fun w' => w'.cell? ⟨gb813, 0, none⟩ = some (.string ((rd_T95 l0 x10_1).f0)) ∧ w'.cell? ⟨gb813, 1, none⟩ = some (.int .i64 ((rd_T95 l0 x10_1).f1)) ∧ w'.cell? ⟨gb813, 2, none⟩ = some (.int .i64 ((rd_T95 l0 x10_1).f2)) ∧ w'.cell? ⟨gb813, 3, none⟩ = some (.int .i64 ((rd_T95 l0 x10_1).f3)) ∧ w'.cell? ⟨gb813, 4, none⟩ = some (.int .i64 ((rd_T95 l0 x10_1).f4)) ∧ w'.cell? ⟨gb813, 5, none⟩ = some (.int .i64 ((rd_T95 l0 x10_1).f5)) ∧ w'.cell? (ad812.add (((ji9)).toNat * 6)) = some (.string ((rd_T95 l0 (ji9)).f0)) ∧ w'.cell? ⟨(ad812.add (((ji9)).toNat * 6)).block, (ad812.add (((ji9)).toNat * 6)).off + 1, none⟩ = some (.int .i64 ((rd_T95 l0 (ji9)).f1)) ∧ w'.cell? ⟨(ad812.add (((ji9)).toNat * 6)).block, (ad812.add (((ji9)).toNat * 6)).off + 2, none⟩ = some (.int .i64 ((rd_T95 l0 (ji9)).f2)) ∧ w'.cell? ⟨(ad812.add (((ji9)).toNat * 6)).block, (ad812.add (((ji9)).toNat * 6)).off + 3, none⟩ = some (.int .i64 ((rd_T95 l0 (ji9)).f3)) ∧ w'.cell? ⟨(ad812.add (((ji9)).toNat * 6)).block, (ad812.add (((ji9)).toNat * 6)).off + 4, none⟩ = some (.int .i64 ((rd_T95 l0 (ji9)).f4)) ∧ w'.cell? ⟨(ad812.add (((ji9)).toNat * 6)).block, (ad812.add (((ji9)).toNat * 6)).off + 5, none⟩ = some (.int .i64 ((rd_T95 l0 (ji9)).f5))) (ds := []) #[false, false, false, false, false, false, false, false, false, false, false, false, false, false, false, false, false, false] (by kernel_rfl) rfl rfl ⟨(blk_cell BK813.out 0).trans rfl, (blk_cell BK813.out 1).trans rfl, (blk_cell BK813.out 2).trans rfl, (blk_cell BK813.out 3).trans rfl, (blk_cell BK813.out 4).trans rfl, (blk_cell BK813.out 5).trans rfl, ((HB.out.cell (World.block_lt_of_cell? w _ hw815_0)).trans hw815_0), ((HB.out.cell (World.block_lt_of_cell? w _ hw815_1)).trans hw815_1), ((HB.out.cell (World.block_lt_of_cell? w _ hw815_2)).trans hw815_2), ((HB.out.cell (World.block_lt_of_cell? w _ hw815_3)).trans hw815_3), ((HB.out.cell (World.block_lt_of_cell? w _ hw815_4)).trans hw815_4), ((HB.out.cell (World.block_lt_of_cell? w _ hw815_5)).trans hw815_5)⟩ (fun hHeld => ?_); refine with_tabW impl_ValidItems.tab6 impl_ValidItems.bits6 (fun HT_ HW_ => ?_)
                        generalize w15.drew = w16 at BK813 HB hx815_0 hx815_1 hx815_2 hx815_3 hx815_4 hx815_5 hHeld ⊢
                        refine take_ (i := 0) (N := some 15) (v := ?_) (a' := ?_) #[true, false, false, false, false, false, false, false, false, false, false, false, false, false, false, false, false, false] rfl rfl (take_ofW HT_.out HW_.out (by kernel_rfl)) (fun _ _ _ h => h) (Or.inl ⟨by rfl, ?_⟩) hHeld ?_ ?_
                        rotate_left
                        · rintro w' ⟨s0, s1, s2, s3, s4, s5, s6, s7, s8, s9, s10, s11⟩
                          go_simp
                          with_reducible rfl
                        rotate_left
                        · simp only [Act.put, List.setIfInBounds_toArray, List.set_cons_zero, List.set_cons_succ, i64_w, i32_w]
                          rfl
                        refine one_ (i := 1) (N := some 16) #[true, true, false, false, false, false, false, false, false, false, false, false, false, false, false, false, false, false] rfl rfl (one_of HT_.out (by kernel_rfl)) (by decide) (fun K hK => ?_)
                        refine goes_ Try.func105 (by kernel_rfl) rfl #[.agg #[.string ((rd_T95 l0 x10_1).f0), .int .i64 ((rd_T95 l0 x10_1).f1), .int .i64 ((rd_T95 l0 x10_1).f2), .int .i64 ((rd_T95 l0 x10_1).f3), .int .i64 ((rd_T95 l0 x10_1).f4), .int .i64 ((rd_T95 l0 x10_1).f5)]] (by rfl) rfl rfl (by (try simp only [List.map_toArray, List.map_cons, List.map_nil]); first | done | rfl | (simp only [List.length_drop, List.length_take]; rfl)) ?_
                        with_reducible refine (impl_ValidItem.calls k1 ((rd_T95 l0 x10_1).f0) ((rd_T95 l0 x10_1).f1) ((rd_T95 l0 x10_1).f2) ((rd_T95 l0 x10_1).f3) ((rd_T95 l0 x10_1).f4) ((rd_T95 l0 x10_1).f5) true _ A6.out).mono ?_
                        rintro e w17 ⟨rfl, hb⟩
                        refine ⟨_, rfl, ?_⟩
                        have n0_ := Aside0.mk (blk_below (g := gb813) (o := .cells #[.string ((rd_T95 l0 x10_1).f0), .int .i64 ((rd_T95 l0 x10_1).f1), .int .i64 ((rd_T95 l0 x10_1).f2), .int .i64 ((rd_T95 l0 x10_1).f3), .int .i64 ((rd_T95 l0 x10_1).f4), .int .i64 ((rd_T95 l0 x10_1).f5)] 95 (0, 0)) (by (with_reducible repeat (first | refine blk_drewN ?_ _ | refine blk_drew ?_ | refine blk_alloc ?_ _)); exact BK813.out) hb)
                        have n1_ := Aside0.mk (below_step (by repeat (first | (with_reducible first | exact HB.out | apply below_alloc | apply pw_below_drewN | apply below_drew1 | refine below_set ?_ GE813.out) | exact HB.out)) hb)
                        clear BK813
                        clear HB
                        have BK813 := n0_
                        have HB := n1_
                        clear n0_ n1_
                        (try clear hb)
                        (try clear hb2)
                        (try clear hk)
                        (try clear hi)
                        refine hK.out _ _ ⟨(blk_cell BK813.out 0).trans rfl, (blk_cell BK813.out 1).trans rfl, (blk_cell BK813.out 2).trans rfl, (blk_cell BK813.out 3).trans rfl, (blk_cell BK813.out 4).trans rfl, (blk_cell BK813.out 5).trans rfl, ((HB.out.cell (World.block_lt_of_cell? w _ hw815_0)).trans hw815_0), ((HB.out.cell (World.block_lt_of_cell? w _ hw815_1)).trans hw815_1), ((HB.out.cell (World.block_lt_of_cell? w _ hw815_2)).trans hw815_2), ((HB.out.cell (World.block_lt_of_cell? w _ hw815_3)).trans hw815_3), ((HB.out.cell (World.block_lt_of_cell? w _ hw815_4)).trans hw815_4), ((HB.out.cell (World.block_lt_of_cell? w _ hw815_5)).trans hw815_5)⟩ (fun hHeld => ?_)
                        clear hK K
                        refine norm_ (a' := ?_) ?_ ?_
                        rotate_left
                        · show Act.put _ (some 16) _ = _
                          simp only [Act.put, List.setIfInBounds_toArray, List.set_cons_zero, List.set_cons_succ, i64_w, i32_w]
                          rfl
                        refine pure_ (i := 2) (N := some 17) (v := ?_) (a' := ?_) #[true, true, true, false, false, false, false, false, false, false, false, false, false, false, false, false, false, false] rfl rfl (any_of HT_.out (by kernel_rfl)) (fun _ _ _ h => h) (Or.inl ⟨by rfl, ?_⟩) ?_ ?_
                        rotate_left
                        · intro w'
                          go_simp
                          with_reducible rfl
                        rotate_left
                        · simp only [Act.put, List.setIfInBounds_toArray, List.set_cons_zero, List.set_cons_succ, i64_w, i32_w]
                          rfl
                        refine pure_ (i := 3) (N := some 18) (v := ?_) (a' := ?_) #[true, true, true, true, false, false, false, false, false, false, false, false, false, false, false, false, false, false] rfl rfl (any_of HT_.out (by kernel_rfl)) (fun _ _ _ h => h) (Or.inl ⟨by rfl, ?_⟩) ?_ ?_
                        rotate_left
                        · intro w'
                          go_simp
                          with_reducible rfl
                        rotate_left
                        · simp only [Act.put, List.setIfInBounds_toArray, List.set_cons_zero, List.set_cons_succ, i64_w, i32_w]
                          rfl
                        refine pure_ (i := 4) (N := some 19) (v := ?_) (a' := ?_) #[true, true, true, true, true, false, false, false, false, false, false, false, false, false, false, false, false, false] rfl rfl (any_of HT_.out (by kernel_rfl)) (fun _ _ _ h => h) (Or.inl ⟨by rfl, ?_⟩) ?_ ?_
                        rotate_left
                        · intro w'
                          go_simp
                          with_reducible rfl
                        rotate_left
                        · simp only [Act.put, List.setIfInBounds_toArray, List.set_cons_zero, List.set_cons_succ, i64_w, i32_w]
                          rfl
                        refine pure_ (i := 5) (N := some 20) (v := ?_) (a' := ?_) #[true, true, true, true, true, true, false, false, false, false, false, false, false, false, false, false, false, false] rfl rfl (any_of HT_.out (by kernel_rfl)) (fun _ _ _ h => h) (Or.inl ⟨by rfl, ?_⟩) ?_ ?_
                        rotate_left
                        · intro w'
                          go_simp
                          with_reducible rfl
                        rotate_left
                        · simp only [Act.put, List.setIfInBounds_toArray, List.set_cons_zero, List.set_cons_succ, i64_w, i32_w]
                          rfl
                        refine pure_ (i := 6) (N := some 21) (v := ?_) (a' := ?_) #[true, true, true, true, true, true, true, false, false, false, false, false, false, false, false, false, false, false] rfl rfl (any_of HT_.out (by kernel_rfl)) (fun _ _ _ h => h) (Or.inl ⟨by rfl, ?_⟩) ?_ ?_
                        rotate_left
                        · intro w'
                          go_simp
                          with_reducible rfl
                        rotate_left
                        · simp only [Act.put, List.setIfInBounds_toArray, List.set_cons_zero, List.set_cons_succ, i64_w, i32_w]
                          rfl
                        refine pure_ (i := 7) (N := some 22) (v := ?_) (a' := ?_) #[true, true, true, true, true, true, true, true, false, false, false, false, false, false, false, false, false, false] rfl rfl (any_of HT_.out (by kernel_rfl)) (fun _ _ _ h => h) (Or.inl ⟨by rfl, ?_⟩) ?_ ?_
                        rotate_left
                        · intro w'
                          go_simp
                          with_reducible rfl
                        rotate_left
                        · simp only [Act.put, List.setIfInBounds_toArray, List.set_cons_zero, List.set_cons_succ, i64_w, i32_w]
                          rfl
                        refine pure_ (i := 9) (N := some 24) (v := ?_) (a' := ?_) #[true, true, true, true, true, true, true, true, false, true, false, false, false, false, false, false, false, false] rfl rfl (any_of HT_.out (by kernel_rfl)) (fun _ _ _ h => h) (Or.inl ⟨by rfl, ?_⟩) ?_ ?_
                        rotate_left
                        · intro w'
                          go_simp
                          with_reducible rfl
                        rotate_left
                        · simp only [Act.put, List.setIfInBounds_toArray, List.set_cons_zero, List.set_cons_succ, i64_w, i32_w]
                          rfl
                        refine pure_ (i := 10) (N := some 25) (v := ?_) (a' := ?_) #[true, true, true, true, true, true, true, true, false, true, true, false, false, false, false, false, false, false] rfl rfl (any_of HT_.out (by kernel_rfl)) (fun _ _ _ h => h) (Or.inl ⟨by rfl, ?_⟩) ?_ ?_
                        rotate_left
                        · intro w'
                          go_simp
                          with_reducible rfl
                        rotate_left
                        · simp only [Act.put, List.setIfInBounds_toArray, List.set_cons_zero, List.set_cons_succ, i64_w, i32_w]
                          rfl
                        refine pure_ (i := 11) (N := some 26) (v := ?_) (a' := ?_) #[true, true, true, true, true, true, true, true, false, true, true, true, false, false, false, false, false, false] rfl rfl (any_of HT_.out (by kernel_rfl)) (fun _ _ _ h => h) (Or.inl ⟨by rfl, ?_⟩) ?_ ?_
                        rotate_left
                        · intro w'
                          go_simp
                          with_reducible rfl
                        rotate_left
                        · simp only [Act.put, List.setIfInBounds_toArray, List.set_cons_zero, List.set_cons_succ, i64_w, i32_w]
                          rfl
                        refine pure_ (i := 12) (N := some 27) (v := ?_) (a' := ?_) #[true, true, true, true, true, true, true, true, false, true, true, true, true, false, false, false, false, false] rfl rfl (any_of HT_.out (by kernel_rfl)) (fun _ _ _ h => h) (Or.inl ⟨by rfl, ?_⟩) ?_ ?_
                        rotate_left
                        · intro w'
                          go_simp
                          with_reducible rfl
                        rotate_left
                        · simp only [Act.put, List.setIfInBounds_toArray, List.set_cons_zero, List.set_cons_succ, i64_w, i32_w]
                          rfl
                        refine pure_ (i := 13) (N := some 28) (v := ?_) (a' := ?_) #[true, true, true, true, true, true, true, true, false, true, true, true, true, true, false, false, false, false] rfl rfl (any_of HT_.out (by kernel_rfl)) (fun _ _ _ h => h) (Or.inl ⟨by rfl, ?_⟩) ?_ ?_
                        rotate_left
                        · intro w'
                          go_simp
                          with_reducible rfl
                        rotate_left
                        · simp only [Act.put, List.setIfInBounds_toArray, List.set_cons_zero, List.set_cons_succ, i64_w, i32_w]
                          rfl
                        refine take_ (i := 8) (N := some 23) (v := ?_) (a' := ?_) #[true, true, true, true, true, true, true, true, true, true, true, true, true, true, false, false, false, false] rfl rfl (take_ofW HT_.out HW_.out (by kernel_rfl)) (fun _ _ _ h => h) (Or.inl ⟨by rfl, ?_⟩) hHeld ?_ ?_
                        rotate_left
                        · rintro w' ⟨s0, s1, s2, s3, s4, s5, s6, s7, s8, s9, s10, s11⟩
                          go_simp
                          with_reducible rfl
                        rotate_left
                        · simp only [Act.put, List.setIfInBounds_toArray, List.set_cons_zero, List.set_cons_succ, i64_w, i32_w]
                          rfl
                        refine take_ (i := 14) (N := some 29) (v := ?_) (a' := ?_) #[true, true, true, true, true, true, true, true, true, true, true, true, true, true, true, false, false, false] rfl rfl (take_ofW HT_.out HW_.out (by kernel_rfl)) (fun _ _ _ h => h) (Or.inl ⟨by rfl, ?_⟩) hHeld ?_ ?_
                        rotate_left
                        · rintro w' ⟨s0, s1, s2, s3, s4, s5, s6, s7, s8, s9, s10, s11⟩
                          go_simp
                          with_reducible rfl
                        rotate_left
                        · simp only [Act.put, List.setIfInBounds_toArray, List.set_cons_zero, List.set_cons_succ, i64_w, i32_w]
                          rfl
                        refine pure_ (i := 15) (N := some 30) (v := ?_) (a' := ?_) #[true, true, true, true, true, true, true, true, true, true, true, true, true, true, true, true, false, false] rfl rfl (any_of HT_.out (by kernel_rfl)) (fun _ _ _ h => h) (Or.inl ⟨by rfl, ?_⟩) ?_ ?_
                        rotate_left
                        · intro w'
                          go_simp
                          with_reducible rfl
                        rotate_left
                        · simp only [Act.put, List.setIfInBounds_toArray, List.set_cons_zero, List.set_cons_succ, i64_w, i32_w]
                          rfl
                        refine pure_ (i := 16) (N := some 31) (v := ?_) (a' := ?_) #[true, true, true, true, true, true, true, true, true, true, true, true, true, true, true, true, true, false] rfl rfl (any_of HT_.out (by kernel_rfl)) (fun _ _ _ h => h) (Or.inl ⟨by rfl, ?_⟩) ?_ ?_
                        rotate_left
                        · intro w'
                          go_simp
                          with_reducible rfl
                        rotate_left
                        · simp only [Act.put, List.setIfInBounds_toArray, List.set_cons_zero, List.set_cons_succ, i64_w, i32_w]
                          rfl
                        refine pure_ (i := 17) (N := some 32) (v := ?_) (a' := ?_) #[true, true, true, true, true, true, true, true, true, true, true, true, true, true, true, true, true, true] rfl rfl (any_of HT_.out (by kernel_rfl)) (fun _ _ _ h => h) (Or.inl ⟨by rfl, ?_⟩) ?_ ?_
                        rotate_left
                        · intro w'
                          go_simp
                          with_reducible rfl
                        rotate_left
                        · simp only [Act.put, List.setIfInBounds_toArray, List.set_cons_zero, List.set_cons_succ, i64_w, i32_w]
                          rfl
                        refine done_ (done_of HT_.out (by kernel_rfl)) ?_
                        try go_wp2
                        go_roundg k1
                        case measure => have := HK1.out; omega
                        case rel => exact ⟨(wrap64 (x10_1 + 1)), (by first | rfl | (simp; done) | (simp [*]; done)), H', ⟨by have := HK1.out; omega⟩, ⟨by repeat (first | (with_reducible first | exact HB.out | apply below_alloc | apply pw_below_drewN | apply below_drew1 | refine below_set ?_ GE813.out) | exact HB.out)⟩⟩
                      · rw [if_neg c12] at H
                        have c12b0 : (Op.bytesLess (((rd_T95 l0 (ji9)).f0).toList) (((rd_T95 l0 x10_1).f0).toList)) = false := by simpa using c12
                        clear c12
                        obtain rfl := Option.some.inj H
                        have p812 : 0 ≤ (x10_1 : Int) := of_decide_eq_true (by first | (with_reducible assumption) | assumption)
                        have q812 : x10_1 < (l0.length : Int) := of_decide_eq_true (by first | (with_reducible assumption) | assumption)
                        obtain ⟨ad812, e812, hx812_0, hx812_1, hx812_2, hx812_3, hx812_4, hx812_5⟩ := at_T95 HR0.out x10_1 p812 q812
                        cases e812
                        replace hx812_0 := (HB.out.cell (World.block_lt_of_cell? w _ hx812_0)).trans hx812_0
                        replace hx812_1 := (HB.out.cell (World.block_lt_of_cell? w _ hx812_1)).trans hx812_1
                        replace hx812_2 := (HB.out.cell (World.block_lt_of_cell? w _ hx812_2)).trans hx812_2
                        replace hx812_3 := (HB.out.cell (World.block_lt_of_cell? w _ hx812_3)).trans hx812_3
                        replace hx812_4 := (HB.out.cell (World.block_lt_of_cell? w _ hx812_4)).trans hx812_4
                        replace hx812_5 := (HB.out.cell (World.block_lt_of_cell? w _ hx812_5)).trans hx812_5
                        replace p812 := eq_true p812
                        replace q812 := eq_true q812
                        try go_wp2_with (first | ((with_reducible refine gate_dst (N := 4) rfl ?_); refine box_event ?hg (N := 4) ?hd (cs := #[.string (⟨#[]⟩ : ByteArray), .int .i64 0, .int .i64 0, .int .i64 0, .int .i64 0, .int .i64 0]) (t := 95) ?hr ?_; (case hd => rfl); (case hg => rfl); (case hr => first | (go_simp; done) | (go_simp; rfl)); intro gb813 hg w18 hbox hb; have n0_ := Aside0.mk (below_step (by repeat (first | (with_reducible first | exact HB.out | apply below_alloc | apply pw_below_drewN | apply below_drew1) | exact HB.out)) hb); have n1_ := Aside0.mk (hbox); have n2_ := Aside0.mk ((by rw [hg]; exact (below_size (by repeat (first | (with_reducible first | exact HB.out | apply below_alloc | apply pw_below_drewN | apply below_drew1) | exact HB.out))) : w.heap.size ≤ gb813)); have n3_ := Aside0.mk ((by rw [hg]; exact (below_size (by repeat (first | (with_reducible first | exact HB.out | apply below_alloc | apply pw_below_drewN | apply below_drew1) | exact HB.out))) : w.heap.size ≤ gb813)); clear HB; have HB := n0_; have BK813 := n1_; have GW813 := n2_; have GE813 := n3_; clear n0_ n1_ n2_ n3_; clear hb hbox hg; have hcz19_0 : w18.cell? ⟨gb813, 0, none⟩ = some (.string (⟨#[]⟩ : ByteArray)) := (blk_cell BK813.out 0).trans rfl; have hcz19_1 : w18.cell? ⟨gb813, 1, none⟩ = some (.int .i64 0) := (blk_cell BK813.out 1).trans rfl; have hcz19_2 : w18.cell? ⟨gb813, 2, none⟩ = some (.int .i64 0) := (blk_cell BK813.out 2).trans rfl; have hcz19_3 : w18.cell? ⟨gb813, 3, none⟩ = some (.int .i64 0) := (blk_cell BK813.out 3).trans rfl; have hcz19_4 : w18.cell? ⟨gb813, 4, none⟩ = some (.int .i64 0) := (blk_cell BK813.out 4).trans rfl; have hcz19_5 : w18.cell? ⟨gb813, 5, none⟩ = some (.int .i64 0) := (blk_cell BK813.out 5).trans rfl; have hfz19_0 := blk_frozen BK813.out 0; have hfz19_1 := blk_frozen BK813.out 1; have hfz19_2 := blk_frozen BK813.out 2; have hfz19_3 := blk_frozen BK813.out 3; have hfz19_4 := blk_frozen BK813.out 4; have hfz19_5 := blk_frozen BK813.out 5))
                        have n0_ : Aside0 (((((((w18.setCell ⟨gb813, 0, none⟩ (.string ((rd_T95 l0 x10_1).f0))).setCell ⟨gb813, 1, none⟩ (.int .i64 ((rd_T95 l0 x10_1).f1))).setCell ⟨gb813, 2, none⟩ (.int .i64 ((rd_T95 l0 x10_1).f2))).setCell ⟨gb813, 3, none⟩ (.int .i64 ((rd_T95 l0 x10_1).f3))).setCell ⟨gb813, 4, none⟩ (.int .i64 ((rd_T95 l0 x10_1).f4))).setCell ⟨gb813, 5, none⟩ (.int .i64 ((rd_T95 l0 x10_1).f5))).heap[gb813]? = some (.cells #[.string ((rd_T95 l0 x10_1).f0), .int .i64 ((rd_T95 l0 x10_1).f1), .int .i64 ((rd_T95 l0 x10_1).f2), .int .i64 ((rd_T95 l0 x10_1).f3), .int .i64 ((rd_T95 l0 x10_1).f4), .int .i64 ((rd_T95 l0 x10_1).f5)] 95 (0, 0))) := ⟨by (with_reducible repeat (first | refine blk_drewN ?_ _ | refine blk_drew ?_ | refine blk_alloc ?_ _)); refine blk_put (cs := #[.string ((rd_T95 l0 x10_1).f0), .int .i64 ((rd_T95 l0 x10_1).f1), .int .i64 ((rd_T95 l0 x10_1).f2), .int .i64 ((rd_T95 l0 x10_1).f3), .int .i64 ((rd_T95 l0 x10_1).f4), .int .i64 0]) ?_ 5 _ rfl; (with_reducible repeat (first | refine blk_drewN ?_ _ | refine blk_drew ?_ | refine blk_alloc ?_ _)); refine blk_put (cs := #[.string ((rd_T95 l0 x10_1).f0), .int .i64 ((rd_T95 l0 x10_1).f1), .int .i64 ((rd_T95 l0 x10_1).f2), .int .i64 ((rd_T95 l0 x10_1).f3), .int .i64 0, .int .i64 0]) ?_ 4 _ rfl; (with_reducible repeat (first | refine blk_drewN ?_ _ | refine blk_drew ?_ | refine blk_alloc ?_ _)); refine blk_put (cs := #[.string ((rd_T95 l0 x10_1).f0), .int .i64 ((rd_T95 l0 x10_1).f1), .int .i64 ((rd_T95 l0 x10_1).f2), .int .i64 0, .int .i64 0, .int .i64 0]) ?_ 3 _ rfl; (with_reducible repeat (first | refine blk_drewN ?_ _ | refine blk_drew ?_ | refine blk_alloc ?_ _)); refine blk_put (cs := #[.string ((rd_T95 l0 x10_1).f0), .int .i64 ((rd_T95 l0 x10_1).f1), .int .i64 0, .int .i64 0, .int .i64 0, .int .i64 0]) ?_ 2 _ rfl; (with_reducible repeat (first | refine blk_drewN ?_ _ | refine blk_drew ?_ | refine blk_alloc ?_ _)); refine blk_put (cs := #[.string ((rd_T95 l0 x10_1).f0), .int .i64 0, .int .i64 0, .int .i64 0, .int .i64 0, .int .i64 0]) ?_ 1 _ rfl; (with_reducible repeat (first | refine blk_drewN ?_ _ | refine blk_drew ?_ | refine blk_alloc ?_ _)); refine blk_put (cs := #[.string (⟨#[]⟩ : ByteArray), .int .i64 0, .int .i64 0, .int .i64 0, .int .i64 0, .int .i64 0]) ?_ 0 _ rfl; (with_reducible repeat (first | refine blk_drewN ?_ _ | refine blk_drew ?_ | refine blk_alloc ?_ _)); exact BK813.out⟩
                        have n1_ : Aside0 (Below w.heap.size w ((((((w18.setCell ⟨gb813, 0, none⟩ (.string ((rd_T95 l0 x10_1).f0))).setCell ⟨gb813, 1, none⟩ (.int .i64 ((rd_T95 l0 x10_1).f1))).setCell ⟨gb813, 2, none⟩ (.int .i64 ((rd_T95 l0 x10_1).f2))).setCell ⟨gb813, 3, none⟩ (.int .i64 ((rd_T95 l0 x10_1).f3))).setCell ⟨gb813, 4, none⟩ (.int .i64 ((rd_T95 l0 x10_1).f4))).setCell ⟨gb813, 5, none⟩ (.int .i64 ((rd_T95 l0 x10_1).f5)))) := ⟨by repeat (first | (with_reducible first | exact HB.out | apply below_alloc | apply pw_below_drewN | apply below_drew1 | refine below_set ?_ GE813.out) | exact HB.out)⟩
                        (try clear BK813)
                        (try clear HB)
                        generalize ((((((w18.setCell ⟨gb813, 0, none⟩ (.string ((rd_T95 l0 x10_1).f0))).setCell ⟨gb813, 1, none⟩ (.int .i64 ((rd_T95 l0 x10_1).f1))).setCell ⟨gb813, 2, none⟩ (.int .i64 ((rd_T95 l0 x10_1).f2))).setCell ⟨gb813, 3, none⟩ (.int .i64 ((rd_T95 l0 x10_1).f3))).setCell ⟨gb813, 4, none⟩ (.int .i64 ((rd_T95 l0 x10_1).f4))).setCell ⟨gb813, 5, none⟩ (.int .i64 ((rd_T95 l0 x10_1).f5))) = w20 at n0_ n1_ ⊢
                        have BK813 := n0_
                        have HB := n1_
                        clear n0_ n1_
                        have n0_ := Aside0.mk (blk_drew BK813.out)
                        have n1_ := Aside0.mk (below_drew1 HB.out)
                        clear BK813
                        clear HB
                        have BK813 := n0_
                        have HB := n1_
                        clear n0_ n1_
                        have p815 : 0 ≤ ((ji9) : Int) := of_decide_eq_true (by first | (with_reducible assumption) | assumption)
                        have q815 : (ji9) < (l0.length : Int) := of_decide_eq_true (by first | (with_reducible assumption) | assumption)
                        obtain ⟨ad815, e815, hx815_0, hx815_1, hx815_2, hx815_3, hx815_4, hx815_5⟩ := at_T95 HR0.out (ji9) p815 q815
                        have hw815_5 := hx815_5
                        have hw815_4 := hx815_4
                        have hw815_3 := hx815_3
                        have hw815_2 := hx815_2
                        have hw815_1 := hx815_1
                        have hw815_0 := hx815_0
                        obtain rfl : ad812 = ad815 := (by injection e815)
                        replace hx815_0 := (HB.out.cell (World.block_lt_of_cell? w _ hx815_0)).trans hx815_0
                        replace hx815_1 := (HB.out.cell (World.block_lt_of_cell? w _ hx815_1)).trans hx815_1
                        replace hx815_2 := (HB.out.cell (World.block_lt_of_cell? w _ hx815_2)).trans hx815_2
                        replace hx815_3 := (HB.out.cell (World.block_lt_of_cell? w _ hx815_3)).trans hx815_3
                        replace hx815_4 := (HB.out.cell (World.block_lt_of_cell? w _ hx815_4)).trans hx815_4
                        replace hx815_5 := (HB.out.cell (World.block_lt_of_cell? w _ hx815_5)).trans hx815_5
                        replace p815 := eq_true p815
                        replace q815 := eq_true q815
                        refine start_ (n := 18) (S := fun w' => w'.cell? ⟨gb813, 0, none⟩ = some (.string ((rd_T95 l0 x10_1).f0)) ∧ w'.cell? ⟨gb813, 1, none⟩ = some (.int .i64 ((rd_T95 l0 x10_1).f1)) ∧ w'.cell? ⟨gb813, 2, none⟩ = some (.int .i64 ((rd_T95 l0 x10_1).f2)) ∧ w'.cell? ⟨gb813, 3, none⟩ = some (.int .i64 ((rd_T95 l0 x10_1).f3)) ∧ w'.cell? ⟨gb813, 4, none⟩ = some (.int .i64 ((rd_T95 l0 x10_1).f4)) ∧ w'.cell? ⟨gb813, 5, none⟩ = some (.int .i64 ((rd_T95 l0 x10_1).f5)) ∧ w'.cell? (ad812.add (((ji9)).toNat * 6)) = some (.string ((rd_T95 l0 (ji9)).f0)) ∧ w'.cell? ⟨(ad812.add (((ji9)).toNat * 6)).block, (ad812.add (((ji9)).toNat * 6)).off + 1, none⟩ = some (.int .i64 ((rd_T95 l0 (ji9)).f1)) ∧ w'.cell? ⟨(ad812.add (((ji9)).toNat * 6)).block, (ad812.add (((ji9)).toNat * 6)).off + 2, none⟩ = some (.int .i64 ((rd_T95 l0 (ji9)).f2)) ∧ w'.cell? ⟨(ad812.add (((ji9)).toNat * 6)).block, (ad812.add (((ji9)).toNat * 6)).off + 3, none⟩ = some (.int .i64 ((rd_T95 l0 (ji9)).f3)) ∧ w'.cell? ⟨(ad812.add (((ji9)).toNat * 6)).block, (ad812.add (((ji9)).toNat * 6)).off + 4, none⟩ = some (.int .i64 ((rd_T95 l0 (ji9)).f4)) ∧ w'.cell? ⟨(ad812.add (((ji9)).toNat * 6)).block, (ad812.add (((ji9)).toNat * 6)).off + 5, none⟩ = some (.int .i64 ((rd_T95 l0 (ji9)).f5))) (ds := []) #[false, false, false, false, false, false, false, false, false, false, false, false, false, false, false, false, false, false] (by kernel_rfl) rfl rfl ⟨(blk_cell BK813.out 0).trans rfl, (blk_cell BK813.out 1).trans rfl, (blk_cell BK813.out 2).trans rfl, (blk_cell BK813.out 3).trans rfl, (blk_cell BK813.out 4).trans rfl, (blk_cell BK813.out 5).trans rfl, ((HB.out.cell (World.block_lt_of_cell? w _ hw815_0)).trans hw815_0), ((HB.out.cell (World.block_lt_of_cell? w _ hw815_1)).trans hw815_1), ((HB.out.cell (World.block_lt_of_cell? w _ hw815_2)).trans hw815_2), ((HB.out.cell (World.block_lt_of_cell? w _ hw815_3)).trans hw815_3), ((HB.out.cell (World.block_lt_of_cell? w _ hw815_4)).trans hw815_4), ((HB.out.cell (World.block_lt_of_cell? w _ hw815_5)).trans hw815_5)⟩ (fun hHeld => ?_); refine with_tabW impl_ValidItems.tab6 impl_ValidItems.bits6 (fun HT_ HW_ => ?_)
                        generalize w20.drew = w21 at BK813 HB hx815_0 hx815_1 hx815_2 hx815_3 hx815_4 hx815_5 hHeld ⊢
                        refine take_ (i := 0) (N := some 15) (v := ?_) (a' := ?_) #[true, false, false, false, false, false, false, false, false, false, false, false, false, false, false, false, false, false] rfl rfl (take_ofW HT_.out HW_.out (by kernel_rfl)) (fun _ _ _ h => h) (Or.inl ⟨by rfl, ?_⟩) hHeld ?_ ?_
                        rotate_left
                        · rintro w' ⟨s0, s1, s2, s3, s4, s5, s6, s7, s8, s9, s10, s11⟩
                          go_simp
                          with_reducible rfl
                        rotate_left
                        · simp only [Act.put, List.setIfInBounds_toArray, List.set_cons_zero, List.set_cons_succ, i64_w, i32_w]
                          rfl
                        refine one_ (i := 1) (N := some 16) #[true, true, false, false, false, false, false, false, false, false, false, false, false, false, false, false, false, false] rfl rfl (one_of HT_.out (by kernel_rfl)) (by decide) (fun K hK => ?_)
                        refine goes_ Try.func105 (by kernel_rfl) rfl #[.agg #[.string ((rd_T95 l0 x10_1).f0), .int .i64 ((rd_T95 l0 x10_1).f1), .int .i64 ((rd_T95 l0 x10_1).f2), .int .i64 ((rd_T95 l0 x10_1).f3), .int .i64 ((rd_T95 l0 x10_1).f4), .int .i64 ((rd_T95 l0 x10_1).f5)]] (by rfl) rfl rfl (by (try simp only [List.map_toArray, List.map_cons, List.map_nil]); first | done | rfl | (simp only [List.length_drop, List.length_take]; rfl)) ?_
                        with_reducible refine (impl_ValidItem.calls k1 ((rd_T95 l0 x10_1).f0) ((rd_T95 l0 x10_1).f1) ((rd_T95 l0 x10_1).f2) ((rd_T95 l0 x10_1).f3) ((rd_T95 l0 x10_1).f4) ((rd_T95 l0 x10_1).f5) true _ A6.out).mono ?_
                        rintro e w22 ⟨rfl, hb⟩
                        refine ⟨_, rfl, ?_⟩
                        have n0_ := Aside0.mk (blk_below (g := gb813) (o := .cells #[.string ((rd_T95 l0 x10_1).f0), .int .i64 ((rd_T95 l0 x10_1).f1), .int .i64 ((rd_T95 l0 x10_1).f2), .int .i64 ((rd_T95 l0 x10_1).f3), .int .i64 ((rd_T95 l0 x10_1).f4), .int .i64 ((rd_T95 l0 x10_1).f5)] 95 (0, 0)) (by (with_reducible repeat (first | refine blk_drewN ?_ _ | refine blk_drew ?_ | refine blk_alloc ?_ _)); exact BK813.out) hb)
                        have n1_ := Aside0.mk (below_step (by repeat (first | (with_reducible first | exact HB.out | apply below_alloc | apply pw_below_drewN | apply below_drew1 | refine below_set ?_ GE813.out) | exact HB.out)) hb)
                        clear BK813
                        clear HB
                        have BK813 := n0_
                        have HB := n1_
                        clear n0_ n1_
                        (try clear hb)
                        (try clear hb2)
                        (try clear hk)
                        (try clear hi)
                        refine hK.out _ _ ⟨(blk_cell BK813.out 0).trans rfl, (blk_cell BK813.out 1).trans rfl, (blk_cell BK813.out 2).trans rfl, (blk_cell BK813.out 3).trans rfl, (blk_cell BK813.out 4).trans rfl, (blk_cell BK813.out 5).trans rfl, ((HB.out.cell (World.block_lt_of_cell? w _ hw815_0)).trans hw815_0), ((HB.out.cell (World.block_lt_of_cell? w _ hw815_1)).trans hw815_1), ((HB.out.cell (World.block_lt_of_cell? w _ hw815_2)).trans hw815_2), ((HB.out.cell (World.block_lt_of_cell? w _ hw815_3)).trans hw815_3), ((HB.out.cell (World.block_lt_of_cell? w _ hw815_4)).trans hw815_4), ((HB.out.cell (World.block_lt_of_cell? w _ hw815_5)).trans hw815_5)⟩ (fun hHeld => ?_)
                        clear hK K
                        refine norm_ (a' := ?_) ?_ ?_
                        rotate_left
                        · show Act.put _ (some 16) _ = _
                          simp only [Act.put, List.setIfInBounds_toArray, List.set_cons_zero, List.set_cons_succ, i64_w, i32_w]
                          rfl
                        refine pure_ (i := 2) (N := some 17) (v := ?_) (a' := ?_) #[true, true, true, false, false, false, false, false, false, false, false, false, false, false, false, false, false, false] rfl rfl (any_of HT_.out (by kernel_rfl)) (fun _ _ _ h => h) (Or.inl ⟨by rfl, ?_⟩) ?_ ?_
                        rotate_left
                        · intro w'
                          go_simp
                          with_reducible rfl
                        rotate_left
                        · simp only [Act.put, List.setIfInBounds_toArray, List.set_cons_zero, List.set_cons_succ, i64_w, i32_w]
                          rfl
                        refine pure_ (i := 3) (N := some 18) (v := ?_) (a' := ?_) #[true, true, true, true, false, false, false, false, false, false, false, false, false, false, false, false, false, false] rfl rfl (any_of HT_.out (by kernel_rfl)) (fun _ _ _ h => h) (Or.inl ⟨by rfl, ?_⟩) ?_ ?_
                        rotate_left
                        · intro w'
                          go_simp
                          with_reducible rfl
                        rotate_left
                        · simp only [Act.put, List.setIfInBounds_toArray, List.set_cons_zero, List.set_cons_succ, i64_w, i32_w]
                          rfl
                        refine pure_ (i := 4) (N := some 19) (v := ?_) (a' := ?_) #[true, true, true, true, true, false, false, false, false, false, false, false, false, false, false, false, false, false] rfl rfl (any_of HT_.out (by kernel_rfl)) (fun _ _ _ h => h) (Or.inl ⟨by rfl, ?_⟩) ?_ ?_
                        rotate_left
                        · intro w'
                          go_simp
                          with_reducible rfl
                        rotate_left
                        · simp only [Act.put, List.setIfInBounds_toArray, List.set_cons_zero, List.set_cons_succ, i64_w, i32_w]
                          rfl
                        refine pure_ (i := 5) (N := some 20) (v := ?_) (a' := ?_) #[true, true, true, true, true, true, false, false, false, false, false, false, false, false, false, false, false, false] rfl rfl (any_of HT_.out (by kernel_rfl)) (fun _ _ _ h => h) (Or.inl ⟨by rfl, ?_⟩) ?_ ?_
                        rotate_left
                        · intro w'
                          go_simp
                          with_reducible rfl
                        rotate_left
                        · simp only [Act.put, List.setIfInBounds_toArray, List.set_cons_zero, List.set_cons_succ, i64_w, i32_w]
                          rfl
                        refine pure_ (i := 6) (N := some 21) (v := ?_) (a' := ?_) #[true, true, true, true, true, true, true, false, false, false, false, false, false, false, false, false, false, false] rfl rfl (any_of HT_.out (by kernel_rfl)) (fun _ _ _ h => h) (Or.inl ⟨by rfl, ?_⟩) ?_ ?_
                        rotate_left
                        · intro w'
                          go_simp
                          with_reducible rfl
                        rotate_left
                        · simp only [Act.put, List.setIfInBounds_toArray, List.set_cons_zero, List.set_cons_succ, i64_w, i32_w]
                          rfl
                        refine pure_ (i := 7) (N := some 22) (v := ?_) (a' := ?_) #[true, true, true, true, true, true, true, true, false, false, false, false, false, false, false, false, false, false] rfl rfl (any_of HT_.out (by kernel_rfl)) (fun _ _ _ h => h) (Or.inl ⟨by rfl, ?_⟩) ?_ ?_
                        rotate_left
                        · intro w'
                          go_simp
                          with_reducible rfl
                        rotate_left
                        · simp only [Act.put, List.setIfInBounds_toArray, List.set_cons_zero, List.set_cons_succ, i64_w, i32_w]
                          rfl
                        refine pure_ (i := 9) (N := some 24) (v := ?_) (a' := ?_) #[true, true, true, true, true, true, true, true, false, true, false, false, false, false, false, false, false, false] rfl rfl (any_of HT_.out (by kernel_rfl)) (fun _ _ _ h => h) (Or.inl ⟨by rfl, ?_⟩) ?_ ?_
                        rotate_left
                        · intro w'
                          go_simp
                          with_reducible rfl
                        rotate_left
                        · simp only [Act.put, List.setIfInBounds_toArray, List.set_cons_zero, List.set_cons_succ, i64_w, i32_w]
                          rfl
                        refine pure_ (i := 10) (N := some 25) (v := ?_) (a' := ?_) #[true, true, true, true, true, true, true, true, false, true, true, false, false, false, false, false, false, false] rfl rfl (any_of HT_.out (by kernel_rfl)) (fun _ _ _ h => h) (Or.inl ⟨by rfl, ?_⟩) ?_ ?_
                        rotate_left
                        · intro w'
                          go_simp
                          with_reducible rfl
                        rotate_left
                        · simp only [Act.put, List.setIfInBounds_toArray, List.set_cons_zero, List.set_cons_succ, i64_w, i32_w]
                          rfl
                        refine pure_ (i := 11) (N := some 26) (v := ?_) (a' := ?_) #[true, true, true, true, true, true, true, true, false, true, true, true, false, false, false, false, false, false] rfl rfl (any_of HT_.out (by kernel_rfl)) (fun _ _ _ h => h) (Or.inl ⟨by rfl, ?_⟩) ?_ ?_
                        rotate_left
                        · intro w'
                          go_simp
                          with_reducible rfl
                        rotate_left
                        · simp only [Act.put, List.setIfInBounds_toArray, List.set_cons_zero, List.set_cons_succ, i64_w, i32_w]
                          rfl
                        refine pure_ (i := 12) (N := some 27) (v := ?_) (a' := ?_) #[true, true, true, true, true, true, true, true, false, true, true, true, true, false, false, false, false, false] rfl rfl (any_of HT_.out (by kernel_rfl)) (fun _ _ _ h => h) (Or.inl ⟨by rfl, ?_⟩) ?_ ?_
                        rotate_left
                        · intro w'
                          go_simp
                          with_reducible rfl
                        rotate_left
                        · simp only [Act.put, List.setIfInBounds_toArray, List.set_cons_zero, List.set_cons_succ, i64_w, i32_w]
                          rfl
                        refine pure_ (i := 13) (N := some 28) (v := ?_) (a' := ?_) #[true, true, true, true, true, true, true, true, false, true, true, true, true, true, false, false, false, false] rfl rfl (any_of HT_.out (by kernel_rfl)) (fun _ _ _ h => h) (Or.inl ⟨by rfl, ?_⟩) ?_ ?_
                        rotate_left
                        · intro w'
                          go_simp
                          with_reducible rfl
                        rotate_left
                        · simp only [Act.put, List.setIfInBounds_toArray, List.set_cons_zero, List.set_cons_succ, i64_w, i32_w]
                          rfl
                        refine take_ (i := 8) (N := some 23) (v := ?_) (a' := ?_) #[true, true, true, true, true, true, true, true, true, true, true, true, true, true, false, false, false, false] rfl rfl (take_ofW HT_.out HW_.out (by kernel_rfl)) (fun _ _ _ h => h) (Or.inl ⟨by rfl, ?_⟩) hHeld ?_ ?_
                        rotate_left
                        · rintro w' ⟨s0, s1, s2, s3, s4, s5, s6, s7, s8, s9, s10, s11⟩
                          go_simp
                          with_reducible rfl
                        rotate_left
                        · simp only [Act.put, List.setIfInBounds_toArray, List.set_cons_zero, List.set_cons_succ, i64_w, i32_w]
                          rfl
                        refine take_ (i := 14) (N := some 29) (v := ?_) (a' := ?_) #[true, true, true, true, true, true, true, true, true, true, true, true, true, true, true, false, false, false] rfl rfl (take_ofW HT_.out HW_.out (by kernel_rfl)) (fun _ _ _ h => h) (Or.inl ⟨by rfl, ?_⟩) hHeld ?_ ?_
                        rotate_left
                        · rintro w' ⟨s0, s1, s2, s3, s4, s5, s6, s7, s8, s9, s10, s11⟩
                          go_simp
                          with_reducible rfl
                        rotate_left
                        · simp only [Act.put, List.setIfInBounds_toArray, List.set_cons_zero, List.set_cons_succ, i64_w, i32_w]
                          rfl
                        refine pure_ (i := 15) (N := some 30) (v := ?_) (a' := ?_) #[true, true, true, true, true, true, true, true, true, true, true, true, true, true, true, true, false, false] rfl rfl (any_of HT_.out (by kernel_rfl)) (fun _ _ _ h => h) (Or.inl ⟨by rfl, ?_⟩) ?_ ?_
                        rotate_left
                        · intro w'
                          go_simp
                          with_reducible rfl
                        rotate_left
                        · simp only [Act.put, List.setIfInBounds_toArray, List.set_cons_zero, List.set_cons_succ, i64_w, i32_w]
                          rfl
                        refine pure_ (i := 16) (N := some 31) (v := ?_) (a' := ?_) #[true, true, true, true, true, true, true, true, true, true, true, true, true, true, true, true, true, false] rfl rfl (any_of HT_.out (by kernel_rfl)) (fun _ _ _ h => h) (Or.inl ⟨by rfl, ?_⟩) ?_ ?_
                        rotate_left
                        · intro w'
                          go_simp
                          with_reducible rfl
                        rotate_left
                        · simp only [Act.put, List.setIfInBounds_toArray, List.set_cons_zero, List.set_cons_succ, i64_w, i32_w]
                          rfl
                        refine pure_ (i := 17) (N := some 32) (v := ?_) (a' := ?_) #[true, true, true, true, true, true, true, true, true, true, true, true, true, true, true, true, true, true] rfl rfl (any_of HT_.out (by kernel_rfl)) (fun _ _ _ h => h) (Or.inl ⟨by rfl, ?_⟩) ?_ ?_
                        rotate_left
                        · intro w'
                          go_simp
                          with_reducible rfl
                        rotate_left
                        · simp only [Act.put, List.setIfInBounds_toArray, List.set_cons_zero, List.set_cons_succ, i64_w, i32_w]
                          rfl
                        refine done_ (done_of HT_.out (by kernel_rfl)) ?_
                        try go_wp2
                        go_ret
                        exact ⟨by first | rfl | (simp [errW_none, errW_some] <;> rfl) | (simp only [← hji9]; first | rfl | (simp [errW_none, errW_some] <;> rfl)) | (simp [*, errW_none, errW_some] <;> rfl), by repeat (first | (with_reducible first | exact HB.out | apply below_alloc | apply pw_below_drewN | apply below_drew1 | refine below_set ?_ GE813.out) | exact HB.out)⟩
                    · rw [if_neg c11] at H
                      exact absurd H (by simp)
                  · rw [if_neg c10] at H
                    exact absurd H (by simp)
                · rw [if_neg c8] at H
                  have c8b0 : decide (0 < x10_1) = false := decide_eq_false c8
                  clear c8
                  have H' := Aside0.mk H
                  clear H
                  have p812 : 0 ≤ (x10_1 : Int) := of_decide_eq_true (by first | (with_reducible assumption) | assumption)
                  have q812 : x10_1 < (l0.length : Int) := of_decide_eq_true (by first | (with_reducible assumption) | assumption)
                  obtain ⟨ad812, e812, hx812_0, hx812_1, hx812_2, hx812_3, hx812_4, hx812_5⟩ := at_T95 HR0.out x10_1 p812 q812
                  cases e812
                  replace hx812_0 := (HB.out.cell (World.block_lt_of_cell? w _ hx812_0)).trans hx812_0
                  replace hx812_1 := (HB.out.cell (World.block_lt_of_cell? w _ hx812_1)).trans hx812_1
                  replace hx812_2 := (HB.out.cell (World.block_lt_of_cell? w _ hx812_2)).trans hx812_2
                  replace hx812_3 := (HB.out.cell (World.block_lt_of_cell? w _ hx812_3)).trans hx812_3
                  replace hx812_4 := (HB.out.cell (World.block_lt_of_cell? w _ hx812_4)).trans hx812_4
                  replace hx812_5 := (HB.out.cell (World.block_lt_of_cell? w _ hx812_5)).trans hx812_5
                  replace p812 := eq_true p812
                  replace q812 := eq_true q812
                  try go_wp2_with (first | ((with_reducible refine gate_dst (N := 4) rfl ?_); refine box_event ?hg (N := 4) ?hd (cs := #[.string (⟨#[]⟩ : ByteArray), .int .i64 0, .int .i64 0, .int .i64 0, .int .i64 0, .int .i64 0]) (t := 95) ?hr ?_; (case hd => rfl); (case hg => rfl); (case hr => first | (go_simp; done) | (go_simp; rfl)); intro gb813 hg w23 hbox hb; have n0_ := Aside0.mk (below_step (by repeat (first | (with_reducible first | exact HB.out | apply below_alloc | apply pw_below_drewN | apply below_drew1) | exact HB.out)) hb); have n1_ := Aside0.mk (hbox); have n2_ := Aside0.mk ((by rw [hg]; exact (below_size (by repeat (first | (with_reducible first | exact HB.out | apply below_alloc | apply pw_below_drewN | apply below_drew1) | exact HB.out))) : w.heap.size ≤ gb813)); have n3_ := Aside0.mk ((by rw [hg]; exact (below_size (by repeat (first | (with_reducible first | exact HB.out | apply below_alloc | apply pw_below_drewN | apply below_drew1) | exact HB.out))) : w.heap.size ≤ gb813)); clear HB; have HB := n0_; have BK813 := n1_; have GW813 := n2_; have GE813 := n3_; clear n0_ n1_ n2_ n3_; clear hb hbox hg; have hcz24_0 : w23.cell? ⟨gb813, 0, none⟩ = some (.string (⟨#[]⟩ : ByteArray)) := (blk_cell BK813.out 0).trans rfl; have hcz24_1 : w23.cell? ⟨gb813, 1, none⟩ = some (.int .i64 0) := (blk_cell BK813.out 1).trans rfl; have hcz24_2 : w23.cell? ⟨gb813, 2, none⟩ = some (.int .i64 0) := (blk_cell BK813.out 2).trans rfl; have hcz24_3 : w23.cell? ⟨gb813, 3, none⟩ = some (.int .i64 0) := (blk_cell BK813.out 3).trans rfl; have hcz24_4 : w23.cell? ⟨gb813, 4, none⟩ = some (.int .i64 0) := (blk_cell BK813.out 4).trans rfl; have hcz24_5 : w23.cell? ⟨gb813, 5, none⟩ = some (.int .i64 0) := (blk_cell BK813.out 5).trans rfl; have hfz24_0 := blk_frozen BK813.out 0; have hfz24_1 := blk_frozen BK813.out 1; have hfz24_2 := blk_frozen BK813.out 2; have hfz24_3 := blk_frozen BK813.out 3; have hfz24_4 := blk_frozen BK813.out 4; have hfz24_5 := blk_frozen BK813.out 5))
                  have n0_ : Aside0 (((((((w23.setCell ⟨gb813, 0, none⟩ (.string ((rd_T95 l0 x10_1).f0))).setCell ⟨gb813, 1, none⟩ (.int .i64 ((rd_T95 l0 x10_1).f1))).setCell ⟨gb813, 2, none⟩ (.int .i64 ((rd_T95 l0 x10_1).f2))).setCell ⟨gb813, 3, none⟩ (.int .i64 ((rd_T95 l0 x10_1).f3))).setCell ⟨gb813, 4, none⟩ (.int .i64 ((rd_T95 l0 x10_1).f4))).setCell ⟨gb813, 5, none⟩ (.int .i64 ((rd_T95 l0 x10_1).f5))).heap[gb813]? = some (.cells #[.string ((rd_T95 l0 x10_1).f0), .int .i64 ((rd_T95 l0 x10_1).f1), .int .i64 ((rd_T95 l0 x10_1).f2), .int .i64 ((rd_T95 l0 x10_1).f3), .int .i64 ((rd_T95 l0 x10_1).f4), .int .i64 ((rd_T95 l0 x10_1).f5)] 95 (0, 0))) := ⟨by (with_reducible repeat (first | refine blk_drewN ?_ _ | refine blk_drew ?_ | refine blk_alloc ?_ _)); refine blk_put (cs := #[.string ((rd_T95 l0 x10_1).f0), .int .i64 ((rd_T95 l0 x10_1).f1), .int .i64 ((rd_T95 l0 x10_1).f2), .int .i64 ((rd_T95 l0 x10_1).f3), .int .i64 ((rd_T95 l0 x10_1).f4), .int .i64 0]) ?_ 5 _ rfl; (with_reducible repeat (first | refine blk_drewN ?_ _ | refine blk_drew ?_ | refine blk_alloc ?_ _)); refine blk_put (cs := #[.string ((rd_T95 l0 x10_1).f0), .int .i64 ((rd_T95 l0 x10_1).f1), .int .i64 ((rd_T95 l0 x10_1).f2), .int .i64 ((rd_T95 l0 x10_1).f3), .int .i64 0, .int .i64 0]) ?_ 4 _ rfl; (with_reducible repeat (first | refine blk_drewN ?_ _ | refine blk_drew ?_ | refine blk_alloc ?_ _)); refine blk_put (cs := #[.string ((rd_T95 l0 x10_1).f0), .int .i64 ((rd_T95 l0 x10_1).f1), .int .i64 ((rd_T95 l0 x10_1).f2), .int .i64 0, .int .i64 0, .int .i64 0]) ?_ 3 _ rfl; (with_reducible repeat (first | refine blk_drewN ?_ _ | refine blk_drew ?_ | refine blk_alloc ?_ _)); refine blk_put (cs := #[.string ((rd_T95 l0 x10_1).f0), .int .i64 ((rd_T95 l0 x10_1).f1), .int .i64 0, .int .i64 0, .int .i64 0, .int .i64 0]) ?_ 2 _ rfl; (with_reducible repeat (first | refine blk_drewN ?_ _ | refine blk_drew ?_ | refine blk_alloc ?_ _)); refine blk_put (cs := #[.string ((rd_T95 l0 x10_1).f0), .int .i64 0, .int .i64 0, .int .i64 0, .int .i64 0, .int .i64 0]) ?_ 1 _ rfl; (with_reducible repeat (first | refine blk_drewN ?_ _ | refine blk_drew ?_ | refine blk_alloc ?_ _)); refine blk_put (cs := #[.string (⟨#[]⟩ : ByteArray), .int .i64 0, .int .i64 0, .int .i64 0, .int .i64 0, .int .i64 0]) ?_ 0 _ rfl; (with_reducible repeat (first | refine blk_drewN ?_ _ | refine blk_drew ?_ | refine blk_alloc ?_ _)); exact BK813.out⟩
                  have n1_ : Aside0 (Below w.heap.size w ((((((w23.setCell ⟨gb813, 0, none⟩ (.string ((rd_T95 l0 x10_1).f0))).setCell ⟨gb813, 1, none⟩ (.int .i64 ((rd_T95 l0 x10_1).f1))).setCell ⟨gb813, 2, none⟩ (.int .i64 ((rd_T95 l0 x10_1).f2))).setCell ⟨gb813, 3, none⟩ (.int .i64 ((rd_T95 l0 x10_1).f3))).setCell ⟨gb813, 4, none⟩ (.int .i64 ((rd_T95 l0 x10_1).f4))).setCell ⟨gb813, 5, none⟩ (.int .i64 ((rd_T95 l0 x10_1).f5)))) := ⟨by repeat (first | (with_reducible first | exact HB.out | apply below_alloc | apply pw_below_drewN | apply below_drew1 | refine below_set ?_ GE813.out) | exact HB.out)⟩
                  (try clear BK813)
                  (try clear HB)
                  generalize ((((((w23.setCell ⟨gb813, 0, none⟩ (.string ((rd_T95 l0 x10_1).f0))).setCell ⟨gb813, 1, none⟩ (.int .i64 ((rd_T95 l0 x10_1).f1))).setCell ⟨gb813, 2, none⟩ (.int .i64 ((rd_T95 l0 x10_1).f2))).setCell ⟨gb813, 3, none⟩ (.int .i64 ((rd_T95 l0 x10_1).f3))).setCell ⟨gb813, 4, none⟩ (.int .i64 ((rd_T95 l0 x10_1).f4))).setCell ⟨gb813, 5, none⟩ (.int .i64 ((rd_T95 l0 x10_1).f5))) = w25 at n0_ n1_ ⊢
                  have BK813 := n0_
                  have HB := n1_
                  clear n0_ n1_
                  have n0_ := Aside0.mk (blk_drew BK813.out)
                  have n1_ := Aside0.mk (below_drew1 HB.out)
                  clear BK813
                  clear HB
                  have BK813 := n0_
                  have HB := n1_
                  clear n0_ n1_
                  refine start_ (n := 18) (S := fun w' => w'.cell? ⟨gb813, 0, none⟩ = some (.string ((rd_T95 l0 x10_1).f0)) ∧ w'.cell? ⟨gb813, 1, none⟩ = some (.int .i64 ((rd_T95 l0 x10_1).f1)) ∧ w'.cell? ⟨gb813, 2, none⟩ = some (.int .i64 ((rd_T95 l0 x10_1).f2)) ∧ w'.cell? ⟨gb813, 3, none⟩ = some (.int .i64 ((rd_T95 l0 x10_1).f3)) ∧ w'.cell? ⟨gb813, 4, none⟩ = some (.int .i64 ((rd_T95 l0 x10_1).f4)) ∧ w'.cell? ⟨gb813, 5, none⟩ = some (.int .i64 ((rd_T95 l0 x10_1).f5))) (ds := []) #[false, false, false, false, false, false, false, false, false, false, false, false, false, false, false, false, false, false] (by kernel_rfl) rfl rfl ⟨(blk_cell BK813.out 0).trans rfl, (blk_cell BK813.out 1).trans rfl, (blk_cell BK813.out 2).trans rfl, (blk_cell BK813.out 3).trans rfl, (blk_cell BK813.out 4).trans rfl, (blk_cell BK813.out 5).trans rfl⟩ (fun hHeld => ?_); refine with_tabW impl_ValidItems.tab6 impl_ValidItems.bits6 (fun HT_ HW_ => ?_)
                  generalize w25.drew = w26 at BK813 HB hHeld ⊢
                  refine take_ (i := 0) (N := some 15) (v := ?_) (a' := ?_) #[true, false, false, false, false, false, false, false, false, false, false, false, false, false, false, false, false, false] rfl rfl (take_ofW HT_.out HW_.out (by kernel_rfl)) (fun _ _ _ h => h) (Or.inl ⟨by rfl, ?_⟩) hHeld ?_ ?_
                  rotate_left
                  · rintro w' ⟨s0, s1, s2, s3, s4, s5⟩
                    go_simp
                    with_reducible rfl
                  rotate_left
                  · simp only [Act.put, List.setIfInBounds_toArray, List.set_cons_zero, List.set_cons_succ, i64_w, i32_w]
                    rfl
                  refine one_ (i := 1) (N := some 16) #[true, true, false, false, false, false, false, false, false, false, false, false, false, false, false, false, false, false] rfl rfl (one_of HT_.out (by kernel_rfl)) (by decide) (fun K hK => ?_)
                  refine goes_ Try.func105 (by kernel_rfl) rfl #[.agg #[.string ((rd_T95 l0 x10_1).f0), .int .i64 ((rd_T95 l0 x10_1).f1), .int .i64 ((rd_T95 l0 x10_1).f2), .int .i64 ((rd_T95 l0 x10_1).f3), .int .i64 ((rd_T95 l0 x10_1).f4), .int .i64 ((rd_T95 l0 x10_1).f5)]] (by rfl) rfl rfl (by (try simp only [List.map_toArray, List.map_cons, List.map_nil]); first | done | rfl | (simp only [List.length_drop, List.length_take]; rfl)) ?_
                  with_reducible refine (impl_ValidItem.calls k1 ((rd_T95 l0 x10_1).f0) ((rd_T95 l0 x10_1).f1) ((rd_T95 l0 x10_1).f2) ((rd_T95 l0 x10_1).f3) ((rd_T95 l0 x10_1).f4) ((rd_T95 l0 x10_1).f5) true _ A6.out).mono ?_
                  rintro e w27 ⟨rfl, hb⟩
                  refine ⟨_, rfl, ?_⟩
                  have n0_ := Aside0.mk (blk_below (g := gb813) (o := .cells #[.string ((rd_T95 l0 x10_1).f0), .int .i64 ((rd_T95 l0 x10_1).f1), .int .i64 ((rd_T95 l0 x10_1).f2), .int .i64 ((rd_T95 l0 x10_1).f3), .int .i64 ((rd_T95 l0 x10_1).f4), .int .i64 ((rd_T95 l0 x10_1).f5)] 95 (0, 0)) (by (with_reducible repeat (first | refine blk_drewN ?_ _ | refine blk_drew ?_ | refine blk_alloc ?_ _)); exact BK813.out) hb)
                  have n1_ := Aside0.mk (below_step (by repeat (first | (with_reducible first | exact HB.out | apply below_alloc | apply pw_below_drewN | apply below_drew1 | refine below_set ?_ GE813.out) | exact HB.out)) hb)
                  clear BK813
                  clear HB
                  have BK813 := n0_
                  have HB := n1_
                  clear n0_ n1_
                  (try clear hb)
                  (try clear hb2)
                  (try clear hk)
                  (try clear hi)
                  refine hK.out _ _ ⟨(blk_cell BK813.out 0).trans rfl, (blk_cell BK813.out 1).trans rfl, (blk_cell BK813.out 2).trans rfl, (blk_cell BK813.out 3).trans rfl, (blk_cell BK813.out 4).trans rfl, (blk_cell BK813.out 5).trans rfl⟩ (fun hHeld => ?_)
                  clear hK K
                  refine norm_ (a' := ?_) ?_ ?_
                  rotate_left
                  · show Act.put _ (some 16) _ = _
                    simp only [Act.put, List.setIfInBounds_toArray, List.set_cons_zero, List.set_cons_succ, i64_w, i32_w]
                    rfl
                  refine pure_ (i := 2) (N := some 17) (v := ?_) (a' := ?_) #[true, true, true, false, false, false, false, false, false, false, false, false, false, false, false, false, false, false] rfl rfl (any_of HT_.out (by kernel_rfl)) (fun _ _ _ h => h) (Or.inl ⟨by rfl, ?_⟩) ?_ ?_
                  rotate_left
                  · intro w'
                    go_simp
                    with_reducible rfl
                  rotate_left
                  · simp only [Act.put, List.setIfInBounds_toArray, List.set_cons_zero, List.set_cons_succ, i64_w, i32_w]
                    rfl
                  refine pure_ (i := 3) (N := some 18) (v := ?_) (a' := ?_) #[true, true, true, true, false, false, false, false, false, false, false, false, false, false, false, false, false, false] rfl rfl (any_of HT_.out (by kernel_rfl)) (fun _ _ _ h => h) (Or.inl ⟨by rfl, ?_⟩) ?_ ?_
                  rotate_left
                  · intro w'
                    go_simp
                    with_reducible rfl
                  rotate_left
                  · simp only [Act.put, List.setIfInBounds_toArray, List.set_cons_zero, List.set_cons_succ, i64_w, i32_w]
                    rfl
                  refine pure_ (i := 4) (N := some 19) (v := ?_) (a' := ?_) #[true, true, true, true, true, false, false, false, false, false, false, false, false, false, false, false, false, false] rfl rfl (any_of HT_.out (by kernel_rfl)) (fun _ _ _ h => h) (Or.inl ⟨by rfl, ?_⟩) ?_ ?_
                  rotate_left
                  · intro w'
                    go_simp
                    with_reducible rfl
                  rotate_left
                  · simp only [Act.put, List.setIfInBounds_toArray, List.set_cons_zero, List.set_cons_succ, i64_w, i32_w]
                    rfl
                  refine pure_ (i := 5) (N := some 20) (v := ?_) (a' := ?_) #[true, true, true, true, true, true, false, false, false, false, false, false, false, false, false, false, false, false] rfl rfl (any_of HT_.out (by kernel_rfl)) (fun _ _ _ h => h) (Or.inl ⟨by rfl, ?_⟩) ?_ ?_
                  rotate_left
                  · intro w'
                    go_simp
                    with_reducible rfl
                  rotate_left
                  · simp only [Act.put, List.setIfInBounds_toArray, List.set_cons_zero, List.set_cons_succ, i64_w, i32_w]
                    rfl
                  refine pure_ (i := 6) (N := some 21) (v := ?_) (a' := ?_) #[true, true, true, true, true, true, true, false, false, false, false, false, false, false, false, false, false, false] rfl rfl (any_of HT_.out (by kernel_rfl)) (fun _ _ _ h => h) (Or.inl ⟨by rfl, ?_⟩) ?_ ?_
                  rotate_left
                  · intro w'
                    go_simp
                    with_reducible rfl
                  rotate_left
                  · simp only [Act.put, List.setIfInBounds_toArray, List.set_cons_zero, List.set_cons_succ, i64_w, i32_w]
                    rfl
                  refine pure_ (i := 7) (N := some 22) (v := undef) (a' := ?_) #[true, true, true, true, true, true, true, true, false, false, false, false, false, false, false, false, false, false] rfl rfl (any_of HT_.out (by kernel_rfl)) (fun _ _ _ h => h) (Or.inr ⟨by rfl, rfl⟩) ?_ ?_
                  rotate_left
                  · simp only [Act.put, List.setIfInBounds_toArray, List.set_cons_zero, List.set_cons_succ, i64_w, i32_w]
                    rfl
                  refine pure_ (i := 8) (N := some 23) (v := undef) (a' := ?_) #[true, true, true, true, true, true, true, true, true, false, false, false, false, false, false, false, false, false] rfl rfl (any_of HT_.out (by kernel_rfl)) (fun _ _ _ h => h) (Or.inr ⟨by rfl, rfl⟩) ?_ ?_
                  rotate_left
                  · simp only [Act.put, List.setIfInBounds_toArray, List.set_cons_zero, List.set_cons_succ, i64_w, i32_w]
                    rfl
                  refine pure_ (i := 9) (N := some 24) (v := undef) (a' := ?_) #[true, true, true, true, true, true, true, true, true, true, false, false, false, false, false, false, false, false] rfl rfl (any_of HT_.out (by kernel_rfl)) (fun _ _ _ h => h) (Or.inr ⟨by rfl, rfl⟩) ?_ ?_
                  rotate_left
                  · simp only [Act.put, List.setIfInBounds_toArray, List.set_cons_zero, List.set_cons_succ, i64_w, i32_w]
                    rfl
                  refine pure_ (i := 10) (N := some 25) (v := undef) (a' := ?_) #[true, true, true, true, true, true, true, true, true, true, true, false, false, false, false, false, false, false] rfl rfl (any_of HT_.out (by kernel_rfl)) (fun _ _ _ h => h) (Or.inr ⟨by rfl, rfl⟩) ?_ ?_
                  rotate_left
                  · simp only [Act.put, List.setIfInBounds_toArray, List.set_cons_zero, List.set_cons_succ, i64_w, i32_w]
                    rfl
                  refine pure_ (i := 11) (N := some 26) (v := undef) (a' := ?_) #[true, true, true, true, true, true, true, true, true, true, true, true, false, false, false, false, false, false] rfl rfl (any_of HT_.out (by kernel_rfl)) (fun _ _ _ h => h) (Or.inr ⟨by rfl, rfl⟩) ?_ ?_
                  rotate_left
                  · simp only [Act.put, List.setIfInBounds_toArray, List.set_cons_zero, List.set_cons_succ, i64_w, i32_w]
                    rfl
                  refine pure_ (i := 12) (N := some 27) (v := undef) (a' := ?_) #[true, true, true, true, true, true, true, true, true, true, true, true, true, false, false, false, false, false] rfl rfl (any_of HT_.out (by kernel_rfl)) (fun _ _ _ h => h) (Or.inr ⟨by rfl, rfl⟩) ?_ ?_
                  rotate_left
                  · simp only [Act.put, List.setIfInBounds_toArray, List.set_cons_zero, List.set_cons_succ, i64_w, i32_w]
                    rfl
                  refine pure_ (i := 13) (N := some 28) (v := undef) (a' := ?_) #[true, true, true, true, true, true, true, true, true, true, true, true, true, true, false, false, false, false] rfl rfl (any_of HT_.out (by kernel_rfl)) (fun _ _ _ h => h) (Or.inr ⟨by rfl, rfl⟩) ?_ ?_
                  rotate_left
                  · simp only [Act.put, List.setIfInBounds_toArray, List.set_cons_zero, List.set_cons_succ, i64_w, i32_w]
                    rfl
                  refine pure_ (i := 14) (N := some 29) (v := undef) (a' := ?_) #[true, true, true, true, true, true, true, true, true, true, true, true, true, true, true, false, false, false] rfl rfl (any_of HT_.out (by kernel_rfl)) (fun _ _ _ h => h) (Or.inr ⟨by rfl, rfl⟩) ?_ ?_
                  rotate_left
                  · simp only [Act.put, List.setIfInBounds_toArray, List.set_cons_zero, List.set_cons_succ, i64_w, i32_w]
                    rfl
                  refine pure_ (i := 15) (N := some 30) (v := undef) (a' := ?_) #[true, true, true, true, true, true, true, true, true, true, true, true, true, true, true, true, false, false] rfl rfl (any_of HT_.out (by kernel_rfl)) (fun _ _ _ h => h) (Or.inr ⟨by rfl, rfl⟩) ?_ ?_
                  rotate_left
                  · simp only [Act.put, List.setIfInBounds_toArray, List.set_cons_zero, List.set_cons_succ, i64_w, i32_w]
                    rfl
                  refine pure_ (i := 16) (N := some 31) (v := ?_) (a' := ?_) #[true, true, true, true, true, true, true, true, true, true, true, true, true, true, true, true, true, false] rfl rfl (any_of HT_.out (by kernel_rfl)) (fun _ _ _ h => h) (Or.inl ⟨by rfl, ?_⟩) ?_ ?_
                  rotate_left
                  · intro w'
                    go_simp
                    with_reducible rfl
                  rotate_left
                  · simp only [Act.put, List.setIfInBounds_toArray, List.set_cons_zero, List.set_cons_succ, i64_w, i32_w]
                    rfl
                  refine pure_ (i := 17) (N := some 32) (v := ?_) (a' := ?_) #[true, true, true, true, true, true, true, true, true, true, true, true, true, true, true, true, true, true] rfl rfl (any_of HT_.out (by kernel_rfl)) (fun _ _ _ h => h) (Or.inl ⟨by rfl, ?_⟩) ?_ ?_
                  rotate_left
                  · intro w'
                    go_simp
                    with_reducible rfl
                  rotate_left
                  · simp only [Act.put, List.setIfInBounds_toArray, List.set_cons_zero, List.set_cons_succ, i64_w, i32_w]
                    rfl
                  refine done_ (done_of HT_.out (by kernel_rfl)) ?_
                  try go_wp2
                  go_roundg k1
                  case measure => have := HK1.out; omega
                  case rel => exact ⟨(wrap64 (x10_1 + 1)), (by first | rfl | (simp; done) | (simp [*]; done)), H', ⟨by have := HK1.out; omega⟩, ⟨by repeat (first | (with_reducible first | exact HB.out | apply below_alloc | apply pw_below_drewN | apply below_drew1 | refine below_set ?_ GE813.out) | exact HB.out)⟩⟩
              · replace c7 := Bool.eq_false_iff.mpr c7
                subst c7
                have H1 : (some false) = some r := by rw [if_neg (show ¬ (false = true) by decide)] at H; exact H
                clear H
                have H := H1
                clear H1
                obtain rfl := Option.some.inj H
                have p812 : 0 ≤ (x10_1 : Int) := of_decide_eq_true (by first | (with_reducible assumption) | assumption)
                have q812 : x10_1 < (l0.length : Int) := of_decide_eq_true (by first | (with_reducible assumption) | assumption)
                obtain ⟨ad812, e812, hx812_0, hx812_1, hx812_2, hx812_3, hx812_4, hx812_5⟩ := at_T95 HR0.out x10_1 p812 q812
                cases e812
                replace hx812_0 := (HB.out.cell (World.block_lt_of_cell? w _ hx812_0)).trans hx812_0
                replace hx812_1 := (HB.out.cell (World.block_lt_of_cell? w _ hx812_1)).trans hx812_1
                replace hx812_2 := (HB.out.cell (World.block_lt_of_cell? w _ hx812_2)).trans hx812_2
                replace hx812_3 := (HB.out.cell (World.block_lt_of_cell? w _ hx812_3)).trans hx812_3
                replace hx812_4 := (HB.out.cell (World.block_lt_of_cell? w _ hx812_4)).trans hx812_4
                replace hx812_5 := (HB.out.cell (World.block_lt_of_cell? w _ hx812_5)).trans hx812_5
                replace p812 := eq_true p812
                replace q812 := eq_true q812
                try go_wp2_with (first | ((with_reducible refine gate_dst (N := 4) rfl ?_); refine box_event ?hg (N := 4) ?hd (cs := #[.string (⟨#[]⟩ : ByteArray), .int .i64 0, .int .i64 0, .int .i64 0, .int .i64 0, .int .i64 0]) (t := 95) ?hr ?_; (case hd => rfl); (case hg => rfl); (case hr => first | (go_simp; done) | (go_simp; rfl)); intro gb813 hg w28 hbox hb; have n0_ := Aside0.mk (below_step (by repeat (first | (with_reducible first | exact HB.out | apply below_alloc | apply pw_below_drewN | apply below_drew1) | exact HB.out)) hb); have n1_ := Aside0.mk (hbox); have n2_ := Aside0.mk ((by rw [hg]; exact (below_size (by repeat (first | (with_reducible first | exact HB.out | apply below_alloc | apply pw_below_drewN | apply below_drew1) | exact HB.out))) : w.heap.size ≤ gb813)); have n3_ := Aside0.mk ((by rw [hg]; exact (below_size (by repeat (first | (with_reducible first | exact HB.out | apply below_alloc | apply pw_below_drewN | apply below_drew1) | exact HB.out))) : w.heap.size ≤ gb813)); clear HB; have HB := n0_; have BK813 := n1_; have GW813 := n2_; have GE813 := n3_; clear n0_ n1_ n2_ n3_; clear hb hbox hg; have hcz29_0 : w28.cell? ⟨gb813, 0, none⟩ = some (.string (⟨#[]⟩ : ByteArray)) := (blk_cell BK813.out 0).trans rfl; have hcz29_1 : w28.cell? ⟨gb813, 1, none⟩ = some (.int .i64 0) := (blk_cell BK813.out 1).trans rfl; have hcz29_2 : w28.cell? ⟨gb813, 2, none⟩ = some (.int .i64 0) := (blk_cell BK813.out 2).trans rfl; have hcz29_3 : w28.cell? ⟨gb813, 3, none⟩ = some (.int .i64 0) := (blk_cell BK813.out 3).trans rfl; have hcz29_4 : w28.cell? ⟨gb813, 4, none⟩ = some (.int .i64 0) := (blk_cell BK813.out 4).trans rfl; have hcz29_5 : w28.cell? ⟨gb813, 5, none⟩ = some (.int .i64 0) := (blk_cell BK813.out 5).trans rfl; have hfz29_0 := blk_frozen BK813.out 0; have hfz29_1 := blk_frozen BK813.out 1; have hfz29_2 := blk_frozen BK813.out 2; have hfz29_3 := blk_frozen BK813.out 3; have hfz29_4 := blk_frozen BK813.out 4; have hfz29_5 := blk_frozen BK813.out 5))
                have n0_ : Aside0 (((((((w28.setCell ⟨gb813, 0, none⟩ (.string ((rd_T95 l0 x10_1).f0))).setCell ⟨gb813, 1, none⟩ (.int .i64 ((rd_T95 l0 x10_1).f1))).setCell ⟨gb813, 2, none⟩ (.int .i64 ((rd_T95 l0 x10_1).f2))).setCell ⟨gb813, 3, none⟩ (.int .i64 ((rd_T95 l0 x10_1).f3))).setCell ⟨gb813, 4, none⟩ (.int .i64 ((rd_T95 l0 x10_1).f4))).setCell ⟨gb813, 5, none⟩ (.int .i64 ((rd_T95 l0 x10_1).f5))).heap[gb813]? = some (.cells #[.string ((rd_T95 l0 x10_1).f0), .int .i64 ((rd_T95 l0 x10_1).f1), .int .i64 ((rd_T95 l0 x10_1).f2), .int .i64 ((rd_T95 l0 x10_1).f3), .int .i64 ((rd_T95 l0 x10_1).f4), .int .i64 ((rd_T95 l0 x10_1).f5)] 95 (0, 0))) := ⟨by (with_reducible repeat (first | refine blk_drewN ?_ _ | refine blk_drew ?_ | refine blk_alloc ?_ _)); refine blk_put (cs := #[.string ((rd_T95 l0 x10_1).f0), .int .i64 ((rd_T95 l0 x10_1).f1), .int .i64 ((rd_T95 l0 x10_1).f2), .int .i64 ((rd_T95 l0 x10_1).f3), .int .i64 ((rd_T95 l0 x10_1).f4), .int .i64 0]) ?_ 5 _ rfl; (with_reducible repeat (first | refine blk_drewN ?_ _ | refine blk_drew ?_ | refine blk_alloc ?_ _)); refine blk_put (cs := #[.string ((rd_T95 l0 x10_1).f0), .int .i64 ((rd_T95 l0 x10_1).f1), .int .i64 ((rd_T95 l0 x10_1).f2), .int .i64 ((rd_T95 l0 x10_1).f3), .int .i64 0, .int .i64 0]) ?_ 4 _ rfl; (with_reducible repeat (first | refine blk_drewN ?_ _ | refine blk_drew ?_ | refine blk_alloc ?_ _)); refine blk_put (cs := #[.string ((rd_T95 l0 x10_1).f0), .int .i64 ((rd_T95 l0 x10_1).f1), .int .i64 ((rd_T95 l0 x10_1).f2), .int .i64 0, .int .i64 0, .int .i64 0]) ?_ 3 _ rfl; (with_reducible repeat (first | refine blk_drewN ?_ _ | refine blk_drew ?_ | refine blk_alloc ?_ _)); refine blk_put (cs := #[.string ((rd_T95 l0 x10_1).f0), .int .i64 ((rd_T95 l0 x10_1).f1), .int .i64 0, .int .i64 0, .int .i64 0, .int .i64 0]) ?_ 2 _ rfl; (with_reducible repeat (first | refine blk_drewN ?_ _ | refine blk_drew ?_ | refine blk_alloc ?_ _)); refine blk_put (cs := #[.string ((rd_T95 l0 x10_1).f0), .int .i64 0, .int .i64 0, .int .i64 0, .int .i64 0, .int .i64 0]) ?_ 1 _ rfl; (with_reducible repeat (first | refine blk_drewN ?_ _ | refine blk_drew ?_ | refine blk_alloc ?_ _)); refine blk_put (cs := #[.string (⟨#[]⟩ : ByteArray), .int .i64 0, .int .i64 0, .int .i64 0, .int .i64 0, .int .i64 0]) ?_ 0 _ rfl; (with_reducible repeat (first | refine blk_drewN ?_ _ | refine blk_drew ?_ | refine blk_alloc ?_ _)); exact BK813.out⟩
                have n1_ : Aside0 (Below w.heap.size w ((((((w28.setCell ⟨gb813, 0, none⟩ (.string ((rd_T95 l0 x10_1).f0))).setCell ⟨gb813, 1, none⟩ (.int .i64 ((rd_T95 l0 x10_1).f1))).setCell ⟨gb813, 2, none⟩ (.int .i64 ((rd_T95 l0 x10_1).f2))).setCell ⟨gb813, 3, none⟩ (.int .i64 ((rd_T95 l0 x10_1).f3))).setCell ⟨gb813, 4, none⟩ (.int .i64 ((rd_T95 l0 x10_1).f4))).setCell ⟨gb813, 5, none⟩ (.int .i64 ((rd_T95 l0 x10_1).f5)))) := ⟨by repeat (first | (with_reducible first | exact HB.out | apply below_alloc | apply pw_below_drewN | apply below_drew1 | refine below_set ?_ GE813.out) | exact HB.out)⟩
                (try clear BK813)
                (try clear HB)
                generalize ((((((w28.setCell ⟨gb813, 0, none⟩ (.string ((rd_T95 l0 x10_1).f0))).setCell ⟨gb813, 1, none⟩ (.int .i64 ((rd_T95 l0 x10_1).f1))).setCell ⟨gb813, 2, none⟩ (.int .i64 ((rd_T95 l0 x10_1).f2))).setCell ⟨gb813, 3, none⟩ (.int .i64 ((rd_T95 l0 x10_1).f3))).setCell ⟨gb813, 4, none⟩ (.int .i64 ((rd_T95 l0 x10_1).f4))).setCell ⟨gb813, 5, none⟩ (.int .i64 ((rd_T95 l0 x10_1).f5))) = w30 at n0_ n1_ ⊢
                have BK813 := n0_
                have HB := n1_
                clear n0_ n1_
                have n0_ := Aside0.mk (blk_drew BK813.out)
                have n1_ := Aside0.mk (below_drew1 HB.out)
                clear BK813
                clear HB
                have BK813 := n0_
                have HB := n1_
                clear n0_ n1_
                refine start_ (n := 18) (S := fun w' => w'.cell? ⟨gb813, 0, none⟩ = some (.string ((rd_T95 l0 x10_1).f0)) ∧ w'.cell? ⟨gb813, 1, none⟩ = some (.int .i64 ((rd_T95 l0 x10_1).f1)) ∧ w'.cell? ⟨gb813, 2, none⟩ = some (.int .i64 ((rd_T95 l0 x10_1).f2)) ∧ w'.cell? ⟨gb813, 3, none⟩ = some (.int .i64 ((rd_T95 l0 x10_1).f3)) ∧ w'.cell? ⟨gb813, 4, none⟩ = some (.int .i64 ((rd_T95 l0 x10_1).f4)) ∧ w'.cell? ⟨gb813, 5, none⟩ = some (.int .i64 ((rd_T95 l0 x10_1).f5))) (ds := []) #[false, false, false, false, false, false, false, false, false, false, false, false, false, false, false, false, false, false] (by kernel_rfl) rfl rfl ⟨(blk_cell BK813.out 0).trans rfl, (blk_cell BK813.out 1).trans rfl, (blk_cell BK813.out 2).trans rfl, (blk_cell BK813.out 3).trans rfl, (blk_cell BK813.out 4).trans rfl, (blk_cell BK813.out 5).trans rfl⟩ (fun hHeld => ?_); refine with_tabW impl_ValidItems.tab6 impl_ValidItems.bits6 (fun HT_ HW_ => ?_)
                generalize w30.drew = w31 at BK813 HB hHeld ⊢
                refine take_ (i := 0) (N := some 15) (v := ?_) (a' := ?_) #[true, false, false, false, false, false, false, false, false, false, false, false, false, false, false, false, false, false] rfl rfl (take_ofW HT_.out HW_.out (by kernel_rfl)) (fun _ _ _ h => h) (Or.inl ⟨by rfl, ?_⟩) hHeld ?_ ?_
                rotate_left
                · rintro w' ⟨s0, s1, s2, s3, s4, s5⟩
                  go_simp
                  with_reducible rfl
                rotate_left
                · simp only [Act.put, List.setIfInBounds_toArray, List.set_cons_zero, List.set_cons_succ, i64_w, i32_w]
                  rfl
                refine one_ (i := 1) (N := some 16) #[true, true, false, false, false, false, false, false, false, false, false, false, false, false, false, false, false, false] rfl rfl (one_of HT_.out (by kernel_rfl)) (by decide) (fun K hK => ?_)
                refine goes_ Try.func105 (by kernel_rfl) rfl #[.agg #[.string ((rd_T95 l0 x10_1).f0), .int .i64 ((rd_T95 l0 x10_1).f1), .int .i64 ((rd_T95 l0 x10_1).f2), .int .i64 ((rd_T95 l0 x10_1).f3), .int .i64 ((rd_T95 l0 x10_1).f4), .int .i64 ((rd_T95 l0 x10_1).f5)]] (by rfl) rfl rfl (by (try simp only [List.map_toArray, List.map_cons, List.map_nil]); first | done | rfl | (simp only [List.length_drop, List.length_take]; rfl)) ?_
                with_reducible refine (impl_ValidItem.calls k1 ((rd_T95 l0 x10_1).f0) ((rd_T95 l0 x10_1).f1) ((rd_T95 l0 x10_1).f2) ((rd_T95 l0 x10_1).f3) ((rd_T95 l0 x10_1).f4) ((rd_T95 l0 x10_1).f5) false _ A6.out).mono ?_
                rintro e w32 ⟨rfl, hb⟩
                refine ⟨_, rfl, ?_⟩
                have n0_ := Aside0.mk (blk_below (g := gb813) (o := .cells #[.string ((rd_T95 l0 x10_1).f0), .int .i64 ((rd_T95 l0 x10_1).f1), .int .i64 ((rd_T95 l0 x10_1).f2), .int .i64 ((rd_T95 l0 x10_1).f3), .int .i64 ((rd_T95 l0 x10_1).f4), .int .i64 ((rd_T95 l0 x10_1).f5)] 95 (0, 0)) (by (with_reducible repeat (first | refine blk_drewN ?_ _ | refine blk_drew ?_ | refine blk_alloc ?_ _)); exact BK813.out) hb)
                have n1_ := Aside0.mk (below_step (by repeat (first | (with_reducible first | exact HB.out | apply below_alloc | apply pw_below_drewN | apply below_drew1 | refine below_set ?_ GE813.out) | exact HB.out)) hb)
                clear BK813
                clear HB
                have BK813 := n0_
                have HB := n1_
                clear n0_ n1_
                (try clear hb)
                (try clear hb2)
                (try clear hk)
                (try clear hi)
                refine hK.out _ _ ⟨(blk_cell BK813.out 0).trans rfl, (blk_cell BK813.out 1).trans rfl, (blk_cell BK813.out 2).trans rfl, (blk_cell BK813.out 3).trans rfl, (blk_cell BK813.out 4).trans rfl, (blk_cell BK813.out 5).trans rfl⟩ (fun hHeld => ?_)
                clear hK K
                refine norm_ (a' := ?_) ?_ ?_
                rotate_left
                · show Act.put _ (some 16) _ = _
                  simp only [Act.put, List.setIfInBounds_toArray, List.set_cons_zero, List.set_cons_succ, i64_w, i32_w]
                  rfl
                refine pure_ (i := 2) (N := some 17) (v := ?_) (a' := ?_) #[true, true, true, false, false, false, false, false, false, false, false, false, false, false, false, false, false, false] rfl rfl (any_of HT_.out (by kernel_rfl)) (fun _ _ _ h => h) (Or.inl ⟨by rfl, ?_⟩) ?_ ?_
                rotate_left
                · intro w'
                  go_simp
                  with_reducible rfl
                rotate_left
                · simp only [Act.put, List.setIfInBounds_toArray, List.set_cons_zero, List.set_cons_succ, i64_w, i32_w]
                  rfl
                refine pure_ (i := 3) (N := some 18) (v := ?_) (a' := ?_) #[true, true, true, true, false, false, false, false, false, false, false, false, false, false, false, false, false, false] rfl rfl (any_of HT_.out (by kernel_rfl)) (fun _ _ _ h => h) (Or.inl ⟨by rfl, ?_⟩) ?_ ?_
                rotate_left
                · intro w'
                  go_simp
                  with_reducible rfl
                rotate_left
                · simp only [Act.put, List.setIfInBounds_toArray, List.set_cons_zero, List.set_cons_succ, i64_w, i32_w]
                  rfl
                refine pure_ (i := 4) (N := some 19) (v := undef) (a' := ?_) #[true, true, true, true, true, false, false, false, false, false, false, false, false, false, false, false, false, false] rfl rfl (any_of HT_.out (by kernel_rfl)) (fun _ _ _ h => h) (Or.inr ⟨by rfl, rfl⟩) ?_ ?_
                rotate_left
                · simp only [Act.put, List.setIfInBounds_toArray, List.set_cons_zero, List.set_cons_succ, i64_w, i32_w]
                  rfl
                refine pure_ (i := 5) (N := some 20) (v := undef) (a' := ?_) #[true, true, true, true, true, true, false, false, false, false, false, false, false, false, false, false, false, false] rfl rfl (any_of HT_.out (by kernel_rfl)) (fun _ _ _ h => h) (Or.inr ⟨by rfl, rfl⟩) ?_ ?_
                rotate_left
                · simp only [Act.put, List.setIfInBounds_toArray, List.set_cons_zero, List.set_cons_succ, i64_w, i32_w]
                  rfl
                refine pure_ (i := 6) (N := some 21) (v := undef) (a' := ?_) #[true, true, true, true, true, true, true, false, false, false, false, false, false, false, false, false, false, false] rfl rfl (any_of HT_.out (by kernel_rfl)) (fun _ _ _ h => h) (Or.inr ⟨by rfl, rfl⟩) ?_ ?_
                rotate_left
                · simp only [Act.put, List.setIfInBounds_toArray, List.set_cons_zero, List.set_cons_succ, i64_w, i32_w]
                  rfl
                refine pure_ (i := 7) (N := some 22) (v := undef) (a' := ?_) #[true, true, true, true, true, true, true, true, false, false, false, false, false, false, false, false, false, false] rfl rfl (any_of HT_.out (by kernel_rfl)) (fun _ _ _ h => h) (Or.inr ⟨by rfl, rfl⟩) ?_ ?_
                rotate_left
                · simp only [Act.put, List.setIfInBounds_toArray, List.set_cons_zero, List.set_cons_succ, i64_w, i32_w]
                  rfl
                refine pure_ (i := 8) (N := some 23) (v := undef) (a' := ?_) #[true, true, true, true, true, true, true, true, true, false, false, false, false, false, false, false, false, false] rfl rfl (any_of HT_.out (by kernel_rfl)) (fun _ _ _ h => h) (Or.inr ⟨by rfl, rfl⟩) ?_ ?_
                rotate_left
                · simp only [Act.put, List.setIfInBounds_toArray, List.set_cons_zero, List.set_cons_succ, i64_w, i32_w]
                  rfl
                refine pure_ (i := 9) (N := some 24) (v := undef) (a' := ?_) #[true, true, true, true, true, true, true, true, true, true, false, false, false, false, false, false, false, false] rfl rfl (any_of HT_.out (by kernel_rfl)) (fun _ _ _ h => h) (Or.inr ⟨by rfl, rfl⟩) ?_ ?_
                rotate_left
                · simp only [Act.put, List.setIfInBounds_toArray, List.set_cons_zero, List.set_cons_succ, i64_w, i32_w]
                  rfl
                refine pure_ (i := 10) (N := some 25) (v := undef) (a' := ?_) #[true, true, true, true, true, true, true, true, true, true, true, false, false, false, false, false, false, false] rfl rfl (any_of HT_.out (by kernel_rfl)) (fun _ _ _ h => h) (Or.inr ⟨by rfl, rfl⟩) ?_ ?_
                rotate_left
                · simp only [Act.put, List.setIfInBounds_toArray, List.set_cons_zero, List.set_cons_succ, i64_w, i32_w]
                  rfl
                refine pure_ (i := 11) (N := some 26) (v := undef) (a' := ?_) #[true, true, true, true, true, true, true, true, true, true, true, true, false, false, false, false, false, false] rfl rfl (any_of HT_.out (by kernel_rfl)) (fun _ _ _ h => h) (Or.inr ⟨by rfl, rfl⟩) ?_ ?_
                rotate_left
                · simp only [Act.put, List.setIfInBounds_toArray, List.set_cons_zero, List.set_cons_succ, i64_w, i32_w]
                  rfl
                refine pure_ (i := 12) (N := some 27) (v := undef) (a' := ?_) #[true, true, true, true, true, true, true, true, true, true, true, true, true, false, false, false, false, false] rfl rfl (any_of HT_.out (by kernel_rfl)) (fun _ _ _ h => h) (Or.inr ⟨by rfl, rfl⟩) ?_ ?_
                rotate_left
                · simp only [Act.put, List.setIfInBounds_toArray, List.set_cons_zero, List.set_cons_succ, i64_w, i32_w]
                  rfl
                refine pure_ (i := 13) (N := some 28) (v := undef) (a' := ?_) #[true, true, true, true, true, true, true, true, true, true, true, true, true, true, false, false, false, false] rfl rfl (any_of HT_.out (by kernel_rfl)) (fun _ _ _ h => h) (Or.inr ⟨by rfl, rfl⟩) ?_ ?_
                rotate_left
                · simp only [Act.put, List.setIfInBounds_toArray, List.set_cons_zero, List.set_cons_succ, i64_w, i32_w]
                  rfl
                refine pure_ (i := 14) (N := some 29) (v := undef) (a' := ?_) #[true, true, true, true, true, true, true, true, true, true, true, true, true, true, true, false, false, false] rfl rfl (any_of HT_.out (by kernel_rfl)) (fun _ _ _ h => h) (Or.inr ⟨by rfl, rfl⟩) ?_ ?_
                rotate_left
                · simp only [Act.put, List.setIfInBounds_toArray, List.set_cons_zero, List.set_cons_succ, i64_w, i32_w]
                  rfl
                refine pure_ (i := 15) (N := some 30) (v := undef) (a' := ?_) #[true, true, true, true, true, true, true, true, true, true, true, true, true, true, true, true, false, false] rfl rfl (any_of HT_.out (by kernel_rfl)) (fun _ _ _ h => h) (Or.inr ⟨by rfl, rfl⟩) ?_ ?_
                rotate_left
                · simp only [Act.put, List.setIfInBounds_toArray, List.set_cons_zero, List.set_cons_succ, i64_w, i32_w]
                  rfl
                refine pure_ (i := 16) (N := some 31) (v := undef) (a' := ?_) #[true, true, true, true, true, true, true, true, true, true, true, true, true, true, true, true, true, false] rfl rfl (any_of HT_.out (by kernel_rfl)) (fun _ _ _ h => h) (Or.inr ⟨by rfl, rfl⟩) ?_ ?_
                rotate_left
                · simp only [Act.put, List.setIfInBounds_toArray, List.set_cons_zero, List.set_cons_succ, i64_w, i32_w]
                  rfl
                refine pure_ (i := 17) (N := some 32) (v := ?_) (a' := ?_) #[true, true, true, true, true, true, true, true, true, true, true, true, true, true, true, true, true, true] rfl rfl (any_of HT_.out (by kernel_rfl)) (fun _ _ _ h => h) (Or.inl ⟨by rfl, ?_⟩) ?_ ?_
                rotate_left
                · intro w'
                  go_simp
                  with_reducible rfl
                rotate_left
                · simp only [Act.put, List.setIfInBounds_toArray, List.set_cons_zero, List.set_cons_succ, i64_w, i32_w]
                  rfl
                refine done_ (done_of HT_.out (by kernel_rfl)) ?_
                try go_wp2
                go_ret
                exact ⟨by first | rfl | (simp [errW_none, errW_some] <;> rfl) | (simp [*, errW_none, errW_some] <;> rfl), by repeat (first | (with_reducible first | exact HB.out | apply below_alloc | apply pw_below_drewN | apply below_drew1 | refine below_set ?_ GE813.out) | exact HB.out)⟩
            · rw [if_neg c5] at H
              exact absurd H (by simp)
          · rw [if_neg c4] at H
            exact absurd H (by simp)
        · rw [if_neg c3] at H
          have c3b0 : decide (x10_1 < (l0.length : Int)) = false := decide_eq_false c3
          clear c3
          obtain rfl := Option.some.inj H
          go_wp2
          go_ret
          exact ⟨by first | rfl | (simp [errW_none, errW_some] <;> rfl) | (simp [*, errW_none, errW_some] <;> rfl), by repeat (first | (with_reducible first | exact HB.out | apply below_alloc | apply pw_below_drewN | apply below_drew1) | exact HB.out)⟩

end Go.Proofs.Ythpcepojkhjlfaa.P
end

section
namespace Go.Proofs.Ythpcepojkhjlfaa.P
open Go.RowKit Go.Proofs.YthpcepojkhjlfaaW.PrintWords Go.Proofs.YthpcepojkhjlfaaW.PrintLast Go.Proofs.YthpcepojkhjlfaaW.PrintMore
attribute [local go_sem] max2_int min2_int max_two min_two max_three min_three max_four min_four   -- for this text's walks alone
set_option linter.unusedVariables false
set_option linter.unusedSimpArgs false
/-! ### pre_dn: function 90 (given) -/
theorem dN1 {w : World} {a b : Nat} : (w.drewN a).drewN b = w.drewN (a + b) := World.drewN_drewN _ _ _
theorem dN2 {w : World} {a b c : Nat} : (w.drewN (a + b)).drewN c = w.drewN (a + (b + c)) := Eq.trans (World.drewN_drewN _ _ _) (congrArg (World.drewN _) (Nat.add_assoc _ _ _))
abbrev y_ : Bool := true
abbrev n_ : Bool := false
/-! ### impl_FittingAt: function 51 -/
def impl_FittingAt.l0 : Nat → Int → Int → List Int → List (S95) → Int → Int → Option (List Int × Int)
  | 0, _, _, _, _, _, _ => none
  | k + 1, x1, x2, x8, x24, x25, x26 => if x26 < x25 then (if 0 ≤ x26 then (if x26 < (x24.length : Int) then ((impl_Item_fits.f k ((rd_T95 x24 x26).f0) ((rd_T95 x24 x26).f1) ((rd_T95 x24 x26).f2) ((rd_T95 x24 x26).f3) ((rd_T95 x24 x26).f4) ((rd_T95 x24 x26).f5) x1 x2).bind fun t823 => (if t823 = true then (if x8.length < 17592186044416 then (impl_FittingAt.l0 k x1 x2 (x8 ++ [x26]) x24 x25 (wrap64 (x26 + 1))) else (none)) else (impl_FittingAt.l0 k x1 x2 x8 x24 x25 (wrap64 (x26 + 1))))) else (none)) else (none)) else (some (x8, 0))
def impl_FittingAt.f (k : Nat) (l0 : List (S95)) (a1 : Int) (a2 : Int) : Option (List Int × Int) := (impl_ValidItems.f k l0).bind fun t818 => (if t818 = true then ((impl_minuteOk.f a1).bind fun t819 => (if t819 = true then ((impl_seasonOk.f a2).bind fun t820 => (if t820 = true then (impl_FittingAt.l0 k a1 a2 ([] : List Int) l0 (l0.length : Int) 0) else (some (([] : List Int), 2)))) else (some (([] : List Int), 2)))) else (some (([] : List Int), 1)))
theorem impl_FittingAt.mono_l : ∀ k, (∀ y0 y1 y2 y3 y4 y5, LeO (impl_FittingAt.l0 k y0 y1 y2 y3 y4 y5) (impl_FittingAt.l0 (k + 1) y0 y1 y2 y3 y4 y5))
  | 0 => fun _ _ _ _ _ _ r h => by simp [impl_FittingAt.l0] at h
  | k + 1 => by
    have ih0 := impl_FittingAt.mono_l k
    · intro y0 y1 y2 y3 y4 y5
      unfold impl_FittingAt.l0
      repeat' first
      | (with_reducible exact ih0 _ _ _ _ _ _)
      | (with_reducible exact impl_Item_fits.mono _ _ _ _ _ _ _ _ _)
      | (with_reducible exact impl_ValidItems.mono _ _)
      | (with_reducible exact LeO.refl _)
      | (with_reducible exact LeO.none _)
      | (with_reducible refine LeO.ite ?_ ?_)
      | (with_reducible refine LeO.bind ?_ (fun _ => ?_))
      | exact ih0 _ _ _ _ _ _
      | exact impl_Item_fits.mono _ _ _ _ _ _ _ _ _
      | exact impl_ValidItems.mono _ _
      | exact LeO.none _
      | refine LeO.ite ?_ ?_
      | refine LeO.bind ?_ (fun _ => ?_)
theorem impl_FittingAt.mono : ∀ a0 a1 a2 k, LeO (impl_FittingAt.f k a0 a1 a2) (impl_FittingAt.f (k + 1) a0 a1 a2) := by
  intro a0 a1 a2 k
  have ih0 := impl_FittingAt.mono_l k
  unfold impl_FittingAt.f
  repeat' first
      | (with_reducible exact ih0 _ _ _ _ _ _)
      | (with_reducible exact impl_Item_fits.mono _ _ _ _ _ _ _ _ _)
      | (with_reducible exact impl_ValidItems.mono _ _)
      | (with_reducible exact LeO.refl _)
      | (with_reducible exact LeO.none _)
      | (with_reducible refine LeO.ite ?_ ?_)
      | (with_reducible refine LeO.bind ?_ (fun _ => ?_))
      | exact ih0 _ _ _ _ _ _
      | exact impl_Item_fits.mono _ _ _ _ _ _ _ _ _
      | exact impl_ValidItems.mono _ _
      | exact LeO.none _
      | refine LeO.ite ?_ ?_
      | refine LeO.bind ?_ (fun _ => ?_)
set_option maxHeartbeats 8000000 in
set_option maxRecDepth 100000 in
theorem impl_FittingAt.calls (k : Nat) (A0 : Option Addr) (c0 : Nat) (l0 : List (S95)) (a1 : Int) (a2 : Int) (r1 : List Int) (r2 : Int) (w : World) (hr0 : Kd.C k95 w A0 l0.length l0) (hc0 : l0.length ≤ c0) (h : impl_FittingAt.f k l0 a1 a2 = some (r1, r2)) :
    Calls Try.prog 51 #[.slice A0 l0.length c0, .int .i64 a1, .int .i64 a2] w fun e w' => ∃ v0_ : Value, e = .returned (.tuple #[v0_, .int .i64 r2]) ∧ Kd.R (Kd.int .i64) 2 w' w.heap.size (fun _ => True) v0_ r1 ∧ Below w.heap.size w w' := by
  have hu95 := Try.underlying95
  have HR0 := Aside0.mk hr0
  have HC0 := Aside0.mk hc0
  clear hr0 hc0
  have HB := Aside0.mk (Below.refl w.heap.size w)
  have H : ((impl_ValidItems.f k l0).bind fun t818 => (if t818 = true then ((impl_minuteOk.f a1).bind fun t819 => (if t819 = true then ((impl_seasonOk.f a2).bind fun t820 => (if t820 = true then (impl_FittingAt.l0 k a1 a2 ([] : List Int) l0 (l0.length : Int) 0) else (some (([] : List Int), 2)))) else (some (([] : List Int), 2)))) else (some (([] : List Int), 1)))) = some (r1, r2) := h
  clear h
  replace H := Option.bind_eq_some_iff.mp H
  obtain ⟨t818, A40, H⟩ := H
  replace H : (if t818 = true then ((impl_minuteOk.f a1).bind fun t819 => (if t819 = true then ((impl_seasonOk.f a2).bind fun t820 => (if t820 = true then (impl_FittingAt.l0 k a1 a2 ([] : List Int) l0 (l0.length : Int) 0) else (some (([] : List Int), 2)))) else (some (([] : List Int), 2)))) else (some (([] : List Int), 1))) = some (r1, r2) := H
  have A4 := Aside0.mk A40
  clear A40
  by_cases c5 : t818 = true
  · subst c5
    have H1 : ((impl_minuteOk.f a1).bind fun t819 => (if t819 = true then ((impl_seasonOk.f a2).bind fun t820 => (if t820 = true then (impl_FittingAt.l0 k a1 a2 ([] : List Int) l0 (l0.length : Int) 0) else (some (([] : List Int), 2)))) else (some (([] : List Int), 2)))) = some (r1, r2) := by rw [if_pos rfl] at H; exact H
    clear H
    have H := H1
    clear H1
    replace H := Option.bind_eq_some_iff.mp H
    obtain ⟨t819, A60, H⟩ := H
    replace H : (if t819 = true then ((impl_seasonOk.f a2).bind fun t820 => (if t820 = true then (impl_FittingAt.l0 k a1 a2 ([] : List Int) l0 (l0.length : Int) 0) else (some (([] : List Int), 2)))) else (some (([] : List Int), 2))) = some (r1, r2) := H
    have A6 := Aside0.mk A60
    clear A60
    by_cases c7 : t819 = true
    · subst c7
      have H1 : ((impl_seasonOk.f a2).bind fun t820 => (if t820 = true then (impl_FittingAt.l0 k a1 a2 ([] : List Int) l0 (l0.length : Int) 0) else (some (([] : List Int), 2)))) = some (r1, r2) := by rw [if_pos rfl] at H; exact H
      clear H
      have H := H1
      clear H1
      replace H := Option.bind_eq_some_iff.mp H
      obtain ⟨t820, A80, H⟩ := H
      replace H : (if t820 = true then (impl_FittingAt.l0 k a1 a2 ([] : List Int) l0 (l0.length : Int) 0) else (some (([] : List Int), 2))) = some (r1, r2) := H
      have A8 := Aside0.mk A80
      clear A80
      by_cases c9 : t820 = true
      · subst c9
        have H1 : (impl_FittingAt.l0 k a1 a2 ([] : List Int) l0 (l0.length : Int) 0) = some (r1, r2) := by rw [if_pos rfl] at H; exact H
        clear H
        have H := H1
        clear H1
        have H' := Aside0.mk H
        clear H
        go_enter Try.func51, Try.ntmps51
        go_wp2_with (first | ((with_reducible refine gate_callee (f := 87) rfl ?_); refine goesL_ (some 13) rfl rfl Try.func87 (by kernel_rfl) rfl #[.slice A0 l0.length c0] rfl (by (try simp only [List.map_toArray, List.map_cons, List.map_nil]); first | done | rfl | (simp only [List.length_drop, List.length_take]; rfl)) ?_; (with_reducible refine (impl_ValidItems.calls k _ _ l0 true _ ?side1 ?side2 A4.out).mono ?_); (case side1 => repeat (first | exact HR0.out | (with_reducible refine Kd.C_alloc ?_ _) | (with_reducible refine Kd.C_drewN ?_ _) | (with_reducible refine Kd.C_drew ?_))); (case side2 => exact HC0.out); rintro e w10 ⟨rfl, hb⟩; refine ⟨_, rfl, ?_⟩; have n0_ := Aside0.mk (below_step (by repeat (first | (with_reducible first | exact HB.out | apply below_alloc | apply pw_below_drewN | apply below_drew1) | exact HB.out)) hb); clear HB; have HB := n0_; clear n0_; (try clear hb); (try clear hb2); (try clear hk); (try clear hi)) | ((with_reducible refine gate_callee (f := 88) rfl ?_); refine goesL_ (some 17) rfl rfl Try.func88 (by kernel_rfl) rfl #[.int .i64 a1] rfl (by (try simp only [List.map_toArray, List.map_cons, List.map_nil]); first | done | rfl | (simp only [List.length_drop, List.length_take]; rfl)) ?_; (with_reducible refine (impl_minuteOk.calls a1 true _ A6.out).mono ?_); rintro e w' ⟨rfl, ⟨nd, rfl⟩⟩; refine ⟨_, rfl, ?_⟩) | (go_at_call 89; (with_reducible refine (impl_seasonOk.calls a2 true _ A8.out).mono ?_); rintro e w' ⟨rfl, ⟨nd, rfl⟩⟩))
        go_loopg [8, 26] k (fun kq v8 v26 w' => ∃ (x8_1 : List Int) (x26_1 : Int), v26 = .int .i64 x26_1 ∧ Aside0 (impl_FittingAt.l0 kq a1 a2 x8_1 l0 (l0.length : Int) x26_1 = some (r1, r2)) ∧ Aside0 (kq ≤ k) ∧ Aside0 (Kd.R (Kd.int .i64) 2 w' w.heap.size (fun _ => True) v8 x8_1) ∧ Aside0 (Below w.heap.size w w'))
        case atStart => exact ⟨(([] : List Int)), (0), (by first | rfl | (simp; done) | (simp [*]; done)), H', ⟨Nat.le_refl _⟩, ⟨by first | exact Kd.R_nil _ _ _ _ _ | exact Kd.N_nil _ _ _ _ _ | exact Kd.V_nil _ _ _ _ _ | exact Kd.Q_nil _ _ _ _ _ | exact Kd.S_nil _ _ _ _ _⟩, ⟨by repeat (first | (with_reducible first | exact HB.out | apply below_alloc | apply pw_below_drewN | apply below_drew1) | exact HB.out)⟩⟩
        case round =>
          clear H'
          try clear p2
          try clear c5
          try clear c7
          try clear c8
          try clear c9
          obtain ⟨x8_1, x26_1, rfl, HA, HK1, HO_8, HB⟩ := hrel
          cases gk with
          | zero => exact absurd HA.out (by simp [impl_FittingAt.l0])
          | succ k1 =>
            have H := HA.out
            clear HA
            simp only [impl_FittingAt.l0] at H
            by_cases c11 : x26_1 < (l0.length : Int)
            · rw [if_pos c11] at H
              have c11b0 : decide (x26_1 < (l0.length : Int)) = true := decide_eq_true c11
              clear c11
              by_cases c12 : 0 ≤ x26_1
              · rw [if_pos c12] at H
                have c12b0 : decide (0 ≤ x26_1) = true := decide_eq_true c12
                clear c12
                by_cases c13 : x26_1 < (l0.length : Int)
                · rw [if_pos c13] at H
                  have c13b0 : decide (x26_1 < (l0.length : Int)) = true := decide_eq_true c13
                  clear c13
                  replace H := Option.bind_eq_some_iff.mp H
                  obtain ⟨t823, A140, H⟩ := H
                  replace H : (if t823 = true then (if x8_1.length < 17592186044416 then (impl_FittingAt.l0 k1 a1 a2 (x8_1 ++ [x26_1]) l0 (l0.length : Int) (wrap64 (x26_1 + 1))) else (none)) else (impl_FittingAt.l0 k1 a1 a2 x8_1 l0 (l0.length : Int) (wrap64 (x26_1 + 1)))) = some (r1, r2) := H
                  have A14 := Aside0.mk A140
                  clear A140
                  by_cases c15 : t823 = true
                  · subst c15
                    have H1 : (if x8_1.length < 17592186044416 then (impl_FittingAt.l0 k1 a1 a2 (x8_1 ++ [x26_1]) l0 (l0.length : Int) (wrap64 (x26_1 + 1))) else (none)) = some (r1, r2) := by rw [if_pos rfl] at H; exact H
                    clear H
                    have H := H1
                    clear H1
                    by_cases c16 : x8_1.length < 17592186044416
                    · rw [if_pos c16] at H
                      have LMc16 := Aside0.mk c16
                      clear c16
                      obtain ⟨y824, hy824⟩ : ∃ y_ : List Int, y_ = (x8_1 ++ [x26_1]) := ⟨_, rfl⟩
                      replace H : (impl_FittingAt.l0 k1 a1 a2 y824 l0 (l0.length : Int) (wrap64 (x26_1 + 1))) = some (r1, r2) := by first | (rw [hy824]; with_reducible exact H) | (have H2_ := (Option.bind_some _ _).symm.trans H; rw [hy824]; with_reducible exact H2_) | (have H2_ := (Option.bind_some _ _).symm.trans H; with_reducible exact H2_) | with_reducible exact H | (rw [hy824]; exact H) | exact H
                      have Ny824 := Aside0.mk hy824
                      clear hy824
                      have H' := Aside0.mk H
                      clear H
                      have p821 : 0 ≤ (x26_1 : Int) := of_decide_eq_true (by first | (with_reducible assumption) | assumption)
                      have q821 : x26_1 < (l0.length : Int) := of_decide_eq_true (by first | (with_reducible assumption) | assumption)
                      obtain ⟨ad821, e821, hx821_0, hx821_1, hx821_2, hx821_3, hx821_4, hx821_5⟩ := at_T95 HR0.out x26_1 p821 q821
                      cases e821
                      replace hx821_0 := (HB.out.cell (World.block_lt_of_cell? w _ hx821_0)).trans hx821_0
                      replace hx821_1 := (HB.out.cell (World.block_lt_of_cell? w _ hx821_1)).trans hx821_1
                      replace hx821_2 := (HB.out.cell (World.block_lt_of_cell? w _ hx821_2)).trans hx821_2
                      replace hx821_3 := (HB.out.cell (World.block_lt_of_cell? w _ hx821_3)).trans hx821_3
                      replace hx821_4 := (HB.out.cell (World.block_lt_of_cell? w _ hx821_4)).trans hx821_4
                      replace hx821_5 := (HB.out.cell (World.block_lt_of_cell? w _ hx821_5)).trans hx821_5
                      replace p821 := eq_true p821
                      replace q821 := eq_true q821
                      go_wp2_with (first | ((with_reducible refine gate_dst (N := 10) rfl ?_); refine box_event ?hg (N := 10) ?hd (cs := #[.string (⟨#[]⟩ : ByteArray), .int .i64 0, .int .i64 0, .int .i64 0, .int .i64 0, .int .i64 0]) (t := 95) ?hr ?_; (case hd => rfl); (case hg => rfl); (case hr => first | (go_simp; done) | (go_simp; rfl)); intro gb822 hg w17 hbox hb; have n0_ := Aside0.mk (Kd.R_below (by (with_reducible repeat (first | apply Kd.R_alloc | apply Kd.R_drewN | apply Kd.R_drew)); exact HO_8.out) hb); have n1_ := Aside0.mk (below_step (by repeat (first | (with_reducible first | exact HB.out | apply below_alloc | apply pw_below_drewN | apply below_drew1) | exact HB.out)) hb); have n2_ := Aside0.mk (hbox); have n3_ := Aside0.mk ((by rw [hg]; exact (below_size (by repeat (first | (with_reducible first | exact HB.out | apply below_alloc | apply pw_below_drewN | apply below_drew1) | exact HB.out))) : w.heap.size ≤ gb822)); have n4_ := Aside0.mk ((by rw [hg]; exact (below_size (by repeat (first | (with_reducible first | exact HB.out | apply below_alloc | apply pw_below_drewN | apply below_drew1) | exact HB.out))) : w.heap.size ≤ gb822)); clear HO_8; clear HB; have HO_8 := n0_; have HB := n1_; have BK822 := n2_; have GW822 := n3_; have GE822 := n4_; clear n0_ n1_ n2_ n3_ n4_; clear hb hbox hg; have hcz18_0 : w17.cell? ⟨gb822, 0, none⟩ = some (.string (⟨#[]⟩ : ByteArray)) := (blk_cell BK822.out 0).trans rfl; have hcz18_1 : w17.cell? ⟨gb822, 1, none⟩ = some (.int .i64 0) := (blk_cell BK822.out 1).trans rfl; have hcz18_2 : w17.cell? ⟨gb822, 2, none⟩ = some (.int .i64 0) := (blk_cell BK822.out 2).trans rfl; have hcz18_3 : w17.cell? ⟨gb822, 3, none⟩ = some (.int .i64 0) := (blk_cell BK822.out 3).trans rfl; have hcz18_4 : w17.cell? ⟨gb822, 4, none⟩ = some (.int .i64 0) := (blk_cell BK822.out 4).trans rfl; have hcz18_5 : w17.cell? ⟨gb822, 5, none⟩ = some (.int .i64 0) := (blk_cell BK822.out 5).trans rfl; have hfz18_0 := blk_frozen BK822.out 0; have hfz18_1 := blk_frozen BK822.out 1; have hfz18_2 := blk_frozen BK822.out 2; have hfz18_3 := blk_frozen BK822.out 3; have hfz18_4 := blk_frozen BK822.out 4; have hfz18_5 := blk_frozen BK822.out 5) | ((with_reducible refine gate_callee (f := 90) rfl ?_); refine goesL_ (some 34) rfl rfl Try.func90 (by kernel_rfl) rfl #[.agg #[.string ((rd_T95 l0 x26_1).f0), .int .i64 ((rd_T95 l0 x26_1).f1), .int .i64 ((rd_T95 l0 x26_1).f2), .int .i64 ((rd_T95 l0 x26_1).f3), .int .i64 ((rd_T95 l0 x26_1).f4), .int .i64 ((rd_T95 l0 x26_1).f5)], .int .i64 a1, .int .i64 a2] rfl (by (try simp only [List.map_toArray, List.map_cons, List.map_nil]); first | done | rfl | (simp only [List.length_drop, List.length_take]; rfl)) ?_; (with_reducible refine (impl_Item_fits.calls k1 ((rd_T95 l0 x26_1).f0) ((rd_T95 l0 x26_1).f1) ((rd_T95 l0 x26_1).f2) ((rd_T95 l0 x26_1).f3) ((rd_T95 l0 x26_1).f4) ((rd_T95 l0 x26_1).f5) a1 a2 true _ A14.out).mono ?_); rintro e w19 ⟨rfl, hb⟩; refine ⟨_, rfl, ?_⟩; have n0_ := Aside0.mk (Kd.R_below (by (with_reducible repeat (first | apply Kd.R_alloc | apply Kd.R_drewN | apply Kd.R_drew)); exact (Kd.R_mono (Kd.R_far (p := ⟨gb822, 5, none⟩) (Kd.R_far (p := ⟨gb822, 4, none⟩) (Kd.R_far (p := ⟨gb822, 3, none⟩) (Kd.R_far (p := ⟨gb822, 2, none⟩) (Kd.R_far (p := ⟨gb822, 1, none⟩) (Kd.R_far (p := ⟨gb822, 0, none⟩) (Kd.R_types HO_8.out BK822.out (by decide)) (fun _ hk => hk.2) (.string ((rd_T95 l0 x26_1).f0))) (fun _ hk => hk.2) (.int .i64 ((rd_T95 l0 x26_1).f1))) (fun _ hk => hk.2) (.int .i64 ((rd_T95 l0 x26_1).f2))) (fun _ hk => hk.2) (.int .i64 ((rd_T95 l0 x26_1).f3))) (fun _ hk => hk.2) (.int .i64 ((rd_T95 l0 x26_1).f4))) (fun _ hk => hk.2) (.int .i64 ((rd_T95 l0 x26_1).f5))) (fun _ h_ => h_.1))) hb); have n1_ := Aside0.mk (blk_below (g := gb822) (o := .cells #[.string ((rd_T95 l0 x26_1).f0), .int .i64 ((rd_T95 l0 x26_1).f1), .int .i64 ((rd_T95 l0 x26_1).f2), .int .i64 ((rd_T95 l0 x26_1).f3), .int .i64 ((rd_T95 l0 x26_1).f4), .int .i64 ((rd_T95 l0 x26_1).f5)] 95 (0, 0)) (by (with_reducible repeat (first | refine blk_drewN ?_ _ | refine blk_drew ?_ | refine blk_alloc ?_ _)); refine blk_put (cs := #[.string ((rd_T95 l0 x26_1).f0), .int .i64 ((rd_T95 l0 x26_1).f1), .int .i64 ((rd_T95 l0 x26_1).f2), .int .i64 ((rd_T95 l0 x26_1).f3), .int .i64 ((rd_T95 l0 x26_1).f4), .int .i64 0]) ?_ 5 _ rfl; (with_reducible repeat (first | refine blk_drewN ?_ _ | refine blk_drew ?_ | refine blk_alloc ?_ _)); refine blk_put (cs := #[.string ((rd_T95 l0 x26_1).f0), .int .i64 ((rd_T95 l0 x26_1).f1), .int .i64 ((rd_T95 l0 x26_1).f2), .int .i64 ((rd_T95 l0 x26_1).f3), .int .i64 0, .int .i64 0]) ?_ 4 _ rfl; (with_reducible repeat (first | refine blk_drewN ?_ _ | refine blk_drew ?_ | refine blk_alloc ?_ _)); refine blk_put (cs := #[.string ((rd_T95 l0 x26_1).f0), .int .i64 ((rd_T95 l0 x26_1).f1), .int .i64 ((rd_T95 l0 x26_1).f2), .int .i64 0, .int .i64 0, .int .i64 0]) ?_ 3 _ rfl; (with_reducible repeat (first | refine blk_drewN ?_ _ | refine blk_drew ?_ | refine blk_alloc ?_ _)); refine blk_put (cs := #[.string ((rd_T95 l0 x26_1).f0), .int .i64 ((rd_T95 l0 x26_1).f1), .int .i64 0, .int .i64 0, .int .i64 0, .int .i64 0]) ?_ 2 _ rfl; (with_reducible repeat (first | refine blk_drewN ?_ _ | refine blk_drew ?_ | refine blk_alloc ?_ _)); refine blk_put (cs := #[.string ((rd_T95 l0 x26_1).f0), .int .i64 0, .int .i64 0, .int .i64 0, .int .i64 0, .int .i64 0]) ?_ 1 _ rfl; (with_reducible repeat (first | refine blk_drewN ?_ _ | refine blk_drew ?_ | refine blk_alloc ?_ _)); refine blk_put (cs := #[.string (⟨#[]⟩ : ByteArray), .int .i64 0, .int .i64 0, .int .i64 0, .int .i64 0, .int .i64 0]) ?_ 0 _ rfl; (with_reducible repeat (first | refine blk_drewN ?_ _ | refine blk_drew ?_ | refine blk_alloc ?_ _)); exact BK822.out) hb); have n2_ := Aside0.mk (below_step (by repeat (first | (with_reducible first | exact HB.out | apply below_alloc | apply pw_below_drewN | apply below_drew1 | refine below_set ?_ GE822.out) | exact HB.out)) hb); clear HO_8; clear BK822; clear HB; have HO_8 := n0_; have BK822 := n1_; have HB := n2_; clear n0_ n1_ n2_; (try clear hb); (try clear hb2); (try clear hk); (try clear hi)) | ((with_reducible refine gate_builtin (b := .append) (xs := #[.tmp 35, .tmp 37]) rfl ?_); at_builtin; refine Kd.R_append (Kd.int .i64) (w0 := w) w.heap.size rfl (.tmp 35) (.tmp 37) 22 2 (.int .i64 0) 8 rfl Try.underlying22 info2 rfl (by decide) (by omega) u8 x8_1 x26_1 [.int .i64 x26_1] (fun _ => True) (fun _ => False) rfl rfl ?aP (fun _ hk => hk.elim) ?aF ?aO ?aB ?aS ?aL ?_; (case aP => exact rfl); (case aB => exact (by repeat (first | (with_reducible first | exact HB.out | apply below_alloc | apply pw_below_drewN | apply below_drew1 | refine below_set ?_ GE822.out) | exact HB.out))); (case aF => exact (fun _ _ => trivial)); (case aO => exact (by (with_reducible repeat (first | apply Kd.R_alloc | apply Kd.R_drewN | apply Kd.R_drew)); exact HO_8.out)); (case aS => exact (below_size (by repeat (first | (with_reducible first | exact HB.out | apply below_alloc | apply pw_below_drewN | apply below_drew1 | refine below_set ?_ GE822.out) | exact HB.out)))); (case aL => have := LMc16.out; omega); intro v825 w20 ho hb hg hat; rw [← Ny824.out] at ho; have n0_ := Aside0.mk (blk_grown (g := gb822) (o := .cells #[.string ((rd_T95 l0 x26_1).f0), .int .i64 ((rd_T95 l0 x26_1).f1), .int .i64 ((rd_T95 l0 x26_1).f2), .int .i64 ((rd_T95 l0 x26_1).f3), .int .i64 ((rd_T95 l0 x26_1).f4), .int .i64 ((rd_T95 l0 x26_1).f5)] 95 (0, 0)) (by (with_reducible repeat (first | refine blk_drewN ?_ _ | refine blk_drew ?_ | refine blk_alloc ?_ _)); exact BK822.out) hg (Kd.R_ne HO_8.out BK822.out (by decide))); have n1_ := Aside0.mk (hb); have n2_ := Aside0.mk (ho); clear BK822; clear HB; clear HO_8; have BK822 := n0_; have HB := n1_; have HO826 := n2_; clear n0_ n1_ n2_; clear ho hb hg hat))
                      go_roundg k1
                      case measure => have := HK1.out; omega
                      case rel => exact ⟨(y824), (wrap64 (x26_1 + 1)), (by first | rfl | (simp; done) | (simp [*]; done)), H', ⟨by have := HK1.out; omega⟩, ⟨by (with_reducible repeat (first | apply Kd.R_alloc | apply Kd.R_drewN | apply Kd.R_drew)); exact HO826.out⟩, ⟨by repeat (first | (with_reducible first | exact HB.out | apply below_alloc | apply pw_below_drewN | apply below_drew1 | refine below_set ?_ GE822.out) | exact HB.out)⟩⟩
                    · rw [if_neg c16] at H
                      exact absurd H (by simp)
                  · replace c15 := Bool.eq_false_iff.mpr c15
                    subst c15
                    have H1 : (impl_FittingAt.l0 k1 a1 a2 x8_1 l0 (l0.length : Int) (wrap64 (x26_1 + 1))) = some (r1, r2) := by rw [if_neg (show ¬ (false = true) by decide)] at H; exact H
                    clear H
                    have H := H1
                    clear H1
                    have H' := Aside0.mk H
                    clear H
                    have p821 : 0 ≤ (x26_1 : Int) := of_decide_eq_true (by first | (with_reducible assumption) | assumption)
                    have q821 : x26_1 < (l0.length : Int) := of_decide_eq_true (by first | (with_reducible assumption) | assumption)
                    obtain ⟨ad821, e821, hx821_0, hx821_1, hx821_2, hx821_3, hx821_4, hx821_5⟩ := at_T95 HR0.out x26_1 p821 q821
                    cases e821
                    replace hx821_0 := (HB.out.cell (World.block_lt_of_cell? w _ hx821_0)).trans hx821_0
                    replace hx821_1 := (HB.out.cell (World.block_lt_of_cell? w _ hx821_1)).trans hx821_1
                    replace hx821_2 := (HB.out.cell (World.block_lt_of_cell? w _ hx821_2)).trans hx821_2
                    replace hx821_3 := (HB.out.cell (World.block_lt_of_cell? w _ hx821_3)).trans hx821_3
                    replace hx821_4 := (HB.out.cell (World.block_lt_of_cell? w _ hx821_4)).trans hx821_4
                    replace hx821_5 := (HB.out.cell (World.block_lt_of_cell? w _ hx821_5)).trans hx821_5
                    replace p821 := eq_true p821
                    replace q821 := eq_true q821
                    go_wp2_with (first | ((with_reducible refine gate_dst (N := 10) rfl ?_); refine box_event ?hg (N := 10) ?hd (cs := #[.string (⟨#[]⟩ : ByteArray), .int .i64 0, .int .i64 0, .int .i64 0, .int .i64 0, .int .i64 0]) (t := 95) ?hr ?_; (case hd => rfl); (case hg => rfl); (case hr => first | (go_simp; done) | (go_simp; rfl)); intro gb822 hg w21 hbox hb; have n0_ := Aside0.mk (Kd.R_below (by (with_reducible repeat (first | apply Kd.R_alloc | apply Kd.R_drewN | apply Kd.R_drew)); exact HO_8.out) hb); have n1_ := Aside0.mk (below_step (by repeat (first | (with_reducible first | exact HB.out | apply below_alloc | apply pw_below_drewN | apply below_drew1) | exact HB.out)) hb); have n2_ := Aside0.mk (hbox); have n3_ := Aside0.mk ((by rw [hg]; exact (below_size (by repeat (first | (with_reducible first | exact HB.out | apply below_alloc | apply pw_below_drewN | apply below_drew1) | exact HB.out))) : w.heap.size ≤ gb822)); have n4_ := Aside0.mk ((by rw [hg]; exact (below_size (by repeat (first | (with_reducible first | exact HB.out | apply below_alloc | apply pw_below_drewN | apply below_drew1) | exact HB.out))) : w.heap.size ≤ gb822)); clear HO_8; clear HB; have HO_8 := n0_; have HB := n1_; have BK822 := n2_; have GW822 := n3_; have GE822 := n4_; clear n0_ n1_ n2_ n3_ n4_; clear hb hbox hg; have hcz22_0 : w21.cell? ⟨gb822, 0, none⟩ = some (.string (⟨#[]⟩ : ByteArray)) := (blk_cell BK822.out 0).trans rfl; have hcz22_1 : w21.cell? ⟨gb822, 1, none⟩ = some (.int .i64 0) := (blk_cell BK822.out 1).trans rfl; have hcz22_2 : w21.cell? ⟨gb822, 2, none⟩ = some (.int .i64 0) := (blk_cell BK822.out 2).trans rfl; have hcz22_3 : w21.cell? ⟨gb822, 3, none⟩ = some (.int .i64 0) := (blk_cell BK822.out 3).trans rfl; have hcz22_4 : w21.cell? ⟨gb822, 4, none⟩ = some (.int .i64 0) := (blk_cell BK822.out 4).trans rfl; have hcz22_5 : w21.cell? ⟨gb822, 5, none⟩ = some (.int .i64 0) := (blk_cell BK822.out 5).trans rfl; have hfz22_0 := blk_frozen BK822.out 0; have hfz22_1 := blk_frozen BK822.out 1; have hfz22_2 := blk_frozen BK822.out 2; have hfz22_3 := blk_frozen BK822.out 3; have hfz22_4 := blk_frozen BK822.out 4; have hfz22_5 := blk_frozen BK822.out 5) | ((with_reducible refine gate_callee (f := 90) rfl ?_); refine goesL_ (some 34) rfl rfl Try.func90 (by kernel_rfl) rfl #[.agg #[.string ((rd_T95 l0 x26_1).f0), .int .i64 ((rd_T95 l0 x26_1).f1), .int .i64 ((rd_T95 l0 x26_1).f2), .int .i64 ((rd_T95 l0 x26_1).f3), .int .i64 ((rd_T95 l0 x26_1).f4), .int .i64 ((rd_T95 l0 x26_1).f5)], .int .i64 a1, .int .i64 a2] rfl (by (try simp only [List.map_toArray, List.map_cons, List.map_nil]); first | done | rfl | (simp only [List.length_drop, List.length_take]; rfl)) ?_; (with_reducible refine (impl_Item_fits.calls k1 ((rd_T95 l0 x26_1).f0) ((rd_T95 l0 x26_1).f1) ((rd_T95 l0 x26_1).f2) ((rd_T95 l0 x26_1).f3) ((rd_T95 l0 x26_1).f4) ((rd_T95 l0 x26_1).f5) a1 a2 false _ A14.out).mono ?_); rintro e w23 ⟨rfl, hb⟩; refine ⟨_, rfl, ?_⟩; have n0_ := Aside0.mk (Kd.R_below (by (with_reducible repeat (first | apply Kd.R_alloc | apply Kd.R_drewN | apply Kd.R_drew)); exact (Kd.R_mono (Kd.R_far (p := ⟨gb822, 5, none⟩) (Kd.R_far (p := ⟨gb822, 4, none⟩) (Kd.R_far (p := ⟨gb822, 3, none⟩) (Kd.R_far (p := ⟨gb822, 2, none⟩) (Kd.R_far (p := ⟨gb822, 1, none⟩) (Kd.R_far (p := ⟨gb822, 0, none⟩) (Kd.R_types HO_8.out BK822.out (by decide)) (fun _ hk => hk.2) (.string ((rd_T95 l0 x26_1).f0))) (fun _ hk => hk.2) (.int .i64 ((rd_T95 l0 x26_1).f1))) (fun _ hk => hk.2) (.int .i64 ((rd_T95 l0 x26_1).f2))) (fun _ hk => hk.2) (.int .i64 ((rd_T95 l0 x26_1).f3))) (fun _ hk => hk.2) (.int .i64 ((rd_T95 l0 x26_1).f4))) (fun _ hk => hk.2) (.int .i64 ((rd_T95 l0 x26_1).f5))) (fun _ h_ => h_.1))) hb); have n1_ := Aside0.mk (blk_below (g := gb822) (o := .cells #[.string ((rd_T95 l0 x26_1).f0), .int .i64 ((rd_T95 l0 x26_1).f1), .int .i64 ((rd_T95 l0 x26_1).f2), .int .i64 ((rd_T95 l0 x26_1).f3), .int .i64 ((rd_T95 l0 x26_1).f4), .int .i64 ((rd_T95 l0 x26_1).f5)] 95 (0, 0)) (by (with_reducible repeat (first | refine blk_drewN ?_ _ | refine blk_drew ?_ | refine blk_alloc ?_ _)); refine blk_put (cs := #[.string ((rd_T95 l0 x26_1).f0), .int .i64 ((rd_T95 l0 x26_1).f1), .int .i64 ((rd_T95 l0 x26_1).f2), .int .i64 ((rd_T95 l0 x26_1).f3), .int .i64 ((rd_T95 l0 x26_1).f4), .int .i64 0]) ?_ 5 _ rfl; (with_reducible repeat (first | refine blk_drewN ?_ _ | refine blk_drew ?_ | refine blk_alloc ?_ _)); refine blk_put (cs := #[.string ((rd_T95 l0 x26_1).f0), .int .i64 ((rd_T95 l0 x26_1).f1), .int .i64 ((rd_T95 l0 x26_1).f2), .int .i64 ((rd_T95 l0 x26_1).f3), .int .i64 0, .int .i64 0]) ?_ 4 _ rfl; (with_reducible repeat (first | refine blk_drewN ?_ _ | refine blk_drew ?_ | refine blk_alloc ?_ _)); refine blk_put (cs := #[.string ((rd_T95 l0 x26_1).f0), .int .i64 ((rd_T95 l0 x26_1).f1), .int .i64 ((rd_T95 l0 x26_1).f2), .int .i64 0, .int .i64 0, .int .i64 0]) ?_ 3 _ rfl; (with_reducible repeat (first | refine blk_drewN ?_ _ | refine blk_drew ?_ | refine blk_alloc ?_ _)); refine blk_put (cs := #[.string ((rd_T95 l0 x26_1).f0), .int .i64 ((rd_T95 l0 x26_1).f1), .int .i64 0, .int .i64 0, .int .i64 0, .int .i64 0]) ?_ 2 _ rfl; (with_reducible repeat (first | refine blk_drewN ?_ _ | refine blk_drew ?_ | refine blk_alloc ?_ _)); refine blk_put (cs := #[.string ((rd_T95 l0 x26_1).f0), .int .i64 0, .int .i64 0, .int .i64 0, .int .i64 0, .int .i64 0]) ?_ 1 _ rfl; (with_reducible repeat (first | refine blk_drewN ?_ _ | refine blk_drew ?_ | refine blk_alloc ?_ _)); refine blk_put (cs := #[.string (⟨#[]⟩ : ByteArray), .int .i64 0, .int .i64 0, .int .i64 0, .int .i64 0, .int .i64 0]) ?_ 0 _ rfl; (with_reducible repeat (first | refine blk_drewN ?_ _ | refine blk_drew ?_ | refine blk_alloc ?_ _)); exact BK822.out) hb); have n2_ := Aside0.mk (below_step (by repeat (first | (with_reducible first | exact HB.out | apply below_alloc | apply pw_below_drewN | apply below_drew1 | refine below_set ?_ GE822.out) | exact HB.out)) hb); clear HO_8; clear BK822; clear HB; have HO_8 := n0_; have BK822 := n1_; have HB := n2_; clear n0_ n1_ n2_; (try clear hb); (try clear hb2); (try clear hk); (try clear hi)))
                    go_roundg k1
                    case measure => have := HK1.out; omega
                    case rel => exact ⟨(x8_1), (wrap64 (x26_1 + 1)), (by first | rfl | (simp; done) | (simp [*]; done)), H', ⟨by have := HK1.out; omega⟩, ⟨by (with_reducible repeat (first | apply Kd.R_alloc | apply Kd.R_drewN | apply Kd.R_drew)); exact HO_8.out⟩, ⟨by repeat (first | (with_reducible first | exact HB.out | apply below_alloc | apply pw_below_drewN | apply below_drew1 | refine below_set ?_ GE822.out) | exact HB.out)⟩⟩
                · rw [if_neg c13] at H
                  exact absurd H (by simp)
              · rw [if_neg c12] at H
                exact absurd H (by simp)
            · rw [if_neg c11] at H
              have c11b0 : decide (x26_1 < (l0.length : Int)) = false := decide_eq_false c11
              clear c11
              simp only [Option.some.injEq, Prod.mk.injEq] at H
              obtain ⟨rfl, rfl⟩ := H
              go_wp2
              go_ret2
              exact ⟨_, by first | rfl | (simp [errW_none, errW_some] <;> rfl) | (simp [*, errW_none, errW_some] <;> rfl), by (with_reducible repeat (first | apply Kd.R_alloc | apply Kd.R_drewN | apply Kd.R_drew)); exact HO_8.out, by repeat (first | (with_reducible first | exact HB.out | apply below_alloc | apply pw_below_drewN | apply below_drew1) | exact HB.out)⟩
      · replace c9 := Bool.eq_false_iff.mpr c9
        subst c9
        have H1 : (some (([] : List Int), 2)) = some (r1, r2) := by rw [if_neg (show ¬ (false = true) by decide)] at H; exact H
        clear H
        have H := H1
        clear H1
        simp only [Option.some.injEq, Prod.mk.injEq] at H
        obtain ⟨rfl, rfl⟩ := H
        go_enter Try.func51, Try.ntmps51
        go_wp2_with (first | ((with_reducible refine gate_callee (f := 87) rfl ?_); refine goesL_ (some 13) rfl rfl Try.func87 (by kernel_rfl) rfl #[.slice A0 l0.length c0] rfl (by (try simp only [List.map_toArray, List.map_cons, List.map_nil]); first | done | rfl | (simp only [List.length_drop, List.length_take]; rfl)) ?_; (with_reducible refine (impl_ValidItems.calls k _ _ l0 true _ ?side1 ?side2 A4.out).mono ?_); (case side1 => repeat (first | exact HR0.out | (with_reducible refine Kd.C_alloc ?_ _) | (with_reducible refine Kd.C_drewN ?_ _) | (with_reducible refine Kd.C_drew ?_))); (case side2 => exact HC0.out); rintro e w24 ⟨rfl, hb⟩; refine ⟨_, rfl, ?_⟩; have n0_ := Aside0.mk (below_step (by repeat (first | (with_reducible first | exact HB.out | apply below_alloc | apply pw_below_drewN | apply below_drew1) | exact HB.out)) hb); clear HB; have HB := n0_; clear n0_; (try clear hb); (try clear hb2); (try clear hk); (try clear hi)) | ((with_reducible refine gate_callee (f := 88) rfl ?_); refine goesL_ (some 17) rfl rfl Try.func88 (by kernel_rfl) rfl #[.int .i64 a1] rfl (by (try simp only [List.map_toArray, List.map_cons, List.map_nil]); first | done | rfl | (simp only [List.length_drop, List.length_take]; rfl)) ?_; (with_reducible refine (impl_minuteOk.calls a1 true _ A6.out).mono ?_); rintro e w' ⟨rfl, ⟨nd, rfl⟩⟩; refine ⟨_, rfl, ?_⟩) | (go_at_call 89; (with_reducible refine (impl_seasonOk.calls a2 false _ A8.out).mono ?_); rintro e w' ⟨rfl, ⟨nd, rfl⟩⟩))
        go_ret2
        exact ⟨_, by first | rfl | (simp [errW_none, errW_some] <;> rfl) | (simp [*, errW_none, errW_some] <;> rfl), by first | exact Kd.R_nil _ _ _ _ _ | exact Kd.N_nil _ _ _ _ _ | exact Kd.V_nil _ _ _ _ _ | exact Kd.Q_nil _ _ _ _ _ | exact Kd.S_nil _ _ _ _ _, by repeat (first | (with_reducible first | exact HB.out | apply below_alloc | apply pw_below_drewN | apply below_drew1) | exact HB.out)⟩
    · replace c7 := Bool.eq_false_iff.mpr c7
      subst c7
      have H1 : (some (([] : List Int), 2)) = some (r1, r2) := by rw [if_neg (show ¬ (false = true) by decide)] at H; exact H
      clear H
      have H := H1
      clear H1
      simp only [Option.some.injEq, Prod.mk.injEq] at H
      obtain ⟨rfl, rfl⟩ := H
      go_enter Try.func51, Try.ntmps51
      go_wp2_with (first | ((with_reducible refine gate_callee (f := 87) rfl ?_); refine goesL_ (some 13) rfl rfl Try.func87 (by kernel_rfl) rfl #[.slice A0 l0.length c0] rfl (by (try simp only [List.map_toArray, List.map_cons, List.map_nil]); first | done | rfl | (simp only [List.length_drop, List.length_take]; rfl)) ?_; (with_reducible refine (impl_ValidItems.calls k _ _ l0 true _ ?side1 ?side2 A4.out).mono ?_); (case side1 => repeat (first | exact HR0.out | (with_reducible refine Kd.C_alloc ?_ _) | (with_reducible refine Kd.C_drewN ?_ _) | (with_reducible refine Kd.C_drew ?_))); (case side2 => exact HC0.out); rintro e w25 ⟨rfl, hb⟩; refine ⟨_, rfl, ?_⟩; have n0_ := Aside0.mk (below_step (by repeat (first | (with_reducible first | exact HB.out | apply below_alloc | apply pw_below_drewN | apply below_drew1) | exact HB.out)) hb); clear HB; have HB := n0_; clear n0_; (try clear hb); (try clear hb2); (try clear hk); (try clear hi)) | ((with_reducible refine gate_callee (f := 88) rfl ?_); refine goesL_ (some 17) rfl rfl Try.func88 (by kernel_rfl) rfl #[.int .i64 a1] rfl (by (try simp only [List.map_toArray, List.map_cons, List.map_nil]); first | done | rfl | (simp only [List.length_drop, List.length_take]; rfl)) ?_; (with_reducible refine (impl_minuteOk.calls a1 false _ A6.out).mono ?_); rintro e w' ⟨rfl, ⟨nd, rfl⟩⟩; refine ⟨_, rfl, ?_⟩))
      go_ret2
      exact ⟨_, by first | rfl | (simp [errW_none, errW_some] <;> rfl) | (simp [*, errW_none, errW_some] <;> rfl), by first | exact Kd.R_nil _ _ _ _ _ | exact Kd.N_nil _ _ _ _ _ | exact Kd.V_nil _ _ _ _ _ | exact Kd.Q_nil _ _ _ _ _ | exact Kd.S_nil _ _ _ _ _, by repeat (first | (with_reducible first | exact HB.out | apply below_alloc | apply pw_below_drewN | apply below_drew1) | exact HB.out)⟩
  · replace c5 := Bool.eq_false_iff.mpr c5
    subst c5
    have H1 : (some (([] : List Int), 1)) = some (r1, r2) := by rw [if_neg (show ¬ (false = true) by decide)] at H; exact H
    clear H
    have H := H1
    clear H1
    simp only [Option.some.injEq, Prod.mk.injEq] at H
    obtain ⟨rfl, rfl⟩ := H
    go_enter Try.func51, Try.ntmps51
    go_wp2_with (first | ((with_reducible refine gate_callee (f := 87) rfl ?_); refine goesL_ (some 13) rfl rfl Try.func87 (by kernel_rfl) rfl #[.slice A0 l0.length c0] rfl (by (try simp only [List.map_toArray, List.map_cons, List.map_nil]); first | done | rfl | (simp only [List.length_drop, List.length_take]; rfl)) ?_; (with_reducible refine (impl_ValidItems.calls k _ _ l0 false _ ?side1 ?side2 A4.out).mono ?_); (case side1 => repeat (first | exact HR0.out | (with_reducible refine Kd.C_alloc ?_ _) | (with_reducible refine Kd.C_drewN ?_ _) | (with_reducible refine Kd.C_drew ?_))); (case side2 => exact HC0.out); rintro e w26 ⟨rfl, hb⟩; refine ⟨_, rfl, ?_⟩; have n0_ := Aside0.mk (below_step (by repeat (first | (with_reducible first | exact HB.out | apply below_alloc | apply pw_below_drewN | apply below_drew1) | exact HB.out)) hb); clear HB; have HB := n0_; clear n0_; (try clear hb); (try clear hb2); (try clear hk); (try clear hi)))
    go_ret2
    exact ⟨_, by first | rfl | (simp [errW_none, errW_some] <;> rfl) | (simp [*, errW_none, errW_some] <;> rfl), by first | exact Kd.R_nil _ _ _ _ _ | exact Kd.N_nil _ _ _ _ _ | exact Kd.V_nil _ _ _ _ _ | exact Kd.Q_nil _ _ _ _ _ | exact Kd.S_nil _ _ _ _ _, by repeat (first | (with_reducible first | exact HB.out | apply below_alloc | apply pw_below_drewN | apply below_drew1) | exact HB.out)⟩
/-! ### laws_eqInt64S: function 40 -/
def laws_eqInt64S.l0 : Nat → List Int → List Int → Int → Option (Bool)
  | 0, _, _, _ => none
  | k + 1, x0, x1, x5 => if x5 < (x0.length : Int) then (if 0 ≤ x5 then (if x5 < (x1.length : Int) then (if (rd x0 x5) = (rd x1 x5) then (laws_eqInt64S.l0 k x0 x1 (wrap64 (x5 + 1))) else (some false)) else (none)) else (none)) else (some true)
def laws_eqInt64S.f (k : Nat) (l0 : List Int) (l1 : List Int) : Option (Bool) := if (l0.length : Int) = (l1.length : Int) then (laws_eqInt64S.l0 k l0 l1 0) else (some false)
theorem laws_eqInt64S.mono_l : ∀ k, (∀ y0 y1 y2, LeO (laws_eqInt64S.l0 k y0 y1 y2) (laws_eqInt64S.l0 (k + 1) y0 y1 y2))
  | 0 => fun _ _ _ r h => by simp [laws_eqInt64S.l0] at h
  | k + 1 => by
    have ih0 := laws_eqInt64S.mono_l k
    · intro y0 y1 y2
      unfold laws_eqInt64S.l0
      repeat' first
      | (with_reducible exact ih0 _ _ _)
      | (with_reducible exact LeO.refl _)
      | (with_reducible exact LeO.none _)
      | (with_reducible refine LeO.ite ?_ ?_)
      | (with_reducible refine LeO.bind ?_ (fun _ => ?_))
      | exact ih0 _ _ _
      | exact LeO.none _
      | refine LeO.ite ?_ ?_
      | refine LeO.bind ?_ (fun _ => ?_)
theorem laws_eqInt64S.mono : ∀ a0 a1 k, LeO (laws_eqInt64S.f k a0 a1) (laws_eqInt64S.f (k + 1) a0 a1) := by
  intro a0 a1 k
  have ih0 := laws_eqInt64S.mono_l k
  unfold laws_eqInt64S.f
  repeat' first
      | (with_reducible exact ih0 _ _ _)
      | (with_reducible exact LeO.refl _)
      | (with_reducible exact LeO.none _)
      | (with_reducible refine LeO.ite ?_ ?_)
      | (with_reducible refine LeO.bind ?_ (fun _ => ?_))
      | exact ih0 _ _ _
      | exact LeO.none _
      | refine LeO.ite ?_ ?_
      | refine LeO.bind ?_ (fun _ => ?_)
set_option maxHeartbeats 8000000 in
set_option maxRecDepth 100000 in
theorem laws_eqInt64S.calls (k : Nat) (A0 : Option Addr) (c0 : Nat) (l0 : List Int) (A1 : Option Addr) (c1 : Nat) (l1 : List Int) (r : Bool) (w : World) (hr0 : Kd.C (Kd.int .i64) w A0 l0.length l0) (hc0 : l0.length ≤ c0) (hr1 : Kd.C (Kd.int .i64) w A1 l1.length l1) (hc1 : l1.length ≤ c1) (h : laws_eqInt64S.f k l0 l1 = some r) :
    Calls Try.prog 40 #[.slice A0 l0.length c0, .slice A1 l1.length c1] w fun e w' => e = .returned (.bool r) ∧ Drawn0 w w' := by
  have HR0 := Aside0.mk hr0
  have HC0 := Aside0.mk hc0
  clear hr0 hc0
  have HR1 := Aside0.mk hr1
  have HC1 := Aside0.mk hc1
  clear hr1 hc1
  have H : (if (l0.length : Int) = (l1.length : Int) then (laws_eqInt64S.l0 k l0 l1 0) else (some false)) = some r := h
  clear h
  by_cases c3 : (l0.length : Int) = (l1.length : Int)
  · rw [if_pos c3] at H
    have c3b0 : ((l0.length : Int) == (l1.length : Int)) = true := beq_iff_eq.mpr c3
    have c3b1 : ((l0.length : Int) != (l1.length : Int)) = false := bne_eq_false_iff_eq.mpr c3
    have c3b2 : (l0.length == l1.length) = true := by first | simpa using c3 | (simp at c3 ⊢; omega)
    clear c3
    have H' := Aside0.mk H
    clear H
    go_enter Try.func40, Try.ntmps40
    go_wp2
    repeat (go_quiet (fail); try go_wp2)
    go_loopg [5] k (fun kq v5 w' => ∃ (x5_1 : Int), v5 = .int .i64 x5_1 ∧ Aside0 (laws_eqInt64S.l0 kq l0 l1 x5_1 = some r) ∧ Aside0 (kq ≤ k) ∧ Drawn0 w w')
    case atStart => exact ⟨(0), (by first | rfl | (simp; done) | (simp [*]; done)), H', ⟨Nat.le_refl _⟩, by repeat (first | exact Drawn0.refl _ | apply Drawn0.step)⟩
    case round =>
      clear H'
      try clear c1
      try clear p2
      try clear c3
      try clear c3b0
      try clear c3b1
      try clear c3b2
      obtain ⟨x5_1, rfl, HA, HK1, ⟨m1, rfl⟩⟩ := hrel
      cases gk with
      | zero => exact absurd HA.out (by simp [laws_eqInt64S.l0])
      | succ k1 =>
        have H := HA.out
        clear HA
        simp only [laws_eqInt64S.l0] at H
        by_cases c4 : x5_1 < (l0.length : Int)
        · rw [if_pos c4] at H
          have c4b0 : decide (x5_1 < (l0.length : Int)) = true := decide_eq_true c4
          clear c4
          by_cases c5 : 0 ≤ x5_1
          · rw [if_pos c5] at H
            have c5b0 : decide (0 ≤ x5_1) = true := decide_eq_true c5
            clear c5
            by_cases c6 : x5_1 < (l1.length : Int)
            · rw [if_pos c6] at H
              have c6b0 : decide (x5_1 < (l1.length : Int)) = true := decide_eq_true c6
              clear c6
              by_cases c7 : (rd l0 x5_1) = (rd l1 x5_1)
              · rw [if_pos c7] at H
                have c7b0 : ((rd l0 x5_1) == (rd l1 x5_1)) = true := beq_iff_eq.mpr c7
                have c7b1 : ((rd l0 x5_1) != (rd l1 x5_1)) = false := bne_eq_false_iff_eq.mpr c7
                clear c7
                have H' := Aside0.mk H
                clear H
                have p146 : 0 ≤ (x5_1 : Int) := of_decide_eq_true (by first | (with_reducible assumption) | assumption)
                have q146 : x5_1 < (l0.length : Int) := of_decide_eq_true (by first | (with_reducible assumption) | assumption)
                obtain ⟨ad146, e146, hx146_0⟩ := Kd.at_int HR0.out x5_1 p146 q146
                cases e146
                replace p146 := eq_true p146
                replace q146 := eq_true q146
                have p147 : 0 ≤ (x5_1 : Int) := of_decide_eq_true (by first | (with_reducible assumption) | assumption)
                have q147 : x5_1 < (l1.length : Int) := of_decide_eq_true (by first | (with_reducible assumption) | assumption)
                obtain ⟨ad147, e147, hx147_0⟩ := Kd.at_int HR1.out x5_1 p147 q147
                cases e147
                replace p147 := eq_true p147
                replace q147 := eq_true q147
                go_wp2
                repeat (go_quiet (fail); try go_wp2)
                go_roundg k1
                case measure => have := HK1.out; omega
                case rel => exact ⟨(wrap64 (x5_1 + 1)), (by first | rfl | (simp; done) | (simp [*]; done)), H', ⟨by have := HK1.out; omega⟩, by repeat (first | exact Drawn0.refl _ | apply Drawn0.step)⟩
              · rw [if_neg c7] at H
                have c7b0 : ((rd l0 x5_1) == (rd l1 x5_1)) = false := beq_eq_false_iff_ne.mpr c7
                have c7b1 : ((rd l0 x5_1) != (rd l1 x5_1)) = true := bne_iff_ne.mpr c7
                obtain rfl := Option.some.inj H
                have p146 : 0 ≤ (x5_1 : Int) := of_decide_eq_true (by first | (with_reducible assumption) | assumption)
                have q146 : x5_1 < (l0.length : Int) := of_decide_eq_true (by first | (with_reducible assumption) | assumption)
                obtain ⟨ad146, e146, hx146_0⟩ := Kd.at_int HR0.out x5_1 p146 q146
                cases e146
                replace p146 := eq_true p146
                replace q146 := eq_true q146
                have p147 : 0 ≤ (x5_1 : Int) := of_decide_eq_true (by first | (with_reducible assumption) | assumption)
                have q147 : x5_1 < (l1.length : Int) := of_decide_eq_true (by first | (with_reducible assumption) | assumption)
                obtain ⟨ad147, e147, hx147_0⟩ := Kd.at_int HR1.out x5_1 p147 q147
                cases e147
                replace p147 := eq_true p147
                replace q147 := eq_true q147
                go_wp2
                repeat (go_quiet (fail); try go_wp2)
                go_ret
                exact ⟨by first | rfl | (simp; done) | (simp [*]; done), by repeat (first | exact Drawn0.refl _ | apply Drawn0.step)⟩
            · rw [if_neg c6] at H
              exact absurd H (by simp)
          · rw [if_neg c5] at H
            exact absurd H (by simp)
        · rw [if_neg c4] at H
          have c4b0 : decide (x5_1 < (l0.length : Int)) = false := decide_eq_false c4
          clear c4
          obtain rfl := Option.some.inj H
          go_wp2
          repeat (go_quiet (fail); try go_wp2)
          go_ret
          exact ⟨by first | rfl | (simp; done) | (simp [*]; done), by repeat (first | exact Drawn0.refl _ | apply Drawn0.step)⟩
  · rw [if_neg c3] at H
    have c3b0 : ((l0.length : Int) == (l1.length : Int)) = false := beq_eq_false_iff_ne.mpr c3
    have c3b1 : ((l0.length : Int) != (l1.length : Int)) = true := bne_iff_ne.mpr c3
    have c3b2 : (l0.length == l1.length) = false := by first | simpa using c3 | (simp at c3 ⊢; omega)
    obtain rfl := Option.some.inj H
    go_enter Try.func40, Try.ntmps40
    go_wp2
    repeat (go_quiet (fail); try go_wp2)
    go_ret
    exact ⟨by first | rfl | (simp; done) | (simp [*]; done), by repeat (first | exact Drawn0.refl _ | apply Drawn0.step)⟩
/-! ### laws_eqItem: function 91 -/
def laws_eqItem.f (a0_0 : ByteArray) (a0_1 : Int) (a0_2 : Int) (a0_3 : Int) (a0_4 : Int) (a0_5 : Int) (a1_0 : ByteArray) (a1_1 : Int) (a1_2 : Int) (a1_3 : Int) (a1_4 : Int) (a1_5 : Int) : Option (Bool) := if a0_0.toList = a1_0.toList then (if a0_1 = a1_1 then (if a0_2 = a1_2 then (if a0_3 = a1_3 then (if a0_4 = a1_4 then (if a0_5 = a1_5 then (some true) else (some false)) else (some false)) else (some false)) else (some false)) else (some false)) else (some false)
set_option maxHeartbeats 8000000 in
set_option maxRecDepth 100000 in
theorem laws_eqItem.calls (a0_0 : ByteArray) (a0_1 : Int) (a0_2 : Int) (a0_3 : Int) (a0_4 : Int) (a0_5 : Int) (a1_0 : ByteArray) (a1_1 : Int) (a1_2 : Int) (a1_3 : Int) (a1_4 : Int) (a1_5 : Int) (r : Bool) (w : World) (h : laws_eqItem.f a0_0 a0_1 a0_2 a0_3 a0_4 a0_5 a1_0 a1_1 a1_2 a1_3 a1_4 a1_5 = some r) :
    Calls Try.prog 91 #[.agg #[.string a0_0, .int .i64 a0_1, .int .i64 a0_2, .int .i64 a0_3, .int .i64 a0_4, .int .i64 a0_5], .agg #[.string a1_0, .int .i64 a1_1, .int .i64 a1_2, .int .i64 a1_3, .int .i64 a1_4, .int .i64 a1_5]] w fun e w' => e = .returned (.bool r) ∧ Below w.heap.size w w' := by
  have hu95 := Try.underlying95
  have HB := Aside0.mk (Below.refl w.heap.size w)
  have H : (if a0_0.toList = a1_0.toList then (if a0_1 = a1_1 then (if a0_2 = a1_2 then (if a0_3 = a1_3 then (if a0_4 = a1_4 then (if a0_5 = a1_5 then (some true) else (some false)) else (some false)) else (some false)) else (some false)) else (some false)) else (some false)) = some r := h
  clear h
  by_cases c3 : a0_0.toList = a1_0.toList
  · rw [if_pos c3] at H
    have c3b0 : (a0_0.toList == a1_0.toList) = true := beq_iff_eq.mpr c3
    have c3b1 : (a0_0.toList != a1_0.toList) = false := bne_eq_false_iff_eq.mpr c3
    clear c3
    by_cases c4 : a0_1 = a1_1
    · rw [if_pos c4] at H
      have c4b0 : (a0_1 == a1_1) = true := beq_iff_eq.mpr c4
      have c4b1 : (a0_1 != a1_1) = false := bne_eq_false_iff_eq.mpr c4
      clear c4
      by_cases c5 : a0_2 = a1_2
      · rw [if_pos c5] at H
        have c5b0 : (a0_2 == a1_2) = true := beq_iff_eq.mpr c5
        have c5b1 : (a0_2 != a1_2) = false := bne_eq_false_iff_eq.mpr c5
        clear c5
        by_cases c6 : a0_3 = a1_3
        · rw [if_pos c6] at H
          have c6b0 : (a0_3 == a1_3) = true := beq_iff_eq.mpr c6
          have c6b1 : (a0_3 != a1_3) = false := bne_eq_false_iff_eq.mpr c6
          clear c6
          by_cases c7 : a0_4 = a1_4
          · rw [if_pos c7] at H
            have c7b0 : (a0_4 == a1_4) = true := beq_iff_eq.mpr c7
            have c7b1 : (a0_4 != a1_4) = false := bne_eq_false_iff_eq.mpr c7
            clear c7
            by_cases c8 : a0_5 = a1_5
            · rw [if_pos c8] at H
              have c8b0 : (a0_5 == a1_5) = true := beq_iff_eq.mpr c8
              have c8b1 : (a0_5 != a1_5) = false := bne_eq_false_iff_eq.mpr c8
              clear c8
              obtain rfl := Option.some.inj H
              go_enter Try.func91, Try.ntmps91
              go_wp2_with (first | ((with_reducible refine gate_dst (N := 2) rfl ?_); refine box_event ?hg (N := 2) ?hd (cs := #[.string a0_0, .int .i64 a0_1, .int .i64 a0_2, .int .i64 a0_3, .int .i64 a0_4, .int .i64 a0_5]) (t := 95) ?hr ?_; (case hd => rfl); (case hg => rfl); (case hr => first | (go_simp; done) | (go_simp; rfl)); intro gb827 hg w9 hbox hb; have n0_ := Aside0.mk (below_step (by repeat (first | (with_reducible first | exact HB.out | apply below_alloc | apply pw_below_drewN | apply below_drew1) | exact HB.out)) hb); have n1_ := Aside0.mk (hbox); have n2_ := Aside0.mk ((by rw [hg]; exact (below_size (by repeat (first | (with_reducible first | exact HB.out | apply below_alloc | apply pw_below_drewN | apply below_drew1) | exact HB.out))) : w.heap.size ≤ gb827)); have n3_ := Aside0.mk ((by rw [hg]; exact (below_size (by repeat (first | (with_reducible first | exact HB.out | apply below_alloc | apply pw_below_drewN | apply below_drew1) | exact HB.out))) : w.heap.size ≤ gb827)); clear HB; have HB := n0_; have BK827 := n1_; have GW827 := n2_; have GE827 := n3_; clear n0_ n1_ n2_ n3_; clear hb hbox hg) | ((with_reducible refine gate_dst (N := 3) rfl ?_); refine box_event ?hg (N := 3) ?hd (cs := #[.string a1_0, .int .i64 a1_1, .int .i64 a1_2, .int .i64 a1_3, .int .i64 a1_4, .int .i64 a1_5]) (t := 95) ?hr ?_; (case hd => rfl); (case hg => rfl); (case hr => first | (go_simp; done) | (go_simp; rfl)); intro gb828 hg w10 hbox hb; have n0_ := Aside0.mk (blk_below (g := gb827) (o := .cells #[.string a0_0, .int .i64 a0_1, .int .i64 a0_2, .int .i64 a0_3, .int .i64 a0_4, .int .i64 a0_5] 95 (0, 0)) (by (with_reducible repeat (first | refine blk_drewN ?_ _ | refine blk_drew ?_ | refine blk_alloc ?_ _)); exact BK827.out) hb); have n1_ := Aside0.mk (below_step (by repeat (first | (with_reducible first | exact HB.out | apply below_alloc | apply pw_below_drewN | apply below_drew1 | refine below_set ?_ GE827.out) | exact HB.out)) hb); have n2_ := Aside0.mk (hbox); have n3_ := Aside0.mk ((by rw [hg]; exact (below_size (by repeat (first | (with_reducible first | exact HB.out | apply below_alloc | apply pw_below_drewN | apply below_drew1 | refine below_set ?_ GE827.out) | exact HB.out))) : w.heap.size ≤ gb828)); have n4_ := Aside0.mk ((by rw [hg]; exact (below_size (by repeat (first | (with_reducible first | exact HB.out | apply below_alloc | apply pw_below_drewN | apply below_drew1 | refine below_set ?_ GE827.out) | exact HB.out))) : w.heap.size ≤ gb828)); have n5_ := Aside0.mk ((by rw [hg]; exact Nat.ne_of_lt (blk_lt (g := gb827) (o := .cells #[.string a0_0, .int .i64 a0_1, .int .i64 a0_2, .int .i64 a0_3, .int .i64 a0_4, .int .i64 a0_5] 95 (0, 0)) (by (with_reducible repeat (first | refine blk_drewN ?_ _ | refine blk_drew ?_ | refine blk_alloc ?_ _)); exact BK827.out)) : gb827 ≠ gb828)); have n6_ := Aside0.mk ((by rw [hg]; exact Nat.ne_of_gt (blk_lt (g := gb827) (o := .cells #[.string a0_0, .int .i64 a0_1, .int .i64 a0_2, .int .i64 a0_3, .int .i64 a0_4, .int .i64 a0_5] 95 (0, 0)) (by (with_reducible repeat (first | refine blk_drewN ?_ _ | refine blk_drew ?_ | refine blk_alloc ?_ _)); exact BK827.out)) : gb828 ≠ gb827)); clear BK827; clear HB; have BK827 := n0_; have HB := n1_; have BK828 := n2_; have GW828 := n3_; have GE828 := n4_; have NB827_828 := n5_; have NB828_827 := n6_; clear n0_ n1_ n2_ n3_ n4_ n5_ n6_; clear hb hbox hg; have hnb11 := NB827_828.out; have hnc11 := NB828_827.out; have hcz12_0 : w10.cell? ⟨gb827, 0, none⟩ = some (.string a0_0) := (blk_cell BK827.out 0).trans rfl; have hcz12_1 : w10.cell? ⟨gb827, 1, none⟩ = some (.int .i64 a0_1) := (blk_cell BK827.out 1).trans rfl; have hcz12_2 : w10.cell? ⟨gb827, 2, none⟩ = some (.int .i64 a0_2) := (blk_cell BK827.out 2).trans rfl; have hcz12_3 : w10.cell? ⟨gb827, 3, none⟩ = some (.int .i64 a0_3) := (blk_cell BK827.out 3).trans rfl; have hcz12_4 : w10.cell? ⟨gb827, 4, none⟩ = some (.int .i64 a0_4) := (blk_cell BK827.out 4).trans rfl; have hcz12_5 : w10.cell? ⟨gb827, 5, none⟩ = some (.int .i64 a0_5) := (blk_cell BK827.out 5).trans rfl; have hfz12_0 := blk_frozen BK827.out 0; have hfz12_1 := blk_frozen BK827.out 1; have hfz12_2 := blk_frozen BK827.out 2; have hfz12_3 := blk_frozen BK827.out 3; have hfz12_4 := blk_frozen BK827.out 4; have hfz12_5 := blk_frozen BK827.out 5; have hcz13_0 : w10.cell? ⟨gb828, 0, none⟩ = some (.string a1_0) := (blk_cell BK828.out 0).trans rfl; have hcz13_1 : w10.cell? ⟨gb828, 1, none⟩ = some (.int .i64 a1_1) := (blk_cell BK828.out 1).trans rfl; have hcz13_2 : w10.cell? ⟨gb828, 2, none⟩ = some (.int .i64 a1_2) := (blk_cell BK828.out 2).trans rfl; have hcz13_3 : w10.cell? ⟨gb828, 3, none⟩ = some (.int .i64 a1_3) := (blk_cell BK828.out 3).trans rfl; have hcz13_4 : w10.cell? ⟨gb828, 4, none⟩ = some (.int .i64 a1_4) := (blk_cell BK828.out 4).trans rfl; have hcz13_5 : w10.cell? ⟨gb828, 5, none⟩ = some (.int .i64 a1_5) := (blk_cell BK828.out 5).trans rfl; have hfz13_0 := blk_frozen BK828.out 0; have hfz13_1 := blk_frozen BK828.out 1; have hfz13_2 := blk_frozen BK828.out 2; have hfz13_3 := blk_frozen BK828.out 3; have hfz13_4 := blk_frozen BK828.out 4; have hfz13_5 := blk_frozen BK828.out 5))
              go_ret
              exact ⟨by first | rfl | (simp [errW_none, errW_some] <;> rfl) | (simp [*, errW_none, errW_some] <;> rfl), by repeat (first | (with_reducible first | exact HB.out | apply below_alloc | apply pw_below_drewN | apply below_drew1 | refine below_set ?_ GE827.out | refine below_set ?_ GE828.out) | exact HB.out)⟩
            · rw [if_neg c8] at H
              have c8b0 : (a0_5 == a1_5) = false := beq_eq_false_iff_ne.mpr c8
              have c8b1 : (a0_5 != a1_5) = true := bne_iff_ne.mpr c8
              obtain rfl := Option.some.inj H
              go_enter Try.func91, Try.ntmps91
              go_wp2_with (first | ((with_reducible refine gate_dst (N := 2) rfl ?_); refine box_event ?hg (N := 2) ?hd (cs := #[.string a0_0, .int .i64 a0_1, .int .i64 a0_2, .int .i64 a0_3, .int .i64 a0_4, .int .i64 a0_5]) (t := 95) ?hr ?_; (case hd => rfl); (case hg => rfl); (case hr => first | (go_simp; done) | (go_simp; rfl)); intro gb827 hg w14 hbox hb; have n0_ := Aside0.mk (below_step (by repeat (first | (with_reducible first | exact HB.out | apply below_alloc | apply pw_below_drewN | apply below_drew1) | exact HB.out)) hb); have n1_ := Aside0.mk (hbox); have n2_ := Aside0.mk ((by rw [hg]; exact (below_size (by repeat (first | (with_reducible first | exact HB.out | apply below_alloc | apply pw_below_drewN | apply below_drew1) | exact HB.out))) : w.heap.size ≤ gb827)); have n3_ := Aside0.mk ((by rw [hg]; exact (below_size (by repeat (first | (with_reducible first | exact HB.out | apply below_alloc | apply pw_below_drewN | apply below_drew1) | exact HB.out))) : w.heap.size ≤ gb827)); clear HB; have HB := n0_; have BK827 := n1_; have GW827 := n2_; have GE827 := n3_; clear n0_ n1_ n2_ n3_; clear hb hbox hg) | ((with_reducible refine gate_dst (N := 3) rfl ?_); refine box_event ?hg (N := 3) ?hd (cs := #[.string a1_0, .int .i64 a1_1, .int .i64 a1_2, .int .i64 a1_3, .int .i64 a1_4, .int .i64 a1_5]) (t := 95) ?hr ?_; (case hd => rfl); (case hg => rfl); (case hr => first | (go_simp; done) | (go_simp; rfl)); intro gb828 hg w15 hbox hb; have n0_ := Aside0.mk (blk_below (g := gb827) (o := .cells #[.string a0_0, .int .i64 a0_1, .int .i64 a0_2, .int .i64 a0_3, .int .i64 a0_4, .int .i64 a0_5] 95 (0, 0)) (by (with_reducible repeat (first | refine blk_drewN ?_ _ | refine blk_drew ?_ | refine blk_alloc ?_ _)); exact BK827.out) hb); have n1_ := Aside0.mk (below_step (by repeat (first | (with_reducible first | exact HB.out | apply below_alloc | apply pw_below_drewN | apply below_drew1 | refine below_set ?_ GE827.out) | exact HB.out)) hb); have n2_ := Aside0.mk (hbox); have n3_ := Aside0.mk ((by rw [hg]; exact (below_size (by repeat (first | (with_reducible first | exact HB.out | apply below_alloc | apply pw_below_drewN | apply below_drew1 | refine below_set ?_ GE827.out) | exact HB.out))) : w.heap.size ≤ gb828)); have n4_ := Aside0.mk ((by rw [hg]; exact (below_size (by repeat (first | (with_reducible first | exact HB.out | apply below_alloc | apply pw_below_drewN | apply below_drew1 | refine below_set ?_ GE827.out) | exact HB.out))) : w.heap.size ≤ gb828)); have n5_ := Aside0.mk ((by rw [hg]; exact Nat.ne_of_lt (blk_lt (g := gb827) (o := .cells #[.string a0_0, .int .i64 a0_1, .int .i64 a0_2, .int .i64 a0_3, .int .i64 a0_4, .int .i64 a0_5] 95 (0, 0)) (by (with_reducible repeat (first | refine blk_drewN ?_ _ | refine blk_drew ?_ | refine blk_alloc ?_ _)); exact BK827.out)) : gb827 ≠ gb828)); have n6_ := Aside0.mk ((by rw [hg]; exact Nat.ne_of_gt (blk_lt (g := gb827) (o := .cells #[.string a0_0, .int .i64 a0_1, .int .i64 a0_2, .int .i64 a0_3, .int .i64 a0_4, .int .i64 a0_5] 95 (0, 0)) (by (with_reducible repeat (first | refine blk_drewN ?_ _ | refine blk_drew ?_ | refine blk_alloc ?_ _)); exact BK827.out)) : gb828 ≠ gb827)); clear BK827; clear HB; have BK827 := n0_; have HB := n1_; have BK828 := n2_; have GW828 := n3_; have GE828 := n4_; have NB827_828 := n5_; have NB828_827 := n6_; clear n0_ n1_ n2_ n3_ n4_ n5_ n6_; clear hb hbox hg; have hnb16 := NB827_828.out; have hnc16 := NB828_827.out; have hcz17_0 : w15.cell? ⟨gb827, 0, none⟩ = some (.string a0_0) := (blk_cell BK827.out 0).trans rfl; have hcz17_1 : w15.cell? ⟨gb827, 1, none⟩ = some (.int .i64 a0_1) := (blk_cell BK827.out 1).trans rfl; have hcz17_2 : w15.cell? ⟨gb827, 2, none⟩ = some (.int .i64 a0_2) := (blk_cell BK827.out 2).trans rfl; have hcz17_3 : w15.cell? ⟨gb827, 3, none⟩ = some (.int .i64 a0_3) := (blk_cell BK827.out 3).trans rfl; have hcz17_4 : w15.cell? ⟨gb827, 4, none⟩ = some (.int .i64 a0_4) := (blk_cell BK827.out 4).trans rfl; have hcz17_5 : w15.cell? ⟨gb827, 5, none⟩ = some (.int .i64 a0_5) := (blk_cell BK827.out 5).trans rfl; have hfz17_0 := blk_frozen BK827.out 0; have hfz17_1 := blk_frozen BK827.out 1; have hfz17_2 := blk_frozen BK827.out 2; have hfz17_3 := blk_frozen BK827.out 3; have hfz17_4 := blk_frozen BK827.out 4; have hfz17_5 := blk_frozen BK827.out 5; have hcz18_0 : w15.cell? ⟨gb828, 0, none⟩ = some (.string a1_0) := (blk_cell BK828.out 0).trans rfl; have hcz18_1 : w15.cell? ⟨gb828, 1, none⟩ = some (.int .i64 a1_1) := (blk_cell BK828.out 1).trans rfl; have hcz18_2 : w15.cell? ⟨gb828, 2, none⟩ = some (.int .i64 a1_2) := (blk_cell BK828.out 2).trans rfl; have hcz18_3 : w15.cell? ⟨gb828, 3, none⟩ = some (.int .i64 a1_3) := (blk_cell BK828.out 3).trans rfl; have hcz18_4 : w15.cell? ⟨gb828, 4, none⟩ = some (.int .i64 a1_4) := (blk_cell BK828.out 4).trans rfl; have hcz18_5 : w15.cell? ⟨gb828, 5, none⟩ = some (.int .i64 a1_5) := (blk_cell BK828.out 5).trans rfl; have hfz18_0 := blk_frozen BK828.out 0; have hfz18_1 := blk_frozen BK828.out 1; have hfz18_2 := blk_frozen BK828.out 2; have hfz18_3 := blk_frozen BK828.out 3; have hfz18_4 := blk_frozen BK828.out 4; have hfz18_5 := blk_frozen BK828.out 5))
              go_ret
              exact ⟨by first | rfl | (simp [errW_none, errW_some] <;> rfl) | (simp [*, errW_none, errW_some] <;> rfl), by repeat (first | (with_reducible first | exact HB.out | apply below_alloc | apply pw_below_drewN | apply below_drew1 | refine below_set ?_ GE827.out | refine below_set ?_ GE828.out) | exact HB.out)⟩
          · rw [if_neg c7] at H
            have c7b0 : (a0_4 == a1_4) = false := beq_eq_false_iff_ne.mpr c7
            have c7b1 : (a0_4 != a1_4) = true := bne_iff_ne.mpr c7
            obtain rfl := Option.some.inj H
            go_enter Try.func91, Try.ntmps91
            go_wp2_with (first | ((with_reducible refine gate_dst (N := 2) rfl ?_); refine box_event ?hg (N := 2) ?hd (cs := #[.string a0_0, .int .i64 a0_1, .int .i64 a0_2, .int .i64 a0_3, .int .i64 a0_4, .int .i64 a0_5]) (t := 95) ?hr ?_; (case hd => rfl); (case hg => rfl); (case hr => first | (go_simp; done) | (go_simp; rfl)); intro gb827 hg w19 hbox hb; have n0_ := Aside0.mk (below_step (by repeat (first | (with_reducible first | exact HB.out | apply below_alloc | apply pw_below_drewN | apply below_drew1) | exact HB.out)) hb); have n1_ := Aside0.mk (hbox); have n2_ := Aside0.mk ((by rw [hg]; exact (below_size (by repeat (first | (with_reducible first | exact HB.out | apply below_alloc | apply pw_below_drewN | apply below_drew1) | exact HB.out))) : w.heap.size ≤ gb827)); have n3_ := Aside0.mk ((by rw [hg]; exact (below_size (by repeat (first | (with_reducible first | exact HB.out | apply below_alloc | apply pw_below_drewN | apply below_drew1) | exact HB.out))) : w.heap.size ≤ gb827)); clear HB; have HB := n0_; have BK827 := n1_; have GW827 := n2_; have GE827 := n3_; clear n0_ n1_ n2_ n3_; clear hb hbox hg) | ((with_reducible refine gate_dst (N := 3) rfl ?_); refine box_event ?hg (N := 3) ?hd (cs := #[.string a1_0, .int .i64 a1_1, .int .i64 a1_2, .int .i64 a1_3, .int .i64 a1_4, .int .i64 a1_5]) (t := 95) ?hr ?_; (case hd => rfl); (case hg => rfl); (case hr => first | (go_simp; done) | (go_simp; rfl)); intro gb828 hg w20 hbox hb; have n0_ := Aside0.mk (blk_below (g := gb827) (o := .cells #[.string a0_0, .int .i64 a0_1, .int .i64 a0_2, .int .i64 a0_3, .int .i64 a0_4, .int .i64 a0_5] 95 (0, 0)) (by (with_reducible repeat (first | refine blk_drewN ?_ _ | refine blk_drew ?_ | refine blk_alloc ?_ _)); exact BK827.out) hb); have n1_ := Aside0.mk (below_step (by repeat (first | (with_reducible first | exact HB.out | apply below_alloc | apply pw_below_drewN | apply below_drew1 | refine below_set ?_ GE827.out) | exact HB.out)) hb); have n2_ := Aside0.mk (hbox); have n3_ := Aside0.mk ((by rw [hg]; exact (below_size (by repeat (first | (with_reducible first | exact HB.out | apply below_alloc | apply pw_below_drewN | apply below_drew1 | refine below_set ?_ GE827.out) | exact HB.out))) : w.heap.size ≤ gb828)); have n4_ := Aside0.mk ((by rw [hg]; exact (below_size (by repeat (first | (with_reducible first | exact HB.out | apply below_alloc | apply pw_below_drewN | apply below_drew1 | refine below_set ?_ GE827.out) | exact HB.out))) : w.heap.size ≤ gb828)); have n5_ := Aside0.mk ((by rw [hg]; exact Nat.ne_of_lt (blk_lt (g := gb827) (o := .cells #[.string a0_0, .int .i64 a0_1, .int .i64 a0_2, .int .i64 a0_3, .int .i64 a0_4, .int .i64 a0_5] 95 (0, 0)) (by (with_reducible repeat (first | refine blk_drewN ?_ _ | refine blk_drew ?_ | refine blk_alloc ?_ _)); exact BK827.out)) : gb827 ≠ gb828)); have n6_ := Aside0.mk ((by rw [hg]; exact Nat.ne_of_gt (blk_lt (g := gb827) (o := .cells #[.string a0_0, .int .i64 a0_1, .int .i64 a0_2, .int .i64 a0_3, .int .i64 a0_4, .int .i64 a0_5] 95 (0, 0)) (by (with_reducible repeat (first | refine blk_drewN ?_ _ | refine blk_drew ?_ | refine blk_alloc ?_ _)); exact BK827.out)) : gb828 ≠ gb827)); clear BK827; clear HB; have BK827 := n0_; have HB := n1_; have BK828 := n2_; have GW828 := n3_; have GE828 := n4_; have NB827_828 := n5_; have NB828_827 := n6_; clear n0_ n1_ n2_ n3_ n4_ n5_ n6_; clear hb hbox hg; have hnb21 := NB827_828.out; have hnc21 := NB828_827.out; have hcz22_0 : w20.cell? ⟨gb827, 0, none⟩ = some (.string a0_0) := (blk_cell BK827.out 0).trans rfl; have hcz22_1 : w20.cell? ⟨gb827, 1, none⟩ = some (.int .i64 a0_1) := (blk_cell BK827.out 1).trans rfl; have hcz22_2 : w20.cell? ⟨gb827, 2, none⟩ = some (.int .i64 a0_2) := (blk_cell BK827.out 2).trans rfl; have hcz22_3 : w20.cell? ⟨gb827, 3, none⟩ = some (.int .i64 a0_3) := (blk_cell BK827.out 3).trans rfl; have hcz22_4 : w20.cell? ⟨gb827, 4, none⟩ = some (.int .i64 a0_4) := (blk_cell BK827.out 4).trans rfl; have hcz22_5 : w20.cell? ⟨gb827, 5, none⟩ = some (.int .i64 a0_5) := (blk_cell BK827.out 5).trans rfl; have hfz22_0 := blk_frozen BK827.out 0; have hfz22_1 := blk_frozen BK827.out 1; have hfz22_2 := blk_frozen BK827.out 2; have hfz22_3 := blk_frozen BK827.out 3; have hfz22_4 := blk_frozen BK827.out 4; have hfz22_5 := blk_frozen BK827.out 5; have hcz23_0 : w20.cell? ⟨gb828, 0, none⟩ = some (.string a1_0) := (blk_cell BK828.out 0).trans rfl; have hcz23_1 : w20.cell? ⟨gb828, 1, none⟩ = some (.int .i64 a1_1) := (blk_cell BK828.out 1).trans rfl; have hcz23_2 : w20.cell? ⟨gb828, 2, none⟩ = some (.int .i64 a1_2) := (blk_cell BK828.out 2).trans rfl; have hcz23_3 : w20.cell? ⟨gb828, 3, none⟩ = some (.int .i64 a1_3) := (blk_cell BK828.out 3).trans rfl; have hcz23_4 : w20.cell? ⟨gb828, 4, none⟩ = some (.int .i64 a1_4) := (blk_cell BK828.out 4).trans rfl; have hcz23_5 : w20.cell? ⟨gb828, 5, none⟩ = some (.int .i64 a1_5) := (blk_cell BK828.out 5).trans rfl; have hfz23_0 := blk_frozen BK828.out 0; have hfz23_1 := blk_frozen BK828.out 1; have hfz23_2 := blk_frozen BK828.out 2; have hfz23_3 := blk_frozen BK828.out 3; have hfz23_4 := blk_frozen BK828.out 4; have hfz23_5 := blk_frozen BK828.out 5))
            go_ret
            exact ⟨by first | rfl | (simp [errW_none, errW_some] <;> rfl) | (simp [*, errW_none, errW_some] <;> rfl), by repeat (first | (with_reducible first | exact HB.out | apply below_alloc | apply pw_below_drewN | apply below_drew1 | refine below_set ?_ GE827.out | refine below_set ?_ GE828.out) | exact HB.out)⟩
        · rw [if_neg c6] at H
          have c6b0 : (a0_3 == a1_3) = false := beq_eq_false_iff_ne.mpr c6
          have c6b1 : (a0_3 != a1_3) = true := bne_iff_ne.mpr c6
          obtain rfl := Option.some.inj H
          go_enter Try.func91, Try.ntmps91
          go_wp2_with (first | ((with_reducible refine gate_dst (N := 2) rfl ?_); refine box_event ?hg (N := 2) ?hd (cs := #[.string a0_0, .int .i64 a0_1, .int .i64 a0_2, .int .i64 a0_3, .int .i64 a0_4, .int .i64 a0_5]) (t := 95) ?hr ?_; (case hd => rfl); (case hg => rfl); (case hr => first | (go_simp; done) | (go_simp; rfl)); intro gb827 hg w24 hbox hb; have n0_ := Aside0.mk (below_step (by repeat (first | (with_reducible first | exact HB.out | apply below_alloc | apply pw_below_drewN | apply below_drew1) | exact HB.out)) hb); have n1_ := Aside0.mk (hbox); have n2_ := Aside0.mk ((by rw [hg]; exact (below_size (by repeat (first | (with_reducible first | exact HB.out | apply below_alloc | apply pw_below_drewN | apply below_drew1) | exact HB.out))) : w.heap.size ≤ gb827)); have n3_ := Aside0.mk ((by rw [hg]; exact (below_size (by repeat (first | (with_reducible first | exact HB.out | apply below_alloc | apply pw_below_drewN | apply below_drew1) | exact HB.out))) : w.heap.size ≤ gb827)); clear HB; have HB := n0_; have BK827 := n1_; have GW827 := n2_; have GE827 := n3_; clear n0_ n1_ n2_ n3_; clear hb hbox hg) | ((with_reducible refine gate_dst (N := 3) rfl ?_); refine box_event ?hg (N := 3) ?hd (cs := #[.string a1_0, .int .i64 a1_1, .int .i64 a1_2, .int .i64 a1_3, .int .i64 a1_4, .int .i64 a1_5]) (t := 95) ?hr ?_; (case hd => rfl); (case hg => rfl); (case hr => first | (go_simp; done) | (go_simp; rfl)); intro gb828 hg w25 hbox hb; have n0_ := Aside0.mk (blk_below (g := gb827) (o := .cells #[.string a0_0, .int .i64 a0_1, .int .i64 a0_2, .int .i64 a0_3, .int .i64 a0_4, .int .i64 a0_5] 95 (0, 0)) (by (with_reducible repeat (first | refine blk_drewN ?_ _ | refine blk_drew ?_ | refine blk_alloc ?_ _)); exact BK827.out) hb); have n1_ := Aside0.mk (below_step (by repeat (first | (with_reducible first | exact HB.out | apply below_alloc | apply pw_below_drewN | apply below_drew1 | refine below_set ?_ GE827.out) | exact HB.out)) hb); have n2_ := Aside0.mk (hbox); have n3_ := Aside0.mk ((by rw [hg]; exact (below_size (by repeat (first | (with_reducible first | exact HB.out | apply below_alloc | apply pw_below_drewN | apply below_drew1 | refine below_set ?_ GE827.out) | exact HB.out))) : w.heap.size ≤ gb828)); have n4_ := Aside0.mk ((by rw [hg]; exact (below_size (by repeat (first | (with_reducible first | exact HB.out | apply below_alloc | apply pw_below_drewN | apply below_drew1 | refine below_set ?_ GE827.out) | exact HB.out))) : w.heap.size ≤ gb828)); have n5_ := Aside0.mk ((by rw [hg]; exact Nat.ne_of_lt (blk_lt (g := gb827) (o := .cells #[.string a0_0, .int .i64 a0_1, .int .i64 a0_2, .int .i64 a0_3, .int .i64 a0_4, .int .i64 a0_5] 95 (0, 0)) (by (with_reducible repeat (first | refine blk_drewN ?_ _ | refine blk_drew ?_ | refine blk_alloc ?_ _)); exact BK827.out)) : gb827 ≠ gb828)); have n6_ := Aside0.mk ((by rw [hg]; exact Nat.ne_of_gt (blk_lt (g := gb827) (o := .cells #[.string a0_0, .int .i64 a0_1, .int .i64 a0_2, .int .i64 a0_3, .int .i64 a0_4, .int .i64 a0_5] 95 (0, 0)) (by (with_reducible repeat (first | refine blk_drewN ?_ _ | refine blk_drew ?_ | refine blk_alloc ?_ _)); exact BK827.out)) : gb828 ≠ gb827)); clear BK827; clear HB; have BK827 := n0_; have HB := n1_; have BK828 := n2_; have GW828 := n3_; have GE828 := n4_; have NB827_828 := n5_; have NB828_827 := n6_; clear n0_ n1_ n2_ n3_ n4_ n5_ n6_; clear hb hbox hg; have hnb26 := NB827_828.out; have hnc26 := NB828_827.out; have hcz27_0 : w25.cell? ⟨gb827, 0, none⟩ = some (.string a0_0) := (blk_cell BK827.out 0).trans rfl; have hcz27_1 : w25.cell? ⟨gb827, 1, none⟩ = some (.int .i64 a0_1) := (blk_cell BK827.out 1).trans rfl; have hcz27_2 : w25.cell? ⟨gb827, 2, none⟩ = some (.int .i64 a0_2) := (blk_cell BK827.out 2).trans rfl; have hcz27_3 : w25.cell? ⟨gb827, 3, none⟩ = some (.int .i64 a0_3) := (blk_cell BK827.out 3).trans rfl; have hcz27_4 : w25.cell? ⟨gb827, 4, none⟩ = some (.int .i64 a0_4) := (blk_cell BK827.out 4).trans rfl; have hcz27_5 : w25.cell? ⟨gb827, 5, none⟩ = some (.int .i64 a0_5) := (blk_cell BK827.out 5).trans rfl; have hfz27_0 := blk_frozen BK827.out 0; have hfz27_1 := blk_frozen BK827.out 1; have hfz27_2 := blk_frozen BK827.out 2; have hfz27_3 := blk_frozen BK827.out 3; have hfz27_4 := blk_frozen BK827.out 4; have hfz27_5 := blk_frozen BK827.out 5; have hcz28_0 : w25.cell? ⟨gb828, 0, none⟩ = some (.string a1_0) := (blk_cell BK828.out 0).trans rfl; have hcz28_1 : w25.cell? ⟨gb828, 1, none⟩ = some (.int .i64 a1_1) := (blk_cell BK828.out 1).trans rfl; have hcz28_2 : w25.cell? ⟨gb828, 2, none⟩ = some (.int .i64 a1_2) := (blk_cell BK828.out 2).trans rfl; have hcz28_3 : w25.cell? ⟨gb828, 3, none⟩ = some (.int .i64 a1_3) := (blk_cell BK828.out 3).trans rfl; have hcz28_4 : w25.cell? ⟨gb828, 4, none⟩ = some (.int .i64 a1_4) := (blk_cell BK828.out 4).trans rfl; have hcz28_5 : w25.cell? ⟨gb828, 5, none⟩ = some (.int .i64 a1_5) := (blk_cell BK828.out 5).trans rfl; have hfz28_0 := blk_frozen BK828.out 0; have hfz28_1 := blk_frozen BK828.out 1; have hfz28_2 := blk_frozen BK828.out 2; have hfz28_3 := blk_frozen BK828.out 3; have hfz28_4 := blk_frozen BK828.out 4; have hfz28_5 := blk_frozen BK828.out 5))
          go_ret
          exact ⟨by first | rfl | (simp [errW_none, errW_some] <;> rfl) | (simp [*, errW_none, errW_some] <;> rfl), by repeat (first | (with_reducible first | exact HB.out | apply below_alloc | apply pw_below_drewN | apply below_drew1 | refine below_set ?_ GE827.out | refine below_set ?_ GE828.out) | exact HB.out)⟩
      · rw [if_neg c5] at H
        have c5b0 : (a0_2 == a1_2) = false := beq_eq_false_iff_ne.mpr c5
        have c5b1 : (a0_2 != a1_2) = true := bne_iff_ne.mpr c5
        obtain rfl := Option.some.inj H
        go_enter Try.func91, Try.ntmps91
        go_wp2_with (first | ((with_reducible refine gate_dst (N := 2) rfl ?_); refine box_event ?hg (N := 2) ?hd (cs := #[.string a0_0, .int .i64 a0_1, .int .i64 a0_2, .int .i64 a0_3, .int .i64 a0_4, .int .i64 a0_5]) (t := 95) ?hr ?_; (case hd => rfl); (case hg => rfl); (case hr => first | (go_simp; done) | (go_simp; rfl)); intro gb827 hg w29 hbox hb; have n0_ := Aside0.mk (below_step (by repeat (first | (with_reducible first | exact HB.out | apply below_alloc | apply pw_below_drewN | apply below_drew1) | exact HB.out)) hb); have n1_ := Aside0.mk (hbox); have n2_ := Aside0.mk ((by rw [hg]; exact (below_size (by repeat (first | (with_reducible first | exact HB.out | apply below_alloc | apply pw_below_drewN | apply below_drew1) | exact HB.out))) : w.heap.size ≤ gb827)); have n3_ := Aside0.mk ((by rw [hg]; exact (below_size (by repeat (first | (with_reducible first | exact HB.out | apply below_alloc | apply pw_below_drewN | apply below_drew1) | exact HB.out))) : w.heap.size ≤ gb827)); clear HB; have HB := n0_; have BK827 := n1_; have GW827 := n2_; have GE827 := n3_; clear n0_ n1_ n2_ n3_; clear hb hbox hg) | ((with_reducible refine gate_dst (N := 3) rfl ?_); refine box_event ?hg (N := 3) ?hd (cs := #[.string a1_0, .int .i64 a1_1, .int .i64 a1_2, .int .i64 a1_3, .int .i64 a1_4, .int .i64 a1_5]) (t := 95) ?hr ?_; (case hd => rfl); (case hg => rfl); (case hr => first | (go_simp; done) | (go_simp; rfl)); intro gb828 hg w30 hbox hb; have n0_ := Aside0.mk (blk_below (g := gb827) (o := .cells #[.string a0_0, .int .i64 a0_1, .int .i64 a0_2, .int .i64 a0_3, .int .i64 a0_4, .int .i64 a0_5] 95 (0, 0)) (by (with_reducible repeat (first | refine blk_drewN ?_ _ | refine blk_drew ?_ | refine blk_alloc ?_ _)); exact BK827.out) hb); have n1_ := Aside0.mk (below_step (by repeat (first | (with_reducible first | exact HB.out | apply below_alloc | apply pw_below_drewN | apply below_drew1 | refine below_set ?_ GE827.out) | exact HB.out)) hb); have n2_ := Aside0.mk (hbox); have n3_ := Aside0.mk ((by rw [hg]; exact (below_size (by repeat (first | (with_reducible first | exact HB.out | apply below_alloc | apply pw_below_drewN | apply below_drew1 | refine below_set ?_ GE827.out) | exact HB.out))) : w.heap.size ≤ gb828)); have n4_ := Aside0.mk ((by rw [hg]; exact (below_size (by repeat (first | (with_reducible first | exact HB.out | apply below_alloc | apply pw_below_drewN | apply below_drew1 | refine below_set ?_ GE827.out) | exact HB.out))) : w.heap.size ≤ gb828)); have n5_ := Aside0.mk ((by rw [hg]; exact Nat.ne_of_lt (blk_lt (g := gb827) (o := .cells #[.string a0_0, .int .i64 a0_1, .int .i64 a0_2, .int .i64 a0_3, .int .i64 a0_4, .int .i64 a0_5] 95 (0, 0)) (by (with_reducible repeat (first | refine blk_drewN ?_ _ | refine blk_drew ?_ | refine blk_alloc ?_ _)); exact BK827.out)) : gb827 ≠ gb828)); have n6_ := Aside0.mk ((by rw [hg]; exact Nat.ne_of_gt (blk_lt (g := gb827) (o := .cells #[.string a0_0, .int .i64 a0_1, .int .i64 a0_2, .int .i64 a0_3, .int .i64 a0_4, .int .i64 a0_5] 95 (0, 0)) (by (with_reducible repeat (first | refine blk_drewN ?_ _ | refine blk_drew ?_ | refine blk_alloc ?_ _)); exact BK827.out)) : gb828 ≠ gb827)); clear BK827; clear HB; have BK827 := n0_; have HB := n1_; have BK828 := n2_; have GW828 := n3_; have GE828 := n4_; have NB827_828 := n5_; have NB828_827 := n6_; clear n0_ n1_ n2_ n3_ n4_ n5_ n6_; clear hb hbox hg; have hnb31 := NB827_828.out; have hnc31 := NB828_827.out; have hcz32_0 : w30.cell? ⟨gb827, 0, none⟩ = some (.string a0_0) := (blk_cell BK827.out 0).trans rfl; have hcz32_1 : w30.cell? ⟨gb827, 1, none⟩ = some (.int .i64 a0_1) := (blk_cell BK827.out 1).trans rfl; have hcz32_2 : w30.cell? ⟨gb827, 2, none⟩ = some (.int .i64 a0_2) := (blk_cell BK827.out 2).trans rfl; have hcz32_3 : w30.cell? ⟨gb827, 3, none⟩ = some (.int .i64 a0_3) := (blk_cell BK827.out 3).trans rfl; have hcz32_4 : w30.cell? ⟨gb827, 4, none⟩ = some (.int .i64 a0_4) := (blk_cell BK827.out 4).trans rfl; have hcz32_5 : w30.cell? ⟨gb827, 5, none⟩ = some (.int .i64 a0_5) := (blk_cell BK827.out 5).trans rfl; have hfz32_0 := blk_frozen BK827.out 0; have hfz32_1 := blk_frozen BK827.out 1; have hfz32_2 := blk_frozen BK827.out 2; have hfz32_3 := blk_frozen BK827.out 3; have hfz32_4 := blk_frozen BK827.out 4; have hfz32_5 := blk_frozen BK827.out 5; have hcz33_0 : w30.cell? ⟨gb828, 0, none⟩ = some (.string a1_0) := (blk_cell BK828.out 0).trans rfl; have hcz33_1 : w30.cell? ⟨gb828, 1, none⟩ = some (.int .i64 a1_1) := (blk_cell BK828.out 1).trans rfl; have hcz33_2 : w30.cell? ⟨gb828, 2, none⟩ = some (.int .i64 a1_2) := (blk_cell BK828.out 2).trans rfl; have hcz33_3 : w30.cell? ⟨gb828, 3, none⟩ = some (.int .i64 a1_3) := (blk_cell BK828.out 3).trans rfl; have hcz33_4 : w30.cell? ⟨gb828, 4, none⟩ = some (.int .i64 a1_4) := (blk_cell BK828.out 4).trans rfl; have hcz33_5 : w30.cell? ⟨gb828, 5, none⟩ = some (.int .i64 a1_5) := (blk_cell BK828.out 5).trans rfl; have hfz33_0 := blk_frozen BK828.out 0; have hfz33_1 := blk_frozen BK828.out 1; have hfz33_2 := blk_frozen BK828.out 2; have hfz33_3 := blk_frozen BK828.out 3; have hfz33_4 := blk_frozen BK828.out 4; have hfz33_5 := blk_frozen BK828.out 5))
        go_ret
        exact ⟨by first | rfl | (simp [errW_none, errW_some] <;> rfl) | (simp [*, errW_none, errW_some] <;> rfl), by repeat (first | (with_reducible first | exact HB.out | apply below_alloc | apply pw_below_drewN | apply below_drew1 | refine below_set ?_ GE827.out | refine below_set ?_ GE828.out) | exact HB.out)⟩
    · rw [if_neg c4] at H
      have c4b0 : (a0_1 == a1_1) = false := beq_eq_false_iff_ne.mpr c4
      have c4b1 : (a0_1 != a1_1) = true := bne_iff_ne.mpr c4
      obtain rfl := Option.some.inj H
      go_enter Try.func91, Try.ntmps91
      go_wp2_with (first | ((with_reducible refine gate_dst (N := 2) rfl ?_); refine box_event ?hg (N := 2) ?hd (cs := #[.string a0_0, .int .i64 a0_1, .int .i64 a0_2, .int .i64 a0_3, .int .i64 a0_4, .int .i64 a0_5]) (t := 95) ?hr ?_; (case hd => rfl); (case hg => rfl); (case hr => first | (go_simp; done) | (go_simp; rfl)); intro gb827 hg w34 hbox hb; have n0_ := Aside0.mk (below_step (by repeat (first | (with_reducible first | exact HB.out | apply below_alloc | apply pw_below_drewN | apply below_drew1) | exact HB.out)) hb); have n1_ := Aside0.mk (hbox); have n2_ := Aside0.mk ((by rw [hg]; exact (below_size (by repeat (first | (with_reducible first | exact HB.out | apply below_alloc | apply pw_below_drewN | apply below_drew1) | exact HB.out))) : w.heap.size ≤ gb827)); have n3_ := Aside0.mk ((by rw [hg]; exact (below_size (by repeat (first | (with_reducible first | exact HB.out | apply below_alloc | apply pw_below_drewN | apply below_drew1) | exact HB.out))) : w.heap.size ≤ gb827)); clear HB; have HB := n0_; have BK827 := n1_; have GW827 := n2_; have GE827 := n3_; clear n0_ n1_ n2_ n3_; clear hb hbox hg) | ((with_reducible refine gate_dst (N := 3) rfl ?_); refine box_event ?hg (N := 3) ?hd (cs := #[.string a1_0, .int .i64 a1_1, .int .i64 a1_2, .int .i64 a1_3, .int .i64 a1_4, .int .i64 a1_5]) (t := 95) ?hr ?_; (case hd => rfl); (case hg => rfl); (case hr => first | (go_simp; done) | (go_simp; rfl)); intro gb828 hg w35 hbox hb; have n0_ := Aside0.mk (blk_below (g := gb827) (o := .cells #[.string a0_0, .int .i64 a0_1, .int .i64 a0_2, .int .i64 a0_3, .int .i64 a0_4, .int .i64 a0_5] 95 (0, 0)) (by (with_reducible repeat (first | refine blk_drewN ?_ _ | refine blk_drew ?_ | refine blk_alloc ?_ _)); exact BK827.out) hb); have n1_ := Aside0.mk (below_step (by repeat (first | (with_reducible first | exact HB.out | apply below_alloc | apply pw_below_drewN | apply below_drew1 | refine below_set ?_ GE827.out) | exact HB.out)) hb); have n2_ := Aside0.mk (hbox); have n3_ := Aside0.mk ((by rw [hg]; exact (below_size (by repeat (first | (with_reducible first | exact HB.out | apply below_alloc | apply pw_below_drewN | apply below_drew1 | refine below_set ?_ GE827.out) | exact HB.out))) : w.heap.size ≤ gb828)); have n4_ := Aside0.mk ((by rw [hg]; exact (below_size (by repeat (first | (with_reducible first | exact HB.out | apply below_alloc | apply pw_below_drewN | apply below_drew1 | refine below_set ?_ GE827.out) | exact HB.out))) : w.heap.size ≤ gb828)); have n5_ := Aside0.mk ((by rw [hg]; exact Nat.ne_of_lt (blk_lt (g := gb827) (o := .cells #[.string a0_0, .int .i64 a0_1, .int .i64 a0_2, .int .i64 a0_3, .int .i64 a0_4, .int .i64 a0_5] 95 (0, 0)) (by (with_reducible repeat (first | refine blk_drewN ?_ _ | refine blk_drew ?_ | refine blk_alloc ?_ _)); exact BK827.out)) : gb827 ≠ gb828)); have n6_ := Aside0.mk ((by rw [hg]; exact Nat.ne_of_gt (blk_lt (g := gb827) (o := .cells #[.string a0_0, .int .i64 a0_1, .int .i64 a0_2, .int .i64 a0_3, .int .i64 a0_4, .int .i64 a0_5] 95 (0, 0)) (by (with_reducible repeat (first | refine blk_drewN ?_ _ | refine blk_drew ?_ | refine blk_alloc ?_ _)); exact BK827.out)) : gb828 ≠ gb827)); clear BK827; clear HB; have BK827 := n0_; have HB := n1_; have BK828 := n2_; have GW828 := n3_; have GE828 := n4_; have NB827_828 := n5_; have NB828_827 := n6_; clear n0_ n1_ n2_ n3_ n4_ n5_ n6_; clear hb hbox hg; have hnb36 := NB827_828.out; have hnc36 := NB828_827.out; have hcz37_0 : w35.cell? ⟨gb827, 0, none⟩ = some (.string a0_0) := (blk_cell BK827.out 0).trans rfl; have hcz37_1 : w35.cell? ⟨gb827, 1, none⟩ = some (.int .i64 a0_1) := (blk_cell BK827.out 1).trans rfl; have hcz37_2 : w35.cell? ⟨gb827, 2, none⟩ = some (.int .i64 a0_2) := (blk_cell BK827.out 2).trans rfl; have hcz37_3 : w35.cell? ⟨gb827, 3, none⟩ = some (.int .i64 a0_3) := (blk_cell BK827.out 3).trans rfl; have hcz37_4 : w35.cell? ⟨gb827, 4, none⟩ = some (.int .i64 a0_4) := (blk_cell BK827.out 4).trans rfl; have hcz37_5 : w35.cell? ⟨gb827, 5, none⟩ = some (.int .i64 a0_5) := (blk_cell BK827.out 5).trans rfl; have hfz37_0 := blk_frozen BK827.out 0; have hfz37_1 := blk_frozen BK827.out 1; have hfz37_2 := blk_frozen BK827.out 2; have hfz37_3 := blk_frozen BK827.out 3; have hfz37_4 := blk_frozen BK827.out 4; have hfz37_5 := blk_frozen BK827.out 5; have hcz38_0 : w35.cell? ⟨gb828, 0, none⟩ = some (.string a1_0) := (blk_cell BK828.out 0).trans rfl; have hcz38_1 : w35.cell? ⟨gb828, 1, none⟩ = some (.int .i64 a1_1) := (blk_cell BK828.out 1).trans rfl; have hcz38_2 : w35.cell? ⟨gb828, 2, none⟩ = some (.int .i64 a1_2) := (blk_cell BK828.out 2).trans rfl; have hcz38_3 : w35.cell? ⟨gb828, 3, none⟩ = some (.int .i64 a1_3) := (blk_cell BK828.out 3).trans rfl; have hcz38_4 : w35.cell? ⟨gb828, 4, none⟩ = some (.int .i64 a1_4) := (blk_cell BK828.out 4).trans rfl; have hcz38_5 : w35.cell? ⟨gb828, 5, none⟩ = some (.int .i64 a1_5) := (blk_cell BK828.out 5).trans rfl; have hfz38_0 := blk_frozen BK828.out 0; have hfz38_1 := blk_frozen BK828.out 1; have hfz38_2 := blk_frozen BK828.out 2; have hfz38_3 := blk_frozen BK828.out 3; have hfz38_4 := blk_frozen BK828.out 4; have hfz38_5 := blk_frozen BK828.out 5))
      go_ret
      exact ⟨by first | rfl | (simp [errW_none, errW_some] <;> rfl) | (simp [*, errW_none, errW_some] <;> rfl), by repeat (first | (with_reducible first | exact HB.out | apply below_alloc | apply pw_below_drewN | apply below_drew1 | refine below_set ?_ GE827.out | refine below_set ?_ GE828.out) | exact HB.out)⟩
  · rw [if_neg c3] at H
    have c3b0 : (a0_0.toList == a1_0.toList) = false := beq_eq_false_iff_ne.mpr c3
    have c3b1 : (a0_0.toList != a1_0.toList) = true := bne_iff_ne.mpr c3
    obtain rfl := Option.some.inj H
    go_enter Try.func91, Try.ntmps91
    go_wp2_with (first | ((with_reducible refine gate_dst (N := 2) rfl ?_); refine box_event ?hg (N := 2) ?hd (cs := #[.string a0_0, .int .i64 a0_1, .int .i64 a0_2, .int .i64 a0_3, .int .i64 a0_4, .int .i64 a0_5]) (t := 95) ?hr ?_; (case hd => rfl); (case hg => rfl); (case hr => first | (go_simp; done) | (go_simp; rfl)); intro gb827 hg w39 hbox hb; have n0_ := Aside0.mk (below_step (by repeat (first | (with_reducible first | exact HB.out | apply below_alloc | apply pw_below_drewN | apply below_drew1) | exact HB.out)) hb); have n1_ := Aside0.mk (hbox); have n2_ := Aside0.mk ((by rw [hg]; exact (below_size (by repeat (first | (with_reducible first | exact HB.out | apply below_alloc | apply pw_below_drewN | apply below_drew1) | exact HB.out))) : w.heap.size ≤ gb827)); have n3_ := Aside0.mk ((by rw [hg]; exact (below_size (by repeat (first | (with_reducible first | exact HB.out | apply below_alloc | apply pw_below_drewN | apply below_drew1) | exact HB.out))) : w.heap.size ≤ gb827)); clear HB; have HB := n0_; have BK827 := n1_; have GW827 := n2_; have GE827 := n3_; clear n0_ n1_ n2_ n3_; clear hb hbox hg) | ((with_reducible refine gate_dst (N := 3) rfl ?_); refine box_event ?hg (N := 3) ?hd (cs := #[.string a1_0, .int .i64 a1_1, .int .i64 a1_2, .int .i64 a1_3, .int .i64 a1_4, .int .i64 a1_5]) (t := 95) ?hr ?_; (case hd => rfl); (case hg => rfl); (case hr => first | (go_simp; done) | (go_simp; rfl)); intro gb828 hg w40 hbox hb; have n0_ := Aside0.mk (blk_below (g := gb827) (o := .cells #[.string a0_0, .int .i64 a0_1, .int .i64 a0_2, .int .i64 a0_3, .int .i64 a0_4, .int .i64 a0_5] 95 (0, 0)) (by (with_reducible repeat (first | refine blk_drewN ?_ _ | refine blk_drew ?_ | refine blk_alloc ?_ _)); exact BK827.out) hb); have n1_ := Aside0.mk (below_step (by repeat (first | (with_reducible first | exact HB.out | apply below_alloc | apply pw_below_drewN | apply below_drew1 | refine below_set ?_ GE827.out) | exact HB.out)) hb); have n2_ := Aside0.mk (hbox); have n3_ := Aside0.mk ((by rw [hg]; exact (below_size (by repeat (first | (with_reducible first | exact HB.out | apply below_alloc | apply pw_below_drewN | apply below_drew1 | refine below_set ?_ GE827.out) | exact HB.out))) : w.heap.size ≤ gb828)); have n4_ := Aside0.mk ((by rw [hg]; exact (below_size (by repeat (first | (with_reducible first | exact HB.out | apply below_alloc | apply pw_below_drewN | apply below_drew1 | refine below_set ?_ GE827.out) | exact HB.out))) : w.heap.size ≤ gb828)); have n5_ := Aside0.mk ((by rw [hg]; exact Nat.ne_of_lt (blk_lt (g := gb827) (o := .cells #[.string a0_0, .int .i64 a0_1, .int .i64 a0_2, .int .i64 a0_3, .int .i64 a0_4, .int .i64 a0_5] 95 (0, 0)) (by (with_reducible repeat (first | refine blk_drewN ?_ _ | refine blk_drew ?_ | refine blk_alloc ?_ _)); exact BK827.out)) : gb827 ≠ gb828)); have n6_ := Aside0.mk ((by rw [hg]; exact Nat.ne_of_gt (blk_lt (g := gb827) (o := .cells #[.string a0_0, .int .i64 a0_1, .int .i64 a0_2, .int .i64 a0_3, .int .i64 a0_4, .int .i64 a0_5] 95 (0, 0)) (by (with_reducible repeat (first | refine blk_drewN ?_ _ | refine blk_drew ?_ | refine blk_alloc ?_ _)); exact BK827.out)) : gb828 ≠ gb827)); clear BK827; clear HB; have BK827 := n0_; have HB := n1_; have BK828 := n2_; have GW828 := n3_; have GE828 := n4_; have NB827_828 := n5_; have NB828_827 := n6_; clear n0_ n1_ n2_ n3_ n4_ n5_ n6_; clear hb hbox hg; have hnb41 := NB827_828.out; have hnc41 := NB828_827.out; have hcz42_0 : w40.cell? ⟨gb827, 0, none⟩ = some (.string a0_0) := (blk_cell BK827.out 0).trans rfl; have hcz42_1 : w40.cell? ⟨gb827, 1, none⟩ = some (.int .i64 a0_1) := (blk_cell BK827.out 1).trans rfl; have hcz42_2 : w40.cell? ⟨gb827, 2, none⟩ = some (.int .i64 a0_2) := (blk_cell BK827.out 2).trans rfl; have hcz42_3 : w40.cell? ⟨gb827, 3, none⟩ = some (.int .i64 a0_3) := (blk_cell BK827.out 3).trans rfl; have hcz42_4 : w40.cell? ⟨gb827, 4, none⟩ = some (.int .i64 a0_4) := (blk_cell BK827.out 4).trans rfl; have hcz42_5 : w40.cell? ⟨gb827, 5, none⟩ = some (.int .i64 a0_5) := (blk_cell BK827.out 5).trans rfl; have hfz42_0 := blk_frozen BK827.out 0; have hfz42_1 := blk_frozen BK827.out 1; have hfz42_2 := blk_frozen BK827.out 2; have hfz42_3 := blk_frozen BK827.out 3; have hfz42_4 := blk_frozen BK827.out 4; have hfz42_5 := blk_frozen BK827.out 5; have hcz43_0 : w40.cell? ⟨gb828, 0, none⟩ = some (.string a1_0) := (blk_cell BK828.out 0).trans rfl; have hcz43_1 : w40.cell? ⟨gb828, 1, none⟩ = some (.int .i64 a1_1) := (blk_cell BK828.out 1).trans rfl; have hcz43_2 : w40.cell? ⟨gb828, 2, none⟩ = some (.int .i64 a1_2) := (blk_cell BK828.out 2).trans rfl; have hcz43_3 : w40.cell? ⟨gb828, 3, none⟩ = some (.int .i64 a1_3) := (blk_cell BK828.out 3).trans rfl; have hcz43_4 : w40.cell? ⟨gb828, 4, none⟩ = some (.int .i64 a1_4) := (blk_cell BK828.out 4).trans rfl; have hcz43_5 : w40.cell? ⟨gb828, 5, none⟩ = some (.int .i64 a1_5) := (blk_cell BK828.out 5).trans rfl; have hfz43_0 := blk_frozen BK828.out 0; have hfz43_1 := blk_frozen BK828.out 1; have hfz43_2 := blk_frozen BK828.out 2; have hfz43_3 := blk_frozen BK828.out 3; have hfz43_4 := blk_frozen BK828.out 4; have hfz43_5 := blk_frozen BK828.out 5))
    go_ret
    exact ⟨by first | rfl | (simp [errW_none, errW_some] <;> rfl) | (simp [*, errW_none, errW_some] <;> rfl), by repeat (first | (with_reducible first | exact HB.out | apply below_alloc | apply pw_below_drewN | apply below_drew1 | refine below_set ?_ GE827.out | refine below_set ?_ GE828.out) | exact HB.out)⟩
end Go.Proofs.Ythpcepojkhjlfaa.P
end
