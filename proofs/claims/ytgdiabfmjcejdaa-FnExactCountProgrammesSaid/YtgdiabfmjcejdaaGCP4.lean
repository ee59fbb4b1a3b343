/- Texts of this seat, merged: QImplValiditems. -/
import Derived.Test.YtgdiabfmjcejdaaGCP1
import Derived.Test.YtgdiabfmjcejdaaGCP3
section
namespace Go.Proofs.Ytgdiabfmjcejdaa.P
open Go.RowKit Go.Proofs.YtgdiabfmjcejdaaW.PrintWords Go.Proofs.YtgdiabfmjcejdaaW.PrintLast Go.Proofs.YtgdiabfmjcejdaaW.PrintMore
attribute [local go_sem] max2_int min2_int max_two min_two max_three min_three max_four min_four   -- for this text's walks alone
set_option linter.unusedVariables false
set_option linter.unusedSimpArgs false

/-! ### impl_ValidItems: function 88 -/
def impl_ValidItems.K0 : Array Bool := #[n_,n_,n_,n_,n_,n_,n_,n_,n_,n_,n_,n_,n_,n_,n_,n_,n_,n_]
def impl_ValidItems.K1 : Array Bool := #[y_,n_,n_,n_,n_,n_,n_,n_,n_,n_,n_,n_,n_,n_,n_,n_,n_,n_]
def impl_ValidItems.K2 : Array Bool := #[y_,y_,n_,n_,n_,n_,n_,n_,n_,n_,n_,n_,n_,n_,n_,n_,n_,n_]
def impl_ValidItems.K3 : Array Bool := #[y_,y_,y_,n_,n_,n_,n_,n_,n_,n_,n_,n_,n_,n_,n_,n_,n_,n_]
def impl_ValidItems.K4 : Array Bool := #[y_,y_,y_,y_,n_,n_,n_,n_,n_,n_,n_,n_,n_,n_,n_,n_,n_,n_]
def impl_ValidItems.K5 : Array Bool := #[y_,y_,y_,y_,y_,n_,n_,n_,n_,n_,n_,n_,n_,n_,n_,n_,n_,n_]
def impl_ValidItems.K6 : Array Bool := #[y_,y_,y_,y_,y_,y_,n_,n_,n_,n_,n_,n_,n_,n_,n_,n_,n_,n_]
def impl_ValidItems.K7 : Array Bool := #[y_,y_,y_,y_,y_,y_,y_,n_,n_,n_,n_,n_,n_,n_,n_,n_,n_,n_]
def impl_ValidItems.K8 : Array Bool := #[y_,y_,y_,y_,y_,y_,y_,y_,n_,n_,n_,n_,n_,n_,n_,n_,n_,n_]
def impl_ValidItems.K9 : Array Bool := #[y_,y_,y_,y_,y_,y_,y_,y_,n_,y_,n_,n_,n_,n_,n_,n_,n_,n_]
def impl_ValidItems.K10 : Array Bool := #[y_,y_,y_,y_,y_,y_,y_,y_,n_,y_,y_,n_,n_,n_,n_,n_,n_,n_]
def impl_ValidItems.K11 : Array Bool := #[y_,y_,y_,y_,y_,y_,y_,y_,n_,y_,y_,y_,n_,n_,n_,n_,n_,n_]
def impl_ValidItems.K12 : Array Bool := #[y_,y_,y_,y_,y_,y_,y_,y_,n_,y_,y_,y_,y_,n_,n_,n_,n_,n_]
def impl_ValidItems.K13 : Array Bool := #[y_,y_,y_,y_,y_,y_,y_,y_,n_,y_,y_,y_,y_,y_,n_,n_,n_,n_]
def impl_ValidItems.K14 : Array Bool := #[y_,y_,y_,y_,y_,y_,y_,y_,y_,y_,y_,y_,y_,y_,n_,n_,n_,n_]
def impl_ValidItems.K15 : Array Bool := #[y_,y_,y_,y_,y_,y_,y_,y_,y_,y_,y_,y_,y_,y_,y_,n_,n_,n_]
def impl_ValidItems.K16 : Array Bool := #[y_,y_,y_,y_,y_,y_,y_,y_,y_,y_,y_,y_,y_,y_,y_,y_,n_,n_]
def impl_ValidItems.K17 : Array Bool := #[y_,y_,y_,y_,y_,y_,y_,y_,y_,y_,y_,y_,y_,y_,y_,y_,y_,n_]
def impl_ValidItems.K18 : Array Bool := #[y_,y_,y_,y_,y_,y_,y_,y_,y_,y_,y_,y_,y_,y_,y_,y_,y_,y_]
def impl_ValidItems.K19 : Array Bool := #[y_,y_,y_,y_,y_,y_,y_,y_,y_,n_,n_,n_,n_,n_,n_,n_,n_,n_]
def impl_ValidItems.K20 : Array Bool := #[y_,y_,y_,y_,y_,y_,y_,y_,y_,y_,n_,n_,n_,n_,n_,n_,n_,n_]
def impl_ValidItems.K21 : Array Bool := #[y_,y_,y_,y_,y_,y_,y_,y_,y_,y_,y_,n_,n_,n_,n_,n_,n_,n_]
def impl_ValidItems.K22 : Array Bool := #[y_,y_,y_,y_,y_,y_,y_,y_,y_,y_,y_,y_,n_,n_,n_,n_,n_,n_]
def impl_ValidItems.K23 : Array Bool := #[y_,y_,y_,y_,y_,y_,y_,y_,y_,y_,y_,y_,y_,n_,n_,n_,n_,n_]
attribute [local go_sem] str_leq str_gtr str_geq
def impl_ValidItems.l0 : Nat → List (S75) → List (S75) → Int → Int → Option (Bool)
 | 0, _, _, _, _ => none
 | k + 1, x0, x8, x9, x10 => if x10 < x9 then (if 0 ≤ x10 then (if x10 < (x8.length : Int) then ((impl_ValidItem.f k ((rd_T75 x8 x10).f0) ((rd_T75 x8 x10).f1) ((rd_T75 x8 x10).f2) ((rd_T75 x8 x10).f3) ((rd_T75 x8 x10).f4) ((rd_T75 x8 x10).f5)).bind fun t358 => (if t358 = true then (if x10 > 0 then (if 0 ≤ (wrap64 (x10 - 1)) then (if (wrap64 (x10 - 1)) < (x0.length : Int) then (if ((Op.bytesLess (((rd_T75 x0 (wrap64 (x10 - 1))).f0).toList) (((rd_T75 x8 x10).f0).toList)) = true) then (impl_ValidItems.l0 k x0 x8 x9 (wrap64 (x10 + 1))) else (some false)) else (none)) else (none)) else (impl_ValidItems.l0 k x0 x8 x9 (wrap64 (x10 + 1)))) else (some false))) else (none)) else (none)) else (some true)
def impl_ValidItems.f (k : Nat) (l0 : List (S75)) : Option (Bool) := if (l0.length : Int) > 12 then (some false) else (impl_ValidItems.l0 k l0 l0 (l0.length : Int) 0)
def impl_ValidItems.T6 : Bool × List (List Nat × List Nat) := (true, [([], []), ([0], [0]), ([1], [1]), ([2, 1], [2]), ([3], [3]), ([4, 3], [3, 4]), ([5, 3, 3], [3, 5]), ([6], [6]), ([7, 6], [6, 7]), ([6], [6]), ([6], [6]), ([10, 6], [6, 10]), ([9, 11, 6], [6, 9, 11]), ([12, 6], [6, 12]), ([13, 6], [6, 13]), ([8, 14, 6], [6, 8, 14]), ([6, 15, 3], [3, 6, 15]), ([3, 16], [3, 16])])
def impl_ValidItems.B6 : List Nat := [0, 1, 3, 7, 15, 31, 63, 127, 255, 127, 127, 1151, 3711, 7807, 15999, 32767, 65535, 131071]
theorem impl_ValidItems.tab6 : rtab .any (opsOf Try.f88 6) = impl_ValidItems.T6 := by kernel_rfl
theorem impl_ValidItems.bits6 : waitsOk impl_ValidItems.T6.2 impl_ValidItems.B6 = true := by kernel_rfl
set_option maxHeartbeats 8000000 in
set_option maxRecDepth 100000 in
theorem impl_ValidItems.calls (k : Nat) (A0 : Option Addr) (c0 : Nat) (l0 : List (S75)) (r : Bool) (w : World) (hr0 : Kd.C k75 w A0 l0.length l0) (hc0 : l0.length ≤ c0) (h : impl_ValidItems.f k l0 = some r) :
  Calls Try.prog 88 #[.slice A0 l0.length c0] w fun e w' => e = .returned (.bool r) ∧ Below w.heap.size w w' := by
 have hu75 := Try.underlying75
 have HR0 := Aside0.mk hr0
 have HC0 := Aside0.mk hc0
 clear hr0 hc0
 have HB := Aside0.mk (Below.refl w.heap.size w)
 have H : (if (l0.length : Int) > 12 then (some false) else (impl_ValidItems.l0 k l0 l0 (l0.length : Int) 0)) = some r := h
 clear h
 by_cases c2 : (l0.length : Int) > 12
 ·rw [if_pos c2] at H
  have c2b0 : decide (12 < (l0.length : Int)) = true := decide_eq_true c2
  have c2b1 : decide (12 < l0.length) = true := decide_eq_true (by omega)
  clear c2
  obtain rfl := Option.some.inj H
  go_enter Try.func88, Try.ntmps88
  go_wp2
  go_ret
  exact ⟨by first | rfl | (simp [errW_none, errW_some] <;> rfl) | (simp [*, errW_none, errW_some] <;> rfl), by repeat (first | (with_reducible first | exact HB.out | apply below_alloc | apply pw_below_drewN | apply below_drew1) | exact HB.out)⟩
 ·rw [if_neg c2] at H
  have c2b0 : decide (12 < (l0.length : Int)) = false := decide_eq_false c2
  have c2b1 : decide (12 < l0.length) = false := decide_eq_false (by omega)
  clear c2
  have H' := Aside0.mk H
  clear H
  go_enter Try.func88, Try.ntmps88
  go_wp2
  go_loopg [10] k (fun kq v10 w' => ∃ (x10_1 : Int), v10 = .int .i64 x10_1 ∧ Aside0 (impl_ValidItems.l0 kq l0 l0 (l0.length : Int) x10_1 = some r) ∧ Aside0 (kq ≤ k) ∧ Aside0 (Below w.heap.size w w'))
  case atStart => exact ⟨(0), (by first | rfl | (simp; done) | (simp [*]; done)), H', ⟨Nat.le_refl _⟩, ⟨by repeat (first | (with_reducible first | exact HB.out | apply below_alloc | apply pw_below_drewN | apply below_drew1) | exact HB.out)⟩⟩
  case round =>
   clear H'
   try clear c2
   try clear c2b0
   try clear c2b1
   try clear p2
   obtain ⟨x10_1, rfl, HA, HK1, HB⟩ := hrel
   cases gk with
   | zero => exact absurd HA.out (by simp [impl_ValidItems.l0])
   | succ k1 =>
    have H := HA.out
    clear HA
    simp only [impl_ValidItems.l0] at H
    by_cases c3 : x10_1 < (l0.length : Int)
    ·rw [if_pos c3] at H
     have c3b0 : decide (x10_1 < (l0.length : Int)) = true := decide_eq_true c3
     clear c3
     by_cases c4 : 0 ≤ x10_1
     ·rw [if_pos c4] at H
      have c4b0 : decide (0 ≤ x10_1) = true := decide_eq_true c4
      clear c4
      by_cases c5 : x10_1 < (l0.length : Int)
      ·rw [if_pos c5] at H
       have c5b0 : decide (x10_1 < (l0.length : Int)) = true := decide_eq_true c5
       clear c5
       replace H := Option.bind_eq_some_iff.mp H
       obtain ⟨t358, A60, H⟩ := H
       replace H : (if t358 = true then (if x10_1 > 0 then (if 0 ≤ (wrap64 (x10_1 - 1)) then (if (wrap64 (x10_1 - 1)) < (l0.length : Int) then (if ((Op.bytesLess (((rd_T75 l0 (wrap64 (x10_1 - 1))).f0).toList) (((rd_T75 l0 x10_1).f0).toList)) = true) then (impl_ValidItems.l0 k1 l0 l0 (l0.length : Int) (wrap64 (x10_1 + 1))) else (some false)) else (none)) else (none)) else (impl_ValidItems.l0 k1 l0 l0 (l0.length : Int) (wrap64 (x10_1 + 1)))) else (some false)) = some r := H
       have A6 := Aside0.mk A60
       clear A60
       by_cases c7 : t358 = true
       ·subst c7
        have H1 : (if x10_1 > 0 then (if 0 ≤ (wrap64 (x10_1 - 1)) then (if (wrap64 (x10_1 - 1)) < (l0.length : Int) then (if ((Op.bytesLess (((rd_T75 l0 (wrap64 (x10_1 - 1))).f0).toList) (((rd_T75 l0 x10_1).f0).toList)) = true) then (impl_ValidItems.l0 k1 l0 l0 (l0.length : Int) (wrap64 (x10_1 + 1))) else (some false)) else (none)) else (none)) else (impl_ValidItems.l0 k1 l0 l0 (l0.length : Int) (wrap64 (x10_1 + 1)))) = some r := by rw [if_pos rfl] at H; exact H
        clear H
        have H := H1
        clear H1
        by_cases c8 : x10_1 > 0
        ·rw [if_pos c8] at H
         have c8b0 : decide (0 < x10_1) = true := decide_eq_true c8
         clear c8
         obtain ⟨ji9, hji9⟩ : ∃ j_ : Int, (wrap64 (x10_1 - 1)) = j_ := ⟨_, rfl⟩
         replace H : (if 0 ≤ (ji9) then (if (ji9) < (l0.length : Int) then (if ((Op.bytesLess (((rd_T75 l0 (ji9)).f0).toList) (((rd_T75 l0 x10_1).f0).toList)) = true) then (impl_ValidItems.l0 k1 l0 l0 (l0.length : Int) (wrap64 (x10_1 + 1))) else (some false)) else (none)) else (none)) = some r := by first | (rw [hji9] at H; exact H) | (simp only [hji9] at H ⊢; exact H)
         (try rw [hji9] at A6)
         have hji9w : (IntKind.i64.wrap (x10_1 - 1)) = ji9 := (i64_w _).trans hji9
         by_cases c10 : 0 ≤ (ji9)
         ·rw [if_pos c10] at H
          have c10b0 : decide (0 ≤ (ji9)) = true := decide_eq_true c10
          clear c10
          by_cases c11 : (ji9) < (l0.length : Int)
          ·rw [if_pos c11] at H
           have c11b0 : decide ((ji9) < (l0.length : Int)) = true := decide_eq_true c11
           clear c11
           by_cases c12 : ((Op.bytesLess (((rd_T75 l0 (ji9)).f0).toList) (((rd_T75 l0 x10_1).f0).toList)) = true)
           ·rw [if_pos c12] at H
            have c12b0 : (Op.bytesLess (((rd_T75 l0 (ji9)).f0).toList) (((rd_T75 l0 x10_1).f0).toList)) = true := c12
            clear c12
            have H' := Aside0.mk H
            clear H
            have p356 : 0 ≤ (x10_1 : Int) := of_decide_eq_true (by assumption)
            have q356 : x10_1 < (l0.length : Int) := of_decide_eq_true (by assumption)
            obtain ⟨ad356, e356, hx356_0, hx356_1, hx356_2, hx356_3, hx356_4, hx356_5⟩ := at_T75 HR0.out x10_1 p356 q356
            cases e356
            replace hx356_0 := (HB.out.cell (World.block_lt_of_cell? w _ hx356_0)).trans hx356_0
            replace hx356_1 := (HB.out.cell (World.block_lt_of_cell? w _ hx356_1)).trans hx356_1
            replace hx356_2 := (HB.out.cell (World.block_lt_of_cell? w _ hx356_2)).trans hx356_2
            replace hx356_3 := (HB.out.cell (World.block_lt_of_cell? w _ hx356_3)).trans hx356_3
            replace hx356_4 := (HB.out.cell (World.block_lt_of_cell? w _ hx356_4)).trans hx356_4
            replace hx356_5 := (HB.out.cell (World.block_lt_of_cell? w _ hx356_5)).trans hx356_5
            replace p356 := eq_true p356
            replace q356 := eq_true q356
            try go_wp2_with (first | ((with_reducible refine gate_dst (N := 4) rfl ?_); refine box_event ?hg (N := 4) ?hd (cs := #[.string (⟨#[]⟩ : ByteArray), .int .i64 0, .int .i64 0, .int .i64 0, .int .i64 0, .int .i64 0]) (t := 75) ?hr ?_; (case hd => rfl); (case hg => rfl); (case hr => first | (go_simp; done) | (go_simp; rfl)); intro gb357 hg w13 hbox hb; have n0_ := Aside0.mk (below_step (by repeat (first | exact HB.out | apply below_alloc)) hb); have n1_ := Aside0.mk (hbox); have n2_ := Aside0.mk ((by rw [hg]; exact (below_size (by repeat (first | exact HB.out | apply below_alloc))) : w.heap.size ≤ gb357)); have n3_ := Aside0.mk ((by rw [hg]; exact (below_size (by repeat (first | exact HB.out | apply below_alloc))) : w.heap.size ≤ gb357)); clear HB; have HB := n0_; have BK357 := n1_; have GW357 := n2_; have GE357 := n3_; clear n0_ n1_ n2_ n3_; clear hb hbox hg; have hcz14_0 : w13.cell? ⟨gb357, 0, none⟩ = some (.string (⟨#[]⟩ : ByteArray)) := (blk_cell BK357.out 0).trans rfl; have hcz14_1 : w13.cell? ⟨gb357, 1, none⟩ = some (.int .i64 0) := (blk_cell BK357.out 1).trans rfl; have hcz14_2 : w13.cell? ⟨gb357, 2, none⟩ = some (.int .i64 0) := (blk_cell BK357.out 2).trans rfl; have hcz14_3 : w13.cell? ⟨gb357, 3, none⟩ = some (.int .i64 0) := (blk_cell BK357.out 3).trans rfl; have hcz14_4 : w13.cell? ⟨gb357, 4, none⟩ = some (.int .i64 0) := (blk_cell BK357.out 4).trans rfl; have hcz14_5 : w13.cell? ⟨gb357, 5, none⟩ = some (.int .i64 0) := (blk_cell BK357.out 5).trans rfl; have hfz14_0 := blk_frozen BK357.out 0; have hfz14_1 := blk_frozen BK357.out 1; have hfz14_2 := blk_frozen BK357.out 2; have hfz14_3 := blk_frozen BK357.out 3; have hfz14_4 := blk_frozen BK357.out 4; have hfz14_5 := blk_frozen BK357.out 5))
            have n0_ : Aside0 (((((((w13.setCell ⟨gb357, 0, none⟩ (.string ((rd_T75 l0 x10_1).f0))).setCell ⟨gb357, 1, none⟩ (.int .i64 ((rd_T75 l0 x10_1).f1))).setCell ⟨gb357, 2, none⟩ (.int .i64 ((rd_T75 l0 x10_1).f2))).setCell ⟨gb357, 3, none⟩ (.int .i64 ((rd_T75 l0 x10_1).f3))).setCell ⟨gb357, 4, none⟩ (.int .i64 ((rd_T75 l0 x10_1).f4))).setCell ⟨gb357, 5, none⟩ (.int .i64 ((rd_T75 l0 x10_1).f5))).heap[gb357]? = some (.cells #[.string ((rd_T75 l0 x10_1).f0), .int .i64 ((rd_T75 l0 x10_1).f1), .int .i64 ((rd_T75 l0 x10_1).f2), .int .i64 ((rd_T75 l0 x10_1).f3), .int .i64 ((rd_T75 l0 x10_1).f4), .int .i64 ((rd_T75 l0 x10_1).f5)] 75 (0, 0))) := ⟨by (with_reducible repeat (first | refine blk_drewN ?_ _ | refine blk_drew ?_ | refine blk_alloc ?_ _)); refine blk_put (cs := #[.string ((rd_T75 l0 x10_1).f0), .int .i64 ((rd_T75 l0 x10_1).f1), .int .i64 ((rd_T75 l0 x10_1).f2), .int .i64 ((rd_T75 l0 x10_1).f3), .int .i64 ((rd_T75 l0 x10_1).f4), .int .i64 0]) ?_ 5 _ rfl; (with_reducible repeat (first | refine blk_drewN ?_ _ | refine blk_drew ?_ | refine blk_alloc ?_ _)); refine blk_put (cs := #[.string ((rd_T75 l0 x10_1).f0), .int .i64 ((rd_T75 l0 x10_1).f1), .int .i64 ((rd_T75 l0 x10_1).f2), .int .i64 ((rd_T75 l0 x10_1).f3), .int .i64 0, .int .i64 0]) ?_ 4 _ rfl; (with_reducible repeat (first | refine blk_drewN ?_ _ | refine blk_drew ?_ | refine blk_alloc ?_ _)); refine blk_put (cs := #[.string ((rd_T75 l0 x10_1).f0), .int .i64 ((rd_T75 l0 x10_1).f1), .int .i64 ((rd_T75 l0 x10_1).f2), .int .i64 0, .int .i64 0, .int .i64 0]) ?_ 3 _ rfl; (with_reducible repeat (first | refine blk_drewN ?_ _ | refine blk_drew ?_ | refine blk_alloc ?_ _)); refine blk_put (cs := #[.string ((rd_T75 l0 x10_1).f0), .int .i64 ((rd_T75 l0 x10_1).f1), .int .i64 0, .int .i64 0, .int .i64 0, .int .i64 0]) ?_ 2 _ rfl; (with_reducible repeat (first | refine blk_drewN ?_ _ | refine blk_drew ?_ | refine blk_alloc ?_ _)); refine blk_put (cs := #[.string ((rd_T75 l0 x10_1).f0), .int .i64 0, .int .i64 0, .int .i64 0, .int .i64 0, .int .i64 0]) ?_ 1 _ rfl; (with_reducible repeat (first | refine blk_drewN ?_ _ | refine blk_drew ?_ | refine blk_alloc ?_ _)); refine blk_put (cs := #[.string (⟨#[]⟩ : ByteArray), .int .i64 0, .int .i64 0, .int .i64 0, .int .i64 0, .int .i64 0]) ?_ 0 _ rfl; (with_reducible repeat (first | refine blk_drewN ?_ _ | refine blk_drew ?_ | refine blk_alloc ?_ _)); exact BK357.out⟩
            have n1_ : Aside0 (Below w.heap.size w ((((((w13.setCell ⟨gb357, 0, none⟩ (.string ((rd_T75 l0 x10_1).f0))).setCell ⟨gb357, 1, none⟩ (.int .i64 ((rd_T75 l0 x10_1).f1))).setCell ⟨gb357, 2, none⟩ (.int .i64 ((rd_T75 l0 x10_1).f2))).setCell ⟨gb357, 3, none⟩ (.int .i64 ((rd_T75 l0 x10_1).f3))).setCell ⟨gb357, 4, none⟩ (.int .i64 ((rd_T75 l0 x10_1).f4))).setCell ⟨gb357, 5, none⟩ (.int .i64 ((rd_T75 l0 x10_1).f5)))) := ⟨by repeat (first | (with_reducible first | exact HB.out | apply below_alloc | apply pw_below_drewN | apply below_drew1 | refine below_set ?_ GE357.out) | exact HB.out)⟩
            (try clear BK357)
            (try clear HB)
            generalize ((((((w13.setCell ⟨gb357, 0, none⟩ (.string ((rd_T75 l0 x10_1).f0))).setCell ⟨gb357, 1, none⟩ (.int .i64 ((rd_T75 l0 x10_1).f1))).setCell ⟨gb357, 2, none⟩ (.int .i64 ((rd_T75 l0 x10_1).f2))).setCell ⟨gb357, 3, none⟩ (.int .i64 ((rd_T75 l0 x10_1).f3))).setCell ⟨gb357, 4, none⟩ (.int .i64 ((rd_T75 l0 x10_1).f4))).setCell ⟨gb357, 5, none⟩ (.int .i64 ((rd_T75 l0 x10_1).f5))) = w15 at n0_ n1_ ⊢
            have BK357 := n0_
            have HB := n1_
            clear n0_ n1_
            have n0_ := Aside0.mk (blk_drew BK357.out)
            have n1_ := Aside0.mk (below_drew1 HB.out)
            clear BK357
            clear HB
            have BK357 := n0_
            have HB := n1_
            clear n0_ n1_
            have p359 : 0 ≤ ((ji9) : Int) := of_decide_eq_true (by assumption)
            have q359 : (ji9) < (l0.length : Int) := of_decide_eq_true (by assumption)
            obtain ⟨ad359, e359, hx359_0, hx359_1, hx359_2, hx359_3, hx359_4, hx359_5⟩ := at_T75 HR0.out (ji9) p359 q359
            have hw359_5 := hx359_5
            have hw359_4 := hx359_4
            have hw359_3 := hx359_3
            have hw359_2 := hx359_2
            have hw359_1 := hx359_1
            have hw359_0 := hx359_0
            obtain rfl : ad356 = ad359 := (by injection e359)
            replace hx359_0 := (HB.out.cell (World.block_lt_of_cell? w _ hx359_0)).trans hx359_0
            replace hx359_1 := (HB.out.cell (World.block_lt_of_cell? w _ hx359_1)).trans hx359_1
            replace hx359_2 := (HB.out.cell (World.block_lt_of_cell? w _ hx359_2)).trans hx359_2
            replace hx359_3 := (HB.out.cell (World.block_lt_of_cell? w _ hx359_3)).trans hx359_3
            replace hx359_4 := (HB.out.cell (World.block_lt_of_cell? w _ hx359_4)).trans hx359_4
            replace hx359_5 := (HB.out.cell (World.block_lt_of_cell? w _ hx359_5)).trans hx359_5
            replace p359 := eq_true p359
            replace q359 := eq_true q359
            refine start_ (n := 18) (S := fun w' => w'.cell? ⟨gb357, 0, none⟩ = some (.string ((rd_T75 l0 x10_1).f0)) ∧ w'.cell? ⟨gb357, 1, none⟩ = some (.int .i64 ((rd_T75 l0 x10_1).f1)) ∧ w'.cell? ⟨gb357, 2, none⟩ = some (.int .i64 ((rd_T75 l0 x10_1).f2)) ∧ w'.cell? ⟨gb357, 3, none⟩ = some (.int .i64 ((rd_T75 l0 x10_1).f3)) ∧ w'.cell? ⟨gb357, 4, none⟩ = some (.int .i64 ((rd_T75 l0 x10_1).f4)) ∧ w'.cell? ⟨gb357, 5, none⟩ = some (.int .i64 ((rd_T75 l0 x10_1).f5)) ∧ w'.cell? (ad356.add (((ji9)).toNat * 6)) = some (.string ((rd_T75 l0 (ji9)).f0)) ∧ w'.cell? ⟨(ad356.add (((ji9)).toNat * 6)).block, (ad356.add (((ji9)).toNat * 6)).off + 1, none⟩ = some (.int .i64 ((rd_T75 l0 (ji9)).f1)) ∧ w'.cell? ⟨(ad356.add (((ji9)).toNat * 6)).block, (ad356.add (((ji9)).toNat * 6)).off + 2, none⟩ = some (.int .i64 ((rd_T75 l0 (ji9)).f2)) ∧ w'.cell? ⟨(ad356.add (((ji9)).toNat * 6)).block, (ad356.add (((ji9)).toNat * 6)).off + 3, none⟩ = some (.int .i64 ((rd_T75 l0 (ji9)).f3)) ∧ w'.cell? ⟨(ad356.add (((ji9)).toNat * 6)).block, (ad356.add (((ji9)).toNat * 6)).off + 4, none⟩ = some (.int .i64 ((rd_T75 l0 (ji9)).f4)) ∧ w'.cell? ⟨(ad356.add (((ji9)).toNat * 6)).block, (ad356.add (((ji9)).toNat * 6)).off + 5, none⟩ = some (.int .i64 ((rd_T75 l0 (ji9)).f5))) (ds := []) impl_ValidItems.K0 (by kernel_rfl) rfl rfl ⟨(blk_cell BK357.out 0).trans rfl, (blk_cell BK357.out 1).trans rfl, (blk_cell BK357.out 2).trans rfl, (blk_cell BK357.out 3).trans rfl, (blk_cell BK357.out 4).trans rfl, (blk_cell BK357.out 5).trans rfl, ((HB.out.cell (World.block_lt_of_cell? w _ hw359_0)).trans hw359_0), ((HB.out.cell (World.block_lt_of_cell? w _ hw359_1)).trans hw359_1), ((HB.out.cell (World.block_lt_of_cell? w _ hw359_2)).trans hw359_2), ((HB.out.cell (World.block_lt_of_cell? w _ hw359_3)).trans hw359_3), ((HB.out.cell (World.block_lt_of_cell? w _ hw359_4)).trans hw359_4), ((HB.out.cell (World.block_lt_of_cell? w _ hw359_5)).trans hw359_5)⟩ (fun hHeld => ?_); refine with_tabW impl_ValidItems.tab6 impl_ValidItems.bits6 (fun HT_ HW_ => ?_)
            generalize w15.drew = w16 at BK357 HB hx359_0 hx359_1 hx359_2 hx359_3 hx359_4 hx359_5 hHeld ⊢
            refine take_ (i := 0) (N := some 15) (v := ?_) (a' := ?_) impl_ValidItems.K1 rfl rfl (take_ofW HT_.out HW_.out (by kernel_rfl)) (fun _ _ _ h => h) (Or.inl ⟨by rfl, ?_⟩) hHeld ?_ ?_
            rotate_left
            ·rintro w' ⟨s0, s1, s2, s3, s4, s5, s6, s7, s8, s9, s10, s11⟩
             go_simp
             with_reducible rfl
            rotate_left
            ·go_simp
             rfl
            refine one_ (i := 1) (N := some 16) impl_ValidItems.K2 rfl rfl (one_of HT_.out (by kernel_rfl)) (by decide) (fun K hK => ?_)
            refine goes_ Try.func109 (by kernel_rfl) rfl #[.agg #[.string ((rd_T75 l0 x10_1).f0), .int .i64 ((rd_T75 l0 x10_1).f1), .int .i64 ((rd_T75 l0 x10_1).f2), .int .i64 ((rd_T75 l0 x10_1).f3), .int .i64 ((rd_T75 l0 x10_1).f4), .int .i64 ((rd_T75 l0 x10_1).f5)]] (by rfl) rfl rfl (by first | rfl | (simp only [List.map_toArray, List.map_cons, List.map_nil]; done) | (simp only [List.map_toArray, List.map_cons, List.map_nil]; rfl)) ?_
            with_reducible refine (impl_ValidItem.calls k1 ((rd_T75 l0 x10_1).f0) ((rd_T75 l0 x10_1).f1) ((rd_T75 l0 x10_1).f2) ((rd_T75 l0 x10_1).f3) ((rd_T75 l0 x10_1).f4) ((rd_T75 l0 x10_1).f5) true _ A6.out).mono ?_
            rintro e w17 ⟨rfl, hb⟩
            refine ⟨_, rfl, ?_⟩
            have n0_ := Aside0.mk (blk_below (g := gb357) (o := .cells #[.string ((rd_T75 l0 x10_1).f0), .int .i64 ((rd_T75 l0 x10_1).f1), .int .i64 ((rd_T75 l0 x10_1).f2), .int .i64 ((rd_T75 l0 x10_1).f3), .int .i64 ((rd_T75 l0 x10_1).f4), .int .i64 ((rd_T75 l0 x10_1).f5)] 75 (0, 0)) (by repeat first | exact BK357.out | refine blk_drewN ?_ _ | refine blk_drew ?_ | refine blk_alloc ?_ _) hb)
            have n1_ := Aside0.mk (below_step (by repeat (first | (with_reducible first | exact HB.out | apply below_alloc | apply pw_below_drewN | apply below_drew1 | refine below_set ?_ GE357.out) | exact HB.out)) hb)
            clear BK357
            clear HB
            have BK357 := n0_
            have HB := n1_
            clear n0_ n1_
            (try clear hb)
            (try clear hb2)
            (try clear hk)
            (try clear hi)
            refine hK.out _ _ ⟨(blk_cell BK357.out 0).trans rfl, (blk_cell BK357.out 1).trans rfl, (blk_cell BK357.out 2).trans rfl, (blk_cell BK357.out 3).trans rfl, (blk_cell BK357.out 4).trans rfl, (blk_cell BK357.out 5).trans rfl, ((HB.out.cell (World.block_lt_of_cell? w _ hw359_0)).trans hw359_0), ((HB.out.cell (World.block_lt_of_cell? w _ hw359_1)).trans hw359_1), ((HB.out.cell (World.block_lt_of_cell? w _ hw359_2)).trans hw359_2), ((HB.out.cell (World.block_lt_of_cell? w _ hw359_3)).trans hw359_3), ((HB.out.cell (World.block_lt_of_cell? w _ hw359_4)).trans hw359_4), ((HB.out.cell (World.block_lt_of_cell? w _ hw359_5)).trans hw359_5)⟩ (fun hHeld => ?_)
            clear hK K
            refine norm_ (a' := ?_) ?_ ?_
            rotate_left
            ·show Act.put _ (some 16) _ = _
             go_simp
             rfl
            refine pure_ (i := 2) (N := some 17) (v := ?_) (a' := ?_) impl_ValidItems.K3 rfl rfl (any_of HT_.out (by kernel_rfl)) (fun _ _ _ h => h) (Or.inl ⟨by rfl, ?_⟩) ?_ ?_; rotate_left; (·intro w'; go_simp; with_reducible rfl); rotate_left; (·go_simp; rfl)
            refine pure_ (i := 3) (N := some 18) (v := ?_) (a' := ?_) impl_ValidItems.K4 rfl rfl (any_of HT_.out (by kernel_rfl)) (fun _ _ _ h => h) (Or.inl ⟨by rfl, ?_⟩) ?_ ?_; rotate_left; (·intro w'; go_simp; with_reducible rfl); rotate_left; (·go_simp; rfl)
            refine pure_ (i := 4) (N := some 19) (v := ?_) (a' := ?_) impl_ValidItems.K5 rfl rfl (any_of HT_.out (by kernel_rfl)) (fun _ _ _ h => h) (Or.inl ⟨by rfl, ?_⟩) ?_ ?_; rotate_left; (·intro w'; go_simp; with_reducible rfl); rotate_left; (·go_simp; rfl)
            refine pure_ (i := 5) (N := some 20) (v := ?_) (a' := ?_) impl_ValidItems.K6 rfl rfl (any_of HT_.out (by kernel_rfl)) (fun _ _ _ h => h) (Or.inl ⟨by rfl, ?_⟩) ?_ ?_; rotate_left; (·intro w'; go_simp; with_reducible rfl); rotate_left; (·go_simp; rfl)
            refine pure_ (i := 6) (N := some 21) (v := ?_) (a' := ?_) impl_ValidItems.K7 rfl rfl (any_of HT_.out (by kernel_rfl)) (fun _ _ _ h => h) (Or.inl ⟨by rfl, ?_⟩) ?_ ?_; rotate_left; (·intro w'; go_simp; with_reducible rfl); rotate_left; (·go_simp; rfl)
            refine pure_ (i := 7) (N := some 22) (v := ?_) (a' := ?_) impl_ValidItems.K8 rfl rfl (any_of HT_.out (by kernel_rfl)) (fun _ _ _ h => h) (Or.inl ⟨by rfl, ?_⟩) ?_ ?_; rotate_left; (·intro w'; go_simp; with_reducible rfl); rotate_left; (·go_simp; rfl)
            refine pure_ (i := 9) (N := some 24) (v := ?_) (a' := ?_) impl_ValidItems.K9 rfl rfl (any_of HT_.out (by kernel_rfl)) (fun _ _ _ h => h) (Or.inl ⟨by rfl, ?_⟩) ?_ ?_; rotate_left; (·intro w'; go_simp; with_reducible rfl); rotate_left; (·go_simp; rfl)
            refine pure_ (i := 10) (N := some 25) (v := ?_) (a' := ?_) impl_ValidItems.K10 rfl rfl (any_of HT_.out (by kernel_rfl)) (fun _ _ _ h => h) (Or.inl ⟨by rfl, ?_⟩) ?_ ?_; rotate_left; (·intro w'; go_simp; with_reducible rfl); rotate_left; (·go_simp; rfl)
            refine pure_ (i := 11) (N := some 26) (v := ?_) (a' := ?_) impl_ValidItems.K11 rfl rfl (any_of HT_.out (by kernel_rfl)) (fun _ _ _ h => h) (Or.inl ⟨by rfl, ?_⟩) ?_ ?_; rotate_left; (·intro w'; go_simp; with_reducible rfl); rotate_left; (·go_simp; rfl)
            refine pure_ (i := 12) (N := some 27) (v := ?_) (a' := ?_) impl_ValidItems.K12 rfl rfl (any_of HT_.out (by kernel_rfl)) (fun _ _ _ h => h) (Or.inl ⟨by rfl, ?_⟩) ?_ ?_; rotate_left; (·intro w'; go_simp; with_reducible rfl); rotate_left; (·go_simp; rfl)
            refine pure_ (i := 13) (N := some 28) (v := ?_) (a' := ?_) impl_ValidItems.K13 rfl rfl (any_of HT_.out (by kernel_rfl)) (fun _ _ _ h => h) (Or.inl ⟨by rfl, ?_⟩) ?_ ?_; rotate_left; (·intro w'; go_simp; with_reducible rfl); rotate_left; (·go_simp; rfl)
            refine take_ (i := 8) (N := some 23) (v := ?_) (a' := ?_) impl_ValidItems.K14 rfl rfl (take_ofW HT_.out HW_.out (by kernel_rfl)) (fun _ _ _ h => h) (Or.inl ⟨by rfl, ?_⟩) hHeld ?_ ?_
            rotate_left
            ·rintro w' ⟨s0, s1, s2, s3, s4, s5, s6, s7, s8, s9, s10, s11⟩
             go_simp
             with_reducible rfl
            rotate_left
            ·go_simp
             rfl
            refine take_ (i := 14) (N := some 29) (v := ?_) (a' := ?_) impl_ValidItems.K15 rfl rfl (take_ofW HT_.out HW_.out (by kernel_rfl)) (fun _ _ _ h => h) (Or.inl ⟨by rfl, ?_⟩) hHeld ?_ ?_
            rotate_left
            ·rintro w' ⟨s0, s1, s2, s3, s4, s5, s6, s7, s8, s9, s10, s11⟩
             go_simp
             with_reducible rfl
            rotate_left
            ·go_simp
             rfl
            refine pure_ (i := 15) (N := some 30) (v := ?_) (a' := ?_) impl_ValidItems.K16 rfl rfl (any_of HT_.out (by kernel_rfl)) (fun _ _ _ h => h) (Or.inl ⟨by rfl, ?_⟩) ?_ ?_; rotate_left; (·intro w'; go_simp; with_reducible rfl); rotate_left; (·go_simp; rfl)
            refine pure_ (i := 16) (N := some 31) (v := ?_) (a' := ?_) impl_ValidItems.K17 rfl rfl (any_of HT_.out (by kernel_rfl)) (fun _ _ _ h => h) (Or.inl ⟨by rfl, ?_⟩) ?_ ?_; rotate_left; (·intro w'; go_simp; with_reducible rfl); rotate_left; (·go_simp; rfl)
            refine pure_ (i := 17) (N := some 32) (v := ?_) (a' := ?_) impl_ValidItems.K18 rfl rfl (any_of HT_.out (by kernel_rfl)) (fun _ _ _ h => h) (Or.inl ⟨by rfl, ?_⟩) ?_ ?_; rotate_left; (·intro w'; go_simp; with_reducible rfl); rotate_left; (·go_simp; rfl)
            refine done_ (done_of HT_.out (by kernel_rfl)) ?_
            try go_wp2
            go_roundg k1
            case measure => have := HK1.out; omega
            case rel => exact ⟨(wrap64 (x10_1 + 1)), (by first | rfl | (simp; done) | (simp [*]; done)), H', ⟨by have := HK1.out; omega⟩, ⟨by repeat (first | (with_reducible first | exact HB.out | apply below_alloc | apply pw_below_drewN | apply below_drew1 | refine below_set ?_ GE357.out) | exact HB.out)⟩⟩
           ·rw [if_neg c12] at H
            have c12b0 : (Op.bytesLess (((rd_T75 l0 (ji9)).f0).toList) (((rd_T75 l0 x10_1).f0).toList)) = false := by simpa using c12
            clear c12
            obtain rfl := Option.some.inj H
            have p356 : 0 ≤ (x10_1 : Int) := of_decide_eq_true (by assumption)
            have q356 : x10_1 < (l0.length : Int) := of_decide_eq_true (by assumption)
            obtain ⟨ad356, e356, hx356_0, hx356_1, hx356_2, hx356_3, hx356_4, hx356_5⟩ := at_T75 HR0.out x10_1 p356 q356
            cases e356
            replace hx356_0 := (HB.out.cell (World.block_lt_of_cell? w _ hx356_0)).trans hx356_0
            replace hx356_1 := (HB.out.cell (World.block_lt_of_cell? w _ hx356_1)).trans hx356_1
            replace hx356_2 := (HB.out.cell (World.block_lt_of_cell? w _ hx356_2)).trans hx356_2
            replace hx356_3 := (HB.out.cell (World.block_lt_of_cell? w _ hx356_3)).trans hx356_3
            replace hx356_4 := (HB.out.cell (World.block_lt_of_cell? w _ hx356_4)).trans hx356_4
            replace hx356_5 := (HB.out.cell (World.block_lt_of_cell? w _ hx356_5)).trans hx356_5
            replace p356 := eq_true p356
            replace q356 := eq_true q356
            try go_wp2_with (first | ((with_reducible refine gate_dst (N := 4) rfl ?_); refine box_event ?hg (N := 4) ?hd (cs := #[.string (⟨#[]⟩ : ByteArray), .int .i64 0, .int .i64 0, .int .i64 0, .int .i64 0, .int .i64 0]) (t := 75) ?hr ?_; (case hd => rfl); (case hg => rfl); (case hr => first | (go_simp; done) | (go_simp; rfl)); intro gb357 hg w18 hbox hb; have n0_ := Aside0.mk (below_step (by repeat (first | exact HB.out | apply below_alloc)) hb); have n1_ := Aside0.mk (hbox); have n2_ := Aside0.mk ((by rw [hg]; exact (below_size (by repeat (first | exact HB.out | apply below_alloc))) : w.heap.size ≤ gb357)); have n3_ := Aside0.mk ((by rw [hg]; exact (below_size (by repeat (first | exact HB.out | apply below_alloc))) : w.heap.size ≤ gb357)); clear HB; have HB := n0_; have BK357 := n1_; have GW357 := n2_; have GE357 := n3_; clear n0_ n1_ n2_ n3_; clear hb hbox hg; have hcz19_0 : w18.cell? ⟨gb357, 0, none⟩ = some (.string (⟨#[]⟩ : ByteArray)) := (blk_cell BK357.out 0).trans rfl; have hcz19_1 : w18.cell? ⟨gb357, 1, none⟩ = some (.int .i64 0) := (blk_cell BK357.out 1).trans rfl; have hcz19_2 : w18.cell? ⟨gb357, 2, none⟩ = some (.int .i64 0) := (blk_cell BK357.out 2).trans rfl; have hcz19_3 : w18.cell? ⟨gb357, 3, none⟩ = some (.int .i64 0) := (blk_cell BK357.out 3).trans rfl; have hcz19_4 : w18.cell? ⟨gb357, 4, none⟩ = some (.int .i64 0) := (blk_cell BK357.out 4).trans rfl; have hcz19_5 : w18.cell? ⟨gb357, 5, none⟩ = some (.int .i64 0) := (blk_cell BK357.out 5).trans rfl; have hfz19_0 := blk_frozen BK357.out 0; have hfz19_1 := blk_frozen BK357.out 1; have hfz19_2 := blk_frozen BK357.out 2; have hfz19_3 := blk_frozen BK357.out 3; have hfz19_4 := blk_frozen BK357.out 4; have hfz19_5 := blk_frozen BK357.out 5))
            have n0_ : Aside0 (((((((w18.setCell ⟨gb357, 0, none⟩ (.string ((rd_T75 l0 x10_1).f0))).setCell ⟨gb357, 1, none⟩ (.int .i64 ((rd_T75 l0 x10_1).f1))).setCell ⟨gb357, 2, none⟩ (.int .i64 ((rd_T75 l0 x10_1).f2))).setCell ⟨gb357, 3, none⟩ (.int .i64 ((rd_T75 l0 x10_1).f3))).setCell ⟨gb357, 4, none⟩ (.int .i64 ((rd_T75 l0 x10_1).f4))).setCell ⟨gb357, 5, none⟩ (.int .i64 ((rd_T75 l0 x10_1).f5))).heap[gb357]? = some (.cells #[.string ((rd_T75 l0 x10_1).f0), .int .i64 ((rd_T75 l0 x10_1).f1), .int .i64 ((rd_T75 l0 x10_1).f2), .int .i64 ((rd_T75 l0 x10_1).f3), .int .i64 ((rd_T75 l0 x10_1).f4), .int .i64 ((rd_T75 l0 x10_1).f5)] 75 (0, 0))) := ⟨by (with_reducible repeat (first | refine blk_drewN ?_ _ | refine blk_drew ?_ | refine blk_alloc ?_ _)); refine blk_put (cs := #[.string ((rd_T75 l0 x10_1).f0), .int .i64 ((rd_T75 l0 x10_1).f1), .int .i64 ((rd_T75 l0 x10_1).f2), .int .i64 ((rd_T75 l0 x10_1).f3), .int .i64 ((rd_T75 l0 x10_1).f4), .int .i64 0]) ?_ 5 _ rfl; (with_reducible repeat (first | refine blk_drewN ?_ _ | refine blk_drew ?_ | refine blk_alloc ?_ _)); refine blk_put (cs := #[.string ((rd_T75 l0 x10_1).f0), .int .i64 ((rd_T75 l0 x10_1).f1), .int .i64 ((rd_T75 l0 x10_1).f2), .int .i64 ((rd_T75 l0 x10_1).f3), .int .i64 0, .int .i64 0]) ?_ 4 _ rfl; (with_reducible repeat (first | refine blk_drewN ?_ _ | refine blk_drew ?_ | refine blk_alloc ?_ _)); refine blk_put (cs := #[.string ((rd_T75 l0 x10_1).f0), .int .i64 ((rd_T75 l0 x10_1).f1), .int .i64 ((rd_T75 l0 x10_1).f2), .int .i64 0, .int .i64 0, .int .i64 0]) ?_ 3 _ rfl; (with_reducible repeat (first | refine blk_drewN ?_ _ | refine blk_drew ?_ | refine blk_alloc ?_ _)); refine blk_put (cs := #[.string ((rd_T75 l0 x10_1).f0), .int .i64 ((rd_T75 l0 x10_1).f1), .int .i64 0, .int .i64 0, .int .i64 0, .int .i64 0]) ?_ 2 _ rfl; (with_reducible repeat (first | refine blk_drewN ?_ _ | refine blk_drew ?_ | refine blk_alloc ?_ _)); refine blk_put (cs := #[.string ((rd_T75 l0 x10_1).f0), .int .i64 0, .int .i64 0, .int .i64 0, .int .i64 0, .int .i64 0]) ?_ 1 _ rfl; (with_reducible repeat (first | refine blk_drewN ?_ _ | refine blk_drew ?_ | refine blk_alloc ?_ _)); refine blk_put (cs := #[.string (⟨#[]⟩ : ByteArray), .int .i64 0, .int .i64 0, .int .i64 0, .int .i64 0, .int .i64 0]) ?_ 0 _ rfl; (with_reducible repeat (first | refine blk_drewN ?_ _ | refine blk_drew ?_ | refine blk_alloc ?_ _)); exact BK357.out⟩
            have n1_ : Aside0 (Below w.heap.size w ((((((w18.setCell ⟨gb357, 0, none⟩ (.string ((rd_T75 l0 x10_1).f0))).setCell ⟨gb357, 1, none⟩ (.int .i64 ((rd_T75 l0 x10_1).f1))).setCell ⟨gb357, 2, none⟩ (.int .i64 ((rd_T75 l0 x10_1).f2))).setCell ⟨gb357, 3, none⟩ (.int .i64 ((rd_T75 l0 x10_1).f3))).setCell ⟨gb357, 4, none⟩ (.int .i64 ((rd_T75 l0 x10_1).f4))).setCell ⟨gb357, 5, none⟩ (.int .i64 ((rd_T75 l0 x10_1).f5)))) := ⟨by repeat (first | (with_reducible first | exact HB.out | apply below_alloc | apply pw_below_drewN | apply below_drew1 | refine below_set ?_ GE357.out) | exact HB.out)⟩
            (try clear BK357)
            (try clear HB)
            generalize ((((((w18.setCell ⟨gb357, 0, none⟩ (.string ((rd_T75 l0 x10_1).f0))).setCell ⟨gb357, 1, none⟩ (.int .i64 ((rd_T75 l0 x10_1).f1))).setCell ⟨gb357, 2, none⟩ (.int .i64 ((rd_T75 l0 x10_1).f2))).setCell ⟨gb357, 3, none⟩ (.int .i64 ((rd_T75 l0 x10_1).f3))).setCell ⟨gb357, 4, none⟩ (.int .i64 ((rd_T75 l0 x10_1).f4))).setCell ⟨gb357, 5, none⟩ (.int .i64 ((rd_T75 l0 x10_1).f5))) = w20 at n0_ n1_ ⊢
            have BK357 := n0_
            have HB := n1_
            clear n0_ n1_
            have n0_ := Aside0.mk (blk_drew BK357.out)
            have n1_ := Aside0.mk (below_drew1 HB.out)
            clear BK357
            clear HB
            have BK357 := n0_
            have HB := n1_
            clear n0_ n1_
            have p359 : 0 ≤ ((ji9) : Int) := of_decide_eq_true (by assumption)
            have q359 : (ji9) < (l0.length : Int) := of_decide_eq_true (by assumption)
            obtain ⟨ad359, e359, hx359_0, hx359_1, hx359_2, hx359_3, hx359_4, hx359_5⟩ := at_T75 HR0.out (ji9) p359 q359
            have hw359_5 := hx359_5
            have hw359_4 := hx359_4
            have hw359_3 := hx359_3
            have hw359_2 := hx359_2
            have hw359_1 := hx359_1
            have hw359_0 := hx359_0
            obtain rfl : ad356 = ad359 := (by injection e359)
            replace hx359_0 := (HB.out.cell (World.block_lt_of_cell? w _ hx359_0)).trans hx359_0
            replace hx359_1 := (HB.out.cell (World.block_lt_of_cell? w _ hx359_1)).trans hx359_1
            replace hx359_2 := (HB.out.cell (World.block_lt_of_cell? w _ hx359_2)).trans hx359_2
            replace hx359_3 := (HB.out.cell (World.block_lt_of_cell? w _ hx359_3)).trans hx359_3
            replace hx359_4 := (HB.out.cell (World.block_lt_of_cell? w _ hx359_4)).trans hx359_4
            replace hx359_5 := (HB.out.cell (World.block_lt_of_cell? w _ hx359_5)).trans hx359_5
            replace p359 := eq_true p359
            replace q359 := eq_true q359
            refine start_ (n := 18) (S := fun w' => w'.cell? ⟨gb357, 0, none⟩ = some (.string ((rd_T75 l0 x10_1).f0)) ∧ w'.cell? ⟨gb357, 1, none⟩ = some (.int .i64 ((rd_T75 l0 x10_1).f1)) ∧ w'.cell? ⟨gb357, 2, none⟩ = some (.int .i64 ((rd_T75 l0 x10_1).f2)) ∧ w'.cell? ⟨gb357, 3, none⟩ = some (.int .i64 ((rd_T75 l0 x10_1).f3)) ∧ w'.cell? ⟨gb357, 4, none⟩ = some (.int .i64 ((rd_T75 l0 x10_1).f4)) ∧ w'.cell? ⟨gb357, 5, none⟩ = some (.int .i64 ((rd_T75 l0 x10_1).f5)) ∧ w'.cell? (ad356.add (((ji9)).toNat * 6)) = some (.string ((rd_T75 l0 (ji9)).f0)) ∧ w'.cell? ⟨(ad356.add (((ji9)).toNat * 6)).block, (ad356.add (((ji9)).toNat * 6)).off + 1, none⟩ = some (.int .i64 ((rd_T75 l0 (ji9)).f1)) ∧ w'.cell? ⟨(ad356.add (((ji9)).toNat * 6)).block, (ad356.add (((ji9)).toNat * 6)).off + 2, none⟩ = some (.int .i64 ((rd_T75 l0 (ji9)).f2)) ∧ w'.cell? ⟨(ad356.add (((ji9)).toNat * 6)).block, (ad356.add (((ji9)).toNat * 6)).off + 3, none⟩ = some (.int .i64 ((rd_T75 l0 (ji9)).f3)) ∧ w'.cell? ⟨(ad356.add (((ji9)).toNat * 6)).block, (ad356.add (((ji9)).toNat * 6)).off + 4, none⟩ = some (.int .i64 ((rd_T75 l0 (ji9)).f4)) ∧ w'.cell? ⟨(ad356.add (((ji9)).toNat * 6)).block, (ad356.add (((ji9)).toNat * 6)).off + 5, none⟩ = some (.int .i64 ((rd_T75 l0 (ji9)).f5))) (ds := []) impl_ValidItems.K0 (by kernel_rfl) rfl rfl ⟨(blk_cell BK357.out 0).trans rfl, (blk_cell BK357.out 1).trans rfl, (blk_cell BK357.out 2).trans rfl, (blk_cell BK357.out 3).trans rfl, (blk_cell BK357.out 4).trans rfl, (blk_cell BK357.out 5).trans rfl, ((HB.out.cell (World.block_lt_of_cell? w _ hw359_0)).trans hw359_0), ((HB.out.cell (World.block_lt_of_cell? w _ hw359_1)).trans hw359_1), ((HB.out.cell (World.block_lt_of_cell? w _ hw359_2)).trans hw359_2), ((HB.out.cell (World.block_lt_of_cell? w _ hw359_3)).trans hw359_3), ((HB.out.cell (World.block_lt_of_cell? w _ hw359_4)).trans hw359_4), ((HB.out.cell (World.block_lt_of_cell? w _ hw359_5)).trans hw359_5)⟩ (fun hHeld => ?_); refine with_tabW impl_ValidItems.tab6 impl_ValidItems.bits6 (fun HT_ HW_ => ?_)
            generalize w20.drew = w21 at BK357 HB hx359_0 hx359_1 hx359_2 hx359_3 hx359_4 hx359_5 hHeld ⊢
            refine take_ (i := 0) (N := some 15) (v := ?_) (a' := ?_) impl_ValidItems.K1 rfl rfl (take_ofW HT_.out HW_.out (by kernel_rfl)) (fun _ _ _ h => h) (Or.inl ⟨by rfl, ?_⟩) hHeld ?_ ?_
            rotate_left
            ·rintro w' ⟨s0, s1, s2, s3, s4, s5, s6, s7, s8, s9, s10, s11⟩
             go_simp
             with_reducible rfl
            rotate_left
            ·go_simp
             rfl
            refine one_ (i := 1) (N := some 16) impl_ValidItems.K2 rfl rfl (one_of HT_.out (by kernel_rfl)) (by decide) (fun K hK => ?_)
            refine goes_ Try.func109 (by kernel_rfl) rfl #[.agg #[.string ((rd_T75 l0 x10_1).f0), .int .i64 ((rd_T75 l0 x10_1).f1), .int .i64 ((rd_T75 l0 x10_1).f2), .int .i64 ((rd_T75 l0 x10_1).f3), .int .i64 ((rd_T75 l0 x10_1).f4), .int .i64 ((rd_T75 l0 x10_1).f5)]] (by rfl) rfl rfl (by first | rfl | (simp only [List.map_toArray, List.map_cons, List.map_nil]; done) | (simp only [List.map_toArray, List.map_cons, List.map_nil]; rfl)) ?_
            with_reducible refine (impl_ValidItem.calls k1 ((rd_T75 l0 x10_1).f0) ((rd_T75 l0 x10_1).f1) ((rd_T75 l0 x10_1).f2) ((rd_T75 l0 x10_1).f3) ((rd_T75 l0 x10_1).f4) ((rd_T75 l0 x10_1).f5) true _ A6.out).mono ?_
            rintro e w22 ⟨rfl, hb⟩
            refine ⟨_, rfl, ?_⟩
            have n0_ := Aside0.mk (blk_below (g := gb357) (o := .cells #[.string ((rd_T75 l0 x10_1).f0), .int .i64 ((rd_T75 l0 x10_1).f1), .int .i64 ((rd_T75 l0 x10_1).f2), .int .i64 ((rd_T75 l0 x10_1).f3), .int .i64 ((rd_T75 l0 x10_1).f4), .int .i64 ((rd_T75 l0 x10_1).f5)] 75 (0, 0)) (by repeat first | exact BK357.out | refine blk_drewN ?_ _ | refine blk_drew ?_ | refine blk_alloc ?_ _) hb)
            have n1_ := Aside0.mk (below_step (by repeat (first | (with_reducible first | exact HB.out | apply below_alloc | apply pw_below_drewN | apply below_drew1 | refine below_set ?_ GE357.out) | exact HB.out)) hb)
            clear BK357
            clear HB
            have BK357 := n0_
            have HB := n1_
            clear n0_ n1_
            (try clear hb)
            (try clear hb2)
            (try clear hk)
            (try clear hi)
            refine hK.out _ _ ⟨(blk_cell BK357.out 0).trans rfl, (blk_cell BK357.out 1).trans rfl, (blk_cell BK357.out 2).trans rfl, (blk_cell BK357.out 3).trans rfl, (blk_cell BK357.out 4).trans rfl, (blk_cell BK357.out 5).trans rfl, ((HB.out.cell (World.block_lt_of_cell? w _ hw359_0)).trans hw359_0), ((HB.out.cell (World.block_lt_of_cell? w _ hw359_1)).trans hw359_1), ((HB.out.cell (World.block_lt_of_cell? w _ hw359_2)).trans hw359_2), ((HB.out.cell (World.block_lt_of_cell? w _ hw359_3)).trans hw359_3), ((HB.out.cell (World.block_lt_of_cell? w _ hw359_4)).trans hw359_4), ((HB.out.cell (World.block_lt_of_cell? w _ hw359_5)).trans hw359_5)⟩ (fun hHeld => ?_)
            clear hK K
            refine norm_ (a' := ?_) ?_ ?_
            rotate_left
            ·show Act.put _ (some 16) _ = _
             go_simp
             rfl
            refine pure_ (i := 2) (N := some 17) (v := ?_) (a' := ?_) impl_ValidItems.K3 rfl rfl (any_of HT_.out (by kernel_rfl)) (fun _ _ _ h => h) (Or.inl ⟨by rfl, ?_⟩) ?_ ?_; rotate_left; (·intro w'; go_simp; with_reducible rfl); rotate_left; (·go_simp; rfl)
            refine pure_ (i := 3) (N := some 18) (v := ?_) (a' := ?_) impl_ValidItems.K4 rfl rfl (any_of HT_.out (by kernel_rfl)) (fun _ _ _ h => h) (Or.inl ⟨by rfl, ?_⟩) ?_ ?_; rotate_left; (·intro w'; go_simp; with_reducible rfl); rotate_left; (·go_simp; rfl)
            refine pure_ (i := 4) (N := some 19) (v := ?_) (a' := ?_) impl_ValidItems.K5 rfl rfl (any_of HT_.out (by kernel_rfl)) (fun _ _ _ h => h) (Or.inl ⟨by rfl, ?_⟩) ?_ ?_; rotate_left; (·intro w'; go_simp; with_reducible rfl); rotate_left; (·go_simp; rfl)
            refine pure_ (i := 5) (N := some 20) (v := ?_) (a' := ?_) impl_ValidItems.K6 rfl rfl (any_of HT_.out (by kernel_rfl)) (fun _ _ _ h => h) (Or.inl ⟨by rfl, ?_⟩) ?_ ?_; rotate_left; (·intro w'; go_simp; with_reducible rfl); rotate_left; (·go_simp; rfl)
            refine pure_ (i := 6) (N := some 21) (v := ?_) (a' := ?_) impl_ValidItems.K7 rfl rfl (any_of HT_.out (by kernel_rfl)) (fun _ _ _ h => h) (Or.inl ⟨by rfl, ?_⟩) ?_ ?_; rotate_left; (·intro w'; go_simp; with_reducible rfl); rotate_left; (·go_simp; rfl)
            refine pure_ (i := 7) (N := some 22) (v := ?_) (a' := ?_) impl_ValidItems.K8 rfl rfl (any_of HT_.out (by kernel_rfl)) (fun _ _ _ h => h) (Or.inl ⟨by rfl, ?_⟩) ?_ ?_; rotate_left; (·intro w'; go_simp; with_reducible rfl); rotate_left; (·go_simp; rfl)
            refine pure_ (i := 9) (N := some 24) (v := ?_) (a' := ?_) impl_ValidItems.K9 rfl rfl (any_of HT_.out (by kernel_rfl)) (fun _ _ _ h => h) (Or.inl ⟨by rfl, ?_⟩) ?_ ?_; rotate_left; (·intro w'; go_simp; with_reducible rfl); rotate_left; (·go_simp; rfl)
            refine pure_ (i := 10) (N := some 25) (v := ?_) (a' := ?_) impl_ValidItems.K10 rfl rfl (any_of HT_.out (by kernel_rfl)) (fun _ _ _ h => h) (Or.inl ⟨by rfl, ?_⟩) ?_ ?_; rotate_left; (·intro w'; go_simp; with_reducible rfl); rotate_left; (·go_simp; rfl)
            refine pure_ (i := 11) (N := some 26) (v := ?_) (a' := ?_) impl_ValidItems.K11 rfl rfl (any_of HT_.out (by kernel_rfl)) (fun _ _ _ h => h) (Or.inl ⟨by rfl, ?_⟩) ?_ ?_; rotate_left; (·intro w'; go_simp; with_reducible rfl); rotate_left; (·go_simp; rfl)
            refine pure_ (i := 12) (N := some 27) (v := ?_) (a' := ?_) impl_ValidItems.K12 rfl rfl (any_of HT_.out (by kernel_rfl)) (fun _ _ _ h => h) (Or.inl ⟨by rfl, ?_⟩) ?_ ?_; rotate_left; (·intro w'; go_simp; with_reducible rfl); rotate_left; (·go_simp; rfl)
            refine pure_ (i := 13) (N := some 28) (v := ?_) (a' := ?_) impl_ValidItems.K13 rfl rfl (any_of HT_.out (by kernel_rfl)) (fun _ _ _ h => h) (Or.inl ⟨by rfl, ?_⟩) ?_ ?_; rotate_left; (·intro w'; go_simp; with_reducible rfl); rotate_left; (·go_simp; rfl)
            refine take_ (i := 8) (N := some 23) (v := ?_) (a' := ?_) impl_ValidItems.K14 rfl rfl (take_ofW HT_.out HW_.out (by kernel_rfl)) (fun _ _ _ h => h) (Or.inl ⟨by rfl, ?_⟩) hHeld ?_ ?_
            rotate_left
            ·rintro w' ⟨s0, s1, s2, s3, s4, s5, s6, s7, s8, s9, s10, s11⟩
             go_simp
             with_reducible rfl
            rotate_left
            ·go_simp
             rfl
            refine take_ (i := 14) (N := some 29) (v := ?_) (a' := ?_) impl_ValidItems.K15 rfl rfl (take_ofW HT_.out HW_.out (by kernel_rfl)) (fun _ _ _ h => h) (Or.inl ⟨by rfl, ?_⟩) hHeld ?_ ?_
            rotate_left
            ·rintro w' ⟨s0, s1, s2, s3, s4, s5, s6, s7, s8, s9, s10, s11⟩
             go_simp
             with_reducible rfl
            rotate_left
            ·go_simp
             rfl
            refine pure_ (i := 15) (N := some 30) (v := ?_) (a' := ?_) impl_ValidItems.K16 rfl rfl (any_of HT_.out (by kernel_rfl)) (fun _ _ _ h => h) (Or.inl ⟨by rfl, ?_⟩) ?_ ?_; rotate_left; (·intro w'; go_simp; with_reducible rfl); rotate_left; (·go_simp; rfl)
            refine pure_ (i := 16) (N := some 31) (v := ?_) (a' := ?_) impl_ValidItems.K17 rfl rfl (any_of HT_.out (by kernel_rfl)) (fun _ _ _ h => h) (Or.inl ⟨by rfl, ?_⟩) ?_ ?_; rotate_left; (·intro w'; go_simp; with_reducible rfl); rotate_left; (·go_simp; rfl)
            refine pure_ (i := 17) (N := some 32) (v := ?_) (a' := ?_) impl_ValidItems.K18 rfl rfl (any_of HT_.out (by kernel_rfl)) (fun _ _ _ h => h) (Or.inl ⟨by rfl, ?_⟩) ?_ ?_; rotate_left; (·intro w'; go_simp; with_reducible rfl); rotate_left; (·go_simp; rfl)
            refine done_ (done_of HT_.out (by kernel_rfl)) ?_
            try go_wp2
            go_ret
            exact ⟨by first | rfl | (simp [errW_none, errW_some] <;> rfl) | (simp only [← hji9]; first | rfl | (simp [errW_none, errW_some] <;> rfl)) | (simp [*, errW_none, errW_some] <;> rfl), by repeat (first | (with_reducible first | exact HB.out | apply below_alloc | apply pw_below_drewN | apply below_drew1 | refine below_set ?_ GE357.out) | exact HB.out)⟩
          ·rw [if_neg c11] at H
           exact absurd H (by simp)
         ·rw [if_neg c10] at H
          exact absurd H (by simp)
        ·rw [if_neg c8] at H
         have c8b0 : decide (0 < x10_1) = false := decide_eq_false c8
         clear c8
         have H' := Aside0.mk H
         clear H
         have p356 : 0 ≤ (x10_1 : Int) := of_decide_eq_true (by assumption)
         have q356 : x10_1 < (l0.length : Int) := of_decide_eq_true (by assumption)
         obtain ⟨ad356, e356, hx356_0, hx356_1, hx356_2, hx356_3, hx356_4, hx356_5⟩ := at_T75 HR0.out x10_1 p356 q356
         cases e356
         replace hx356_0 := (HB.out.cell (World.block_lt_of_cell? w _ hx356_0)).trans hx356_0
         replace hx356_1 := (HB.out.cell (World.block_lt_of_cell? w _ hx356_1)).trans hx356_1
         replace hx356_2 := (HB.out.cell (World.block_lt_of_cell? w _ hx356_2)).trans hx356_2
         replace hx356_3 := (HB.out.cell (World.block_lt_of_cell? w _ hx356_3)).trans hx356_3
         replace hx356_4 := (HB.out.cell (World.block_lt_of_cell? w _ hx356_4)).trans hx356_4
         replace hx356_5 := (HB.out.cell (World.block_lt_of_cell? w _ hx356_5)).trans hx356_5
         replace p356 := eq_true p356
         replace q356 := eq_true q356
         try go_wp2_with (first | ((with_reducible refine gate_dst (N := 4) rfl ?_); refine box_event ?hg (N := 4) ?hd (cs := #[.string (⟨#[]⟩ : ByteArray), .int .i64 0, .int .i64 0, .int .i64 0, .int .i64 0, .int .i64 0]) (t := 75) ?hr ?_; (case hd => rfl); (case hg => rfl); (case hr => first | (go_simp; done) | (go_simp; rfl)); intro gb357 hg w23 hbox hb; have n0_ := Aside0.mk (below_step (by repeat (first | exact HB.out | apply below_alloc)) hb); have n1_ := Aside0.mk (hbox); have n2_ := Aside0.mk ((by rw [hg]; exact (below_size (by repeat (first | exact HB.out | apply below_alloc))) : w.heap.size ≤ gb357)); have n3_ := Aside0.mk ((by rw [hg]; exact (below_size (by repeat (first | exact HB.out | apply below_alloc))) : w.heap.size ≤ gb357)); clear HB; have HB := n0_; have BK357 := n1_; have GW357 := n2_; have GE357 := n3_; clear n0_ n1_ n2_ n3_; clear hb hbox hg; have hcz24_0 : w23.cell? ⟨gb357, 0, none⟩ = some (.string (⟨#[]⟩ : ByteArray)) := (blk_cell BK357.out 0).trans rfl; have hcz24_1 : w23.cell? ⟨gb357, 1, none⟩ = some (.int .i64 0) := (blk_cell BK357.out 1).trans rfl; have hcz24_2 : w23.cell? ⟨gb357, 2, none⟩ = some (.int .i64 0) := (blk_cell BK357.out 2).trans rfl; have hcz24_3 : w23.cell? ⟨gb357, 3, none⟩ = some (.int .i64 0) := (blk_cell BK357.out 3).trans rfl; have hcz24_4 : w23.cell? ⟨gb357, 4, none⟩ = some (.int .i64 0) := (blk_cell BK357.out 4).trans rfl; have hcz24_5 : w23.cell? ⟨gb357, 5, none⟩ = some (.int .i64 0) := (blk_cell BK357.out 5).trans rfl; have hfz24_0 := blk_frozen BK357.out 0; have hfz24_1 := blk_frozen BK357.out 1; have hfz24_2 := blk_frozen BK357.out 2; have hfz24_3 := blk_frozen BK357.out 3; have hfz24_4 := blk_frozen BK357.out 4; have hfz24_5 := blk_frozen BK357.out 5))
         have n0_ : Aside0 (((((((w23.setCell ⟨gb357, 0, none⟩ (.string ((rd_T75 l0 x10_1).f0))).setCell ⟨gb357, 1, none⟩ (.int .i64 ((rd_T75 l0 x10_1).f1))).setCell ⟨gb357, 2, none⟩ (.int .i64 ((rd_T75 l0 x10_1).f2))).setCell ⟨gb357, 3, none⟩ (.int .i64 ((rd_T75 l0 x10_1).f3))).setCell ⟨gb357, 4, none⟩ (.int .i64 ((rd_T75 l0 x10_1).f4))).setCell ⟨gb357, 5, none⟩ (.int .i64 ((rd_T75 l0 x10_1).f5))).heap[gb357]? = some (.cells #[.string ((rd_T75 l0 x10_1).f0), .int .i64 ((rd_T75 l0 x10_1).f1), .int .i64 ((rd_T75 l0 x10_1).f2), .int .i64 ((rd_T75 l0 x10_1).f3), .int .i64 ((rd_T75 l0 x10_1).f4), .int .i64 ((rd_T75 l0 x10_1).f5)] 75 (0, 0))) := ⟨by (with_reducible repeat (first | refine blk_drewN ?_ _ | refine blk_drew ?_ | refine blk_alloc ?_ _)); refine blk_put (cs := #[.string ((rd_T75 l0 x10_1).f0), .int .i64 ((rd_T75 l0 x10_1).f1), .int .i64 ((rd_T75 l0 x10_1).f2), .int .i64 ((rd_T75 l0 x10_1).f3), .int .i64 ((rd_T75 l0 x10_1).f4), .int .i64 0]) ?_ 5 _ rfl; (with_reducible repeat (first | refine blk_drewN ?_ _ | refine blk_drew ?_ | refine blk_alloc ?_ _)); refine blk_put (cs := #[.string ((rd_T75 l0 x10_1).f0), .int .i64 ((rd_T75 l0 x10_1).f1), .int .i64 ((rd_T75 l0 x10_1).f2), .int .i64 ((rd_T75 l0 x10_1).f3), .int .i64 0, .int .i64 0]) ?_ 4 _ rfl; (with_reducible repeat (first | refine blk_drewN ?_ _ | refine blk_drew ?_ | refine blk_alloc ?_ _)); refine blk_put (cs := #[.string ((rd_T75 l0 x10_1).f0), .int .i64 ((rd_T75 l0 x10_1).f1), .int .i64 ((rd_T75 l0 x10_1).f2), .int .i64 0, .int .i64 0, .int .i64 0]) ?_ 3 _ rfl; (with_reducible repeat (first | refine blk_drewN ?_ _ | refine blk_drew ?_ | refine blk_alloc ?_ _)); refine blk_put (cs := #[.string ((rd_T75 l0 x10_1).f0), .int .i64 ((rd_T75 l0 x10_1).f1), .int .i64 0, .int .i64 0, .int .i64 0, .int .i64 0]) ?_ 2 _ rfl; (with_reducible repeat (first | refine blk_drewN ?_ _ | refine blk_drew ?_ | refine blk_alloc ?_ _)); refine blk_put (cs := #[.string ((rd_T75 l0 x10_1).f0), .int .i64 0, .int .i64 0, .int .i64 0, .int .i64 0, .int .i64 0]) ?_ 1 _ rfl; (with_reducible repeat (first | refine blk_drewN ?_ _ | refine blk_drew ?_ | refine blk_alloc ?_ _)); refine blk_put (cs := #[.string (⟨#[]⟩ : ByteArray), .int .i64 0, .int .i64 0, .int .i64 0, .int .i64 0, .int .i64 0]) ?_ 0 _ rfl; (with_reducible repeat (first | refine blk_drewN ?_ _ | refine blk_drew ?_ | refine blk_alloc ?_ _)); exact BK357.out⟩
         have n1_ : Aside0 (Below w.heap.size w ((((((w23.setCell ⟨gb357, 0, none⟩ (.string ((rd_T75 l0 x10_1).f0))).setCell ⟨gb357, 1, none⟩ (.int .i64 ((rd_T75 l0 x10_1).f1))).setCell ⟨gb357, 2, none⟩ (.int .i64 ((rd_T75 l0 x10_1).f2))).setCell ⟨gb357, 3, none⟩ (.int .i64 ((rd_T75 l0 x10_1).f3))).setCell ⟨gb357, 4, none⟩ (.int .i64 ((rd_T75 l0 x10_1).f4))).setCell ⟨gb357, 5, none⟩ (.int .i64 ((rd_T75 l0 x10_1).f5)))) := ⟨by repeat (first | (with_reducible first | exact HB.out | apply below_alloc | apply pw_below_drewN | apply below_drew1 | refine below_set ?_ GE357.out) | exact HB.out)⟩
         (try clear BK357)
         (try clear HB)
         generalize ((((((w23.setCell ⟨gb357, 0, none⟩ (.string ((rd_T75 l0 x10_1).f0))).setCell ⟨gb357, 1, none⟩ (.int .i64 ((rd_T75 l0 x10_1).f1))).setCell ⟨gb357, 2, none⟩ (.int .i64 ((rd_T75 l0 x10_1).f2))).setCell ⟨gb357, 3, none⟩ (.int .i64 ((rd_T75 l0 x10_1).f3))).setCell ⟨gb357, 4, none⟩ (.int .i64 ((rd_T75 l0 x10_1).f4))).setCell ⟨gb357, 5, none⟩ (.int .i64 ((rd_T75 l0 x10_1).f5))) = w25 at n0_ n1_ ⊢
         have BK357 := n0_
         have HB := n1_
         clear n0_ n1_
         have n0_ := Aside0.mk (blk_drew BK357.out)
         have n1_ := Aside0.mk (below_drew1 HB.out)
         clear BK357
         clear HB
         have BK357 := n0_
         have HB := n1_
         clear n0_ n1_
         refine start_ (n := 18) (S := fun w' => w'.cell? ⟨gb357, 0, none⟩ = some (.string ((rd_T75 l0 x10_1).f0)) ∧ w'.cell? ⟨gb357, 1, none⟩ = some (.int .i64 ((rd_T75 l0 x10_1).f1)) ∧ w'.cell? ⟨gb357, 2, none⟩ = some (.int .i64 ((rd_T75 l0 x10_1).f2)) ∧ w'.cell? ⟨gb357, 3, none⟩ = some (.int .i64 ((rd_T75 l0 x10_1).f3)) ∧ w'.cell? ⟨gb357, 4, none⟩ = some (.int .i64 ((rd_T75 l0 x10_1).f4)) ∧ w'.cell? ⟨gb357, 5, none⟩ = some (.int .i64 ((rd_T75 l0 x10_1).f5))) (ds := []) impl_ValidItems.K0 (by kernel_rfl) rfl rfl ⟨(blk_cell BK357.out 0).trans rfl, (blk_cell BK357.out 1).trans rfl, (blk_cell BK357.out 2).trans rfl, (blk_cell BK357.out 3).trans rfl, (blk_cell BK357.out 4).trans rfl, (blk_cell BK357.out 5).trans rfl⟩ (fun hHeld => ?_); refine with_tabW impl_ValidItems.tab6 impl_ValidItems.bits6 (fun HT_ HW_ => ?_)
         generalize w25.drew = w26 at BK357 HB hHeld ⊢
         refine take_ (i := 0) (N := some 15) (v := ?_) (a' := ?_) impl_ValidItems.K1 rfl rfl (take_ofW HT_.out HW_.out (by kernel_rfl)) (fun _ _ _ h => h) (Or.inl ⟨by rfl, ?_⟩) hHeld ?_ ?_
         rotate_left
         ·rintro w' ⟨s0, s1, s2, s3, s4, s5⟩
          go_simp
          with_reducible rfl
         rotate_left
         ·go_simp
          rfl
         refine one_ (i := 1) (N := some 16) impl_ValidItems.K2 rfl rfl (one_of HT_.out (by kernel_rfl)) (by decide) (fun K hK => ?_)
         refine goes_ Try.func109 (by kernel_rfl) rfl #[.agg #[.string ((rd_T75 l0 x10_1).f0), .int .i64 ((rd_T75 l0 x10_1).f1), .int .i64 ((rd_T75 l0 x10_1).f2), .int .i64 ((rd_T75 l0 x10_1).f3), .int .i64 ((rd_T75 l0 x10_1).f4), .int .i64 ((rd_T75 l0 x10_1).f5)]] (by rfl) rfl rfl (by first | rfl | (simp only [List.map_toArray, List.map_cons, List.map_nil]; done) | (simp only [List.map_toArray, List.map_cons, List.map_nil]; rfl)) ?_
         with_reducible refine (impl_ValidItem.calls k1 ((rd_T75 l0 x10_1).f0) ((rd_T75 l0 x10_1).f1) ((rd_T75 l0 x10_1).f2) ((rd_T75 l0 x10_1).f3) ((rd_T75 l0 x10_1).f4) ((rd_T75 l0 x10_1).f5) true _ A6.out).mono ?_
         rintro e w27 ⟨rfl, hb⟩
         refine ⟨_, rfl, ?_⟩
         have n0_ := Aside0.mk (blk_below (g := gb357) (o := .cells #[.string ((rd_T75 l0 x10_1).f0), .int .i64 ((rd_T75 l0 x10_1).f1), .int .i64 ((rd_T75 l0 x10_1).f2), .int .i64 ((rd_T75 l0 x10_1).f3), .int .i64 ((rd_T75 l0 x10_1).f4), .int .i64 ((rd_T75 l0 x10_1).f5)] 75 (0, 0)) (by repeat first | exact BK357.out | refine blk_drewN ?_ _ | refine blk_drew ?_ | refine blk_alloc ?_ _) hb)
         have n1_ := Aside0.mk (below_step (by repeat (first | (with_reducible first | exact HB.out | apply below_alloc | apply pw_below_drewN | apply below_drew1 | refine below_set ?_ GE357.out) | exact HB.out)) hb)
         clear BK357
         clear HB
         have BK357 := n0_
         have HB := n1_
         clear n0_ n1_
         (try clear hb)
         (try clear hb2)
         (try clear hk)
         (try clear hi)
         refine hK.out _ _ ⟨(blk_cell BK357.out 0).trans rfl, (blk_cell BK357.out 1).trans rfl, (blk_cell BK357.out 2).trans rfl, (blk_cell BK357.out 3).trans rfl, (blk_cell BK357.out 4).trans rfl, (blk_cell BK357.out 5).trans rfl⟩ (fun hHeld => ?_)
         clear hK K
         refine norm_ (a' := ?_) ?_ ?_
         rotate_left
         ·show Act.put _ (some 16) _ = _
          go_simp
          rfl
         refine pure_ (i := 2) (N := some 17) (v := ?_) (a' := ?_) impl_ValidItems.K3 rfl rfl (any_of HT_.out (by kernel_rfl)) (fun _ _ _ h => h) (Or.inl ⟨by rfl, ?_⟩) ?_ ?_; rotate_left; (·intro w'; go_simp; with_reducible rfl); rotate_left; (·go_simp; rfl)
         refine pure_ (i := 3) (N := some 18) (v := ?_) (a' := ?_) impl_ValidItems.K4 rfl rfl (any_of HT_.out (by kernel_rfl)) (fun _ _ _ h => h) (Or.inl ⟨by rfl, ?_⟩) ?_ ?_; rotate_left; (·intro w'; go_simp; with_reducible rfl); rotate_left; (·go_simp; rfl)
         refine pure_ (i := 4) (N := some 19) (v := ?_) (a' := ?_) impl_ValidItems.K5 rfl rfl (any_of HT_.out (by kernel_rfl)) (fun _ _ _ h => h) (Or.inl ⟨by rfl, ?_⟩) ?_ ?_; rotate_left; (·intro w'; go_simp; with_reducible rfl); rotate_left; (·go_simp; rfl)
         refine pure_ (i := 5) (N := some 20) (v := ?_) (a' := ?_) impl_ValidItems.K6 rfl rfl (any_of HT_.out (by kernel_rfl)) (fun _ _ _ h => h) (Or.inl ⟨by rfl, ?_⟩) ?_ ?_; rotate_left; (·intro w'; go_simp; with_reducible rfl); rotate_left; (·go_simp; rfl)
         refine pure_ (i := 6) (N := some 21) (v := ?_) (a' := ?_) impl_ValidItems.K7 rfl rfl (any_of HT_.out (by kernel_rfl)) (fun _ _ _ h => h) (Or.inl ⟨by rfl, ?_⟩) ?_ ?_; rotate_left; (·intro w'; go_simp; with_reducible rfl); rotate_left; (·go_simp; rfl)
         refine pure_ (i := 7) (N := some 22) (v := undef) (a' := ?_) impl_ValidItems.K8 rfl rfl (any_of HT_.out (by kernel_rfl)) (fun _ _ _ h => h) (Or.inr ⟨by rfl, rfl⟩) ?_ ?_
         rotate_left
         ·go_simp
          rfl
         refine pure_ (i := 8) (N := some 23) (v := undef) (a' := ?_) impl_ValidItems.K19 rfl rfl (any_of HT_.out (by kernel_rfl)) (fun _ _ _ h => h) (Or.inr ⟨by rfl, rfl⟩) ?_ ?_
         rotate_left
         ·go_simp
          rfl
         refine pure_ (i := 9) (N := some 24) (v := undef) (a' := ?_) impl_ValidItems.K20 rfl rfl (any_of HT_.out (by kernel_rfl)) (fun _ _ _ h => h) (Or.inr ⟨by rfl, rfl⟩) ?_ ?_
         rotate_left
         ·go_simp
          rfl
         refine pure_ (i := 10) (N := some 25) (v := undef) (a' := ?_) impl_ValidItems.K21 rfl rfl (any_of HT_.out (by kernel_rfl)) (fun _ _ _ h => h) (Or.inr ⟨by rfl, rfl⟩) ?_ ?_
         rotate_left
         ·go_simp
          rfl
         refine pure_ (i := 11) (N := some 26) (v := undef) (a' := ?_) impl_ValidItems.K22 rfl rfl (any_of HT_.out (by kernel_rfl)) (fun _ _ _ h => h) (Or.inr ⟨by rfl, rfl⟩) ?_ ?_
         rotate_left
         ·go_simp
          rfl
         refine pure_ (i := 12) (N := some 27) (v := undef) (a' := ?_) impl_ValidItems.K23 rfl rfl (any_of HT_.out (by kernel_rfl)) (fun _ _ _ h => h) (Or.inr ⟨by rfl, rfl⟩) ?_ ?_
         rotate_left
         ·go_simp
          rfl
         refine pure_ (i := 13) (N := some 28) (v := undef) (a' := ?_) impl_ValidItems.K14 rfl rfl (any_of HT_.out (by kernel_rfl)) (fun _ _ _ h => h) (Or.inr ⟨by rfl, rfl⟩) ?_ ?_
         rotate_left
         ·go_simp
          rfl
         refine pure_ (i := 14) (N := some 29) (v := undef) (a' := ?_) impl_ValidItems.K15 rfl rfl (any_of HT_.out (by kernel_rfl)) (fun _ _ _ h => h) (Or.inr ⟨by rfl, rfl⟩) ?_ ?_
         rotate_left
         ·go_simp
          rfl
         refine pure_ (i := 15) (N := some 30) (v := undef) (a' := ?_) impl_ValidItems.K16 rfl rfl (any_of HT_.out (by kernel_rfl)) (fun _ _ _ h => h) (Or.inr ⟨by rfl, rfl⟩) ?_ ?_
         rotate_left
         ·go_simp
          rfl
         refine pure_ (i := 16) (N := some 31) (v := ?_) (a' := ?_) impl_ValidItems.K17 rfl rfl (any_of HT_.out (by kernel_rfl)) (fun _ _ _ h => h) (Or.inl ⟨by rfl, ?_⟩) ?_ ?_; rotate_left; (·intro w'; go_simp; with_reducible rfl); rotate_left; (·go_simp; rfl)
         refine pure_ (i := 17) (N := some 32) (v := ?_) (a' := ?_) impl_ValidItems.K18 rfl rfl (any_of HT_.out (by kernel_rfl)) (fun _ _ _ h => h) (Or.inl ⟨by rfl, ?_⟩) ?_ ?_; rotate_left; (·intro w'; go_simp; with_reducible rfl); rotate_left; (·go_simp; rfl)
         refine done_ (done_of HT_.out (by kernel_rfl)) ?_
         try go_wp2
         go_roundg k1
         case measure => have := HK1.out; omega
         case rel => exact ⟨(wrap64 (x10_1 + 1)), (by first | rfl | (simp; done) | (simp [*]; done)), H', ⟨by have := HK1.out; omega⟩, ⟨by repeat (first | (with_reducible first | exact HB.out | apply below_alloc | apply pw_below_drewN | apply below_drew1 | refine below_set ?_ GE357.out) | exact HB.out)⟩⟩
       ·replace c7 := Bool.eq_false_iff.mpr c7
        subst c7
        have H1 : (some false) = some r := by rw [if_neg (show ¬ (false = true) by decide)] at H; exact H
        clear H
        have H := H1
        clear H1
        obtain rfl := Option.some.inj H
        have p356 : 0 ≤ (x10_1 : Int) := of_decide_eq_true (by assumption)
        have q356 : x10_1 < (l0.length : Int) := of_decide_eq_true (by assumption)
        obtain ⟨ad356, e356, hx356_0, hx356_1, hx356_2, hx356_3, hx356_4, hx356_5⟩ := at_T75 HR0.out x10_1 p356 q356
        cases e356
        replace hx356_0 := (HB.out.cell (World.block_lt_of_cell? w _ hx356_0)).trans hx356_0
        replace hx356_1 := (HB.out.cell (World.block_lt_of_cell? w _ hx356_1)).trans hx356_1
        replace hx356_2 := (HB.out.cell (World.block_lt_of_cell? w _ hx356_2)).trans hx356_2
        replace hx356_3 := (HB.out.cell (World.block_lt_of_cell? w _ hx356_3)).trans hx356_3
        replace hx356_4 := (HB.out.cell (World.block_lt_of_cell? w _ hx356_4)).trans hx356_4
        replace hx356_5 := (HB.out.cell (World.block_lt_of_cell? w _ hx356_5)).trans hx356_5
        replace p356 := eq_true p356
        replace q356 := eq_true q356
        try go_wp2_with (first | ((with_reducible refine gate_dst (N := 4) rfl ?_); refine box_event ?hg (N := 4) ?hd (cs := #[.string (⟨#[]⟩ : ByteArray), .int .i64 0, .int .i64 0, .int .i64 0, .int .i64 0, .int .i64 0]) (t := 75) ?hr ?_; (case hd => rfl); (case hg => rfl); (case hr => first | (go_simp; done) | (go_simp; rfl)); intro gb357 hg w28 hbox hb; have n0_ := Aside0.mk (below_step (by repeat (first | exact HB.out | apply below_alloc)) hb); have n1_ := Aside0.mk (hbox); have n2_ := Aside0.mk ((by rw [hg]; exact (below_size (by repeat (first | exact HB.out | apply below_alloc))) : w.heap.size ≤ gb357)); have n3_ := Aside0.mk ((by rw [hg]; exact (below_size (by repeat (first | exact HB.out | apply below_alloc))) : w.heap.size ≤ gb357)); clear HB; have HB := n0_; have BK357 := n1_; have GW357 := n2_; have GE357 := n3_; clear n0_ n1_ n2_ n3_; clear hb hbox hg; have hcz29_0 : w28.cell? ⟨gb357, 0, none⟩ = some (.string (⟨#[]⟩ : ByteArray)) := (blk_cell BK357.out 0).trans rfl; have hcz29_1 : w28.cell? ⟨gb357, 1, none⟩ = some (.int .i64 0) := (blk_cell BK357.out 1).trans rfl; have hcz29_2 : w28.cell? ⟨gb357, 2, none⟩ = some (.int .i64 0) := (blk_cell BK357.out 2).trans rfl; have hcz29_3 : w28.cell? ⟨gb357, 3, none⟩ = some (.int .i64 0) := (blk_cell BK357.out 3).trans rfl; have hcz29_4 : w28.cell? ⟨gb357, 4, none⟩ = some (.int .i64 0) := (blk_cell BK357.out 4).trans rfl; have hcz29_5 : w28.cell? ⟨gb357, 5, none⟩ = some (.int .i64 0) := (blk_cell BK357.out 5).trans rfl; have hfz29_0 := blk_frozen BK357.out 0; have hfz29_1 := blk_frozen BK357.out 1; have hfz29_2 := blk_frozen BK357.out 2; have hfz29_3 := blk_frozen BK357.out 3; have hfz29_4 := blk_frozen BK357.out 4; have hfz29_5 := blk_frozen BK357.out 5))
        have n0_ : Aside0 (((((((w28.setCell ⟨gb357, 0, none⟩ (.string ((rd_T75 l0 x10_1).f0))).setCell ⟨gb357, 1, none⟩ (.int .i64 ((rd_T75 l0 x10_1).f1))).setCell ⟨gb357, 2, none⟩ (.int .i64 ((rd_T75 l0 x10_1).f2))).setCell ⟨gb357, 3, none⟩ (.int .i64 ((rd_T75 l0 x10_1).f3))).setCell ⟨gb357, 4, none⟩ (.int .i64 ((rd_T75 l0 x10_1).f4))).setCell ⟨gb357, 5, none⟩ (.int .i64 ((rd_T75 l0 x10_1).f5))).heap[gb357]? = some (.cells #[.string ((rd_T75 l0 x10_1).f0), .int .i64 ((rd_T75 l0 x10_1).f1), .int .i64 ((rd_T75 l0 x10_1).f2), .int .i64 ((rd_T75 l0 x10_1).f3), .int .i64 ((rd_T75 l0 x10_1).f4), .int .i64 ((rd_T75 l0 x10_1).f5)] 75 (0, 0))) := ⟨by (with_reducible repeat (first | refine blk_drewN ?_ _ | refine blk_drew ?_ | refine blk_alloc ?_ _)); refine blk_put (cs := #[.string ((rd_T75 l0 x10_1).f0), .int .i64 ((rd_T75 l0 x10_1).f1), .int .i64 ((rd_T75 l0 x10_1).f2), .int .i64 ((rd_T75 l0 x10_1).f3), .int .i64 ((rd_T75 l0 x10_1).f4), .int .i64 0]) ?_ 5 _ rfl; (with_reducible repeat (first | refine blk_drewN ?_ _ | refine blk_drew ?_ | refine blk_alloc ?_ _)); refine blk_put (cs := #[.string ((rd_T75 l0 x10_1).f0), .int .i64 ((rd_T75 l0 x10_1).f1), .int .i64 ((rd_T75 l0 x10_1).f2), .int .i64 ((rd_T75 l0 x10_1).f3), .int .i64 0, .int .i64 0]) ?_ 4 _ rfl; (with_reducible repeat (first | refine blk_drewN ?_ _ | refine blk_drew ?_ | refine blk_alloc ?_ _)); refine blk_put (cs := #[.string ((rd_T75 l0 x10_1).f0), .int .i64 ((rd_T75 l0 x10_1).f1), .int .i64 ((rd_T75 l0 x10_1).f2), .int .i64 0, .int .i64 0, .int .i64 0]) ?_ 3 _ rfl; (with_reducible repeat (first | refine blk_drewN ?_ _ | refine blk_drew ?_ | refine blk_alloc ?_ _)); refine blk_put (cs := #[.string ((rd_T75 l0 x10_1).f0), .int .i64 ((rd_T75 l0 x10_1).f1), .int .i64 0, .int .i64 0, .int .i64 0, .int .i64 0]) ?_ 2 _ rfl; (with_reducible repeat (first | refine blk_drewN ?_ _ | refine blk_drew ?_ | refine blk_alloc ?_ _)); refine blk_put (cs := #[.string ((rd_T75 l0 x10_1).f0), .int .i64 0, .int .i64 0, .int .i64 0, .int .i64 0, .int .i64 0]) ?_ 1 _ rfl; (with_reducible repeat (first | refine blk_drewN ?_ _ | refine blk_drew ?_ | refine blk_alloc ?_ _)); refine blk_put (cs := #[.string (⟨#[]⟩ : ByteArray), .int .i64 0, .int .i64 0, .int .i64 0, .int .i64 0, .int .i64 0]) ?_ 0 _ rfl; (with_reducible repeat (first | refine blk_drewN ?_ _ | refine blk_drew ?_ | refine blk_alloc ?_ _)); exact BK357.out⟩
        have n1_ : Aside0 (Below w.heap.size w ((((((w28.setCell ⟨gb357, 0, none⟩ (.string ((rd_T75 l0 x10_1).f0))).setCell ⟨gb357, 1, none⟩ (.int .i64 ((rd_T75 l0 x10_1).f1))).setCell ⟨gb357, 2, none⟩ (.int .i64 ((rd_T75 l0 x10_1).f2))).setCell ⟨gb357, 3, none⟩ (.int .i64 ((rd_T75 l0 x10_1).f3))).setCell ⟨gb357, 4, none⟩ (.int .i64 ((rd_T75 l0 x10_1).f4))).setCell ⟨gb357, 5, none⟩ (.int .i64 ((rd_T75 l0 x10_1).f5)))) := ⟨by repeat (first | (with_reducible first | exact HB.out | apply below_alloc | apply pw_below_drewN | apply below_drew1 | refine below_set ?_ GE357.out) | exact HB.out)⟩
        (try clear BK357)
        (try clear HB)
        generalize ((((((w28.setCell ⟨gb357, 0, none⟩ (.string ((rd_T75 l0 x10_1).f0))).setCell ⟨gb357, 1, none⟩ (.int .i64 ((rd_T75 l0 x10_1).f1))).setCell ⟨gb357, 2, none⟩ (.int .i64 ((rd_T75 l0 x10_1).f2))).setCell ⟨gb357, 3, none⟩ (.int .i64 ((rd_T75 l0 x10_1).f3))).setCell ⟨gb357, 4, none⟩ (.int .i64 ((rd_T75 l0 x10_1).f4))).setCell ⟨gb357, 5, none⟩ (.int .i64 ((rd_T75 l0 x10_1).f5))) = w30 at n0_ n1_ ⊢
        have BK357 := n0_
        have HB := n1_
        clear n0_ n1_
        have n0_ := Aside0.mk (blk_drew BK357.out)
        have n1_ := Aside0.mk (below_drew1 HB.out)
        clear BK357
        clear HB
        have BK357 := n0_
        have HB := n1_
        clear n0_ n1_
        refine start_ (n := 18) (S := fun w' => w'.cell? ⟨gb357, 0, none⟩ = some (.string ((rd_T75 l0 x10_1).f0)) ∧ w'.cell? ⟨gb357, 1, none⟩ = some (.int .i64 ((rd_T75 l0 x10_1).f1)) ∧ w'.cell? ⟨gb357, 2, none⟩ = some (.int .i64 ((rd_T75 l0 x10_1).f2)) ∧ w'.cell? ⟨gb357, 3, none⟩ = some (.int .i64 ((rd_T75 l0 x10_1).f3)) ∧ w'.cell? ⟨gb357, 4, none⟩ = some (.int .i64 ((rd_T75 l0 x10_1).f4)) ∧ w'.cell? ⟨gb357, 5, none⟩ = some (.int .i64 ((rd_T75 l0 x10_1).f5))) (ds := []) impl_ValidItems.K0 (by kernel_rfl) rfl rfl ⟨(blk_cell BK357.out 0).trans rfl, (blk_cell BK357.out 1).trans rfl, (blk_cell BK357.out 2).trans rfl, (blk_cell BK357.out 3).trans rfl, (blk_cell BK357.out 4).trans rfl, (blk_cell BK357.out 5).trans rfl⟩ (fun hHeld => ?_); refine with_tabW impl_ValidItems.tab6 impl_ValidItems.bits6 (fun HT_ HW_ => ?_)
        generalize w30.drew = w31 at BK357 HB hHeld ⊢
        refine take_ (i := 0) (N := some 15) (v := ?_) (a' := ?_) impl_ValidItems.K1 rfl rfl (take_ofW HT_.out HW_.out (by kernel_rfl)) (fun _ _ _ h => h) (Or.inl ⟨by rfl, ?_⟩) hHeld ?_ ?_
        rotate_left
        ·rintro w' ⟨s0, s1, s2, s3, s4, s5⟩
         go_simp
         with_reducible rfl
        rotate_left
        ·go_simp
         rfl
        refine one_ (i := 1) (N := some 16) impl_ValidItems.K2 rfl rfl (one_of HT_.out (by kernel_rfl)) (by decide) (fun K hK => ?_)
        refine goes_ Try.func109 (by kernel_rfl) rfl #[.agg #[.string ((rd_T75 l0 x10_1).f0), .int .i64 ((rd_T75 l0 x10_1).f1), .int .i64 ((rd_T75 l0 x10_1).f2), .int .i64 ((rd_T75 l0 x10_1).f3), .int .i64 ((rd_T75 l0 x10_1).f4), .int .i64 ((rd_T75 l0 x10_1).f5)]] (by rfl) rfl rfl (by first | rfl | (simp only [List.map_toArray, List.map_cons, List.map_nil]; done) | (simp only [List.map_toArray, List.map_cons, List.map_nil]; rfl)) ?_
        with_reducible refine (impl_ValidItem.calls k1 ((rd_T75 l0 x10_1).f0) ((rd_T75 l0 x10_1).f1) ((rd_T75 l0 x10_1).f2) ((rd_T75 l0 x10_1).f3) ((rd_T75 l0 x10_1).f4) ((rd_T75 l0 x10_1).f5) false _ A6.out).mono ?_
        rintro e w32 ⟨rfl, hb⟩
        refine ⟨_, rfl, ?_⟩
        have n0_ := Aside0.mk (blk_below (g := gb357) (o := .cells #[.string ((rd_T75 l0 x10_1).f0), .int .i64 ((rd_T75 l0 x10_1).f1), .int .i64 ((rd_T75 l0 x10_1).f2), .int .i64 ((rd_T75 l0 x10_1).f3), .int .i64 ((rd_T75 l0 x10_1).f4), .int .i64 ((rd_T75 l0 x10_1).f5)] 75 (0, 0)) (by repeat first | exact BK357.out | refine blk_drewN ?_ _ | refine blk_drew ?_ | refine blk_alloc ?_ _) hb)
        have n1_ := Aside0.mk (below_step (by repeat (first | (with_reducible first | exact HB.out | apply below_alloc | apply pw_below_drewN | apply below_drew1 | refine below_set ?_ GE357.out) | exact HB.out)) hb)
        clear BK357
        clear HB
        have BK357 := n0_
        have HB := n1_
        clear n0_ n1_
        (try clear hb)
        (try clear hb2)
        (try clear hk)
        (try clear hi)
        refine hK.out _ _ ⟨(blk_cell BK357.out 0).trans rfl, (blk_cell BK357.out 1).trans rfl, (blk_cell BK357.out 2).trans rfl, (blk_cell BK357.out 3).trans rfl, (blk_cell BK357.out 4).trans rfl, (blk_cell BK357.out 5).trans rfl⟩ (fun hHeld => ?_)
        clear hK K
        refine norm_ (a' := ?_) ?_ ?_
        rotate_left
        ·show Act.put _ (some 16) _ = _
         go_simp
         rfl
        refine pure_ (i := 2) (N := some 17) (v := ?_) (a' := ?_) impl_ValidItems.K3 rfl rfl (any_of HT_.out (by kernel_rfl)) (fun _ _ _ h => h) (Or.inl ⟨by rfl, ?_⟩) ?_ ?_; rotate_left; (·intro w'; go_simp; with_reducible rfl); rotate_left; (·go_simp; rfl)
        refine pure_ (i := 3) (N := some 18) (v := ?_) (a' := ?_) impl_ValidItems.K4 rfl rfl (any_of HT_.out (by kernel_rfl)) (fun _ _ _ h => h) (Or.inl ⟨by rfl, ?_⟩) ?_ ?_; rotate_left; (·intro w'; go_simp; with_reducible rfl); rotate_left; (·go_simp; rfl)
        refine pure_ (i := 4) (N := some 19) (v := undef) (a' := ?_) impl_ValidItems.K5 rfl rfl (any_of HT_.out (by kernel_rfl)) (fun _ _ _ h => h) (Or.inr ⟨by rfl, rfl⟩) ?_ ?_
        rotate_left
        ·go_simp
         rfl
        refine pure_ (i := 5) (N := some 20) (v := undef) (a' := ?_) impl_ValidItems.K6 rfl rfl (any_of HT_.out (by kernel_rfl)) (fun _ _ _ h => h) (Or.inr ⟨by rfl, rfl⟩) ?_ ?_
        rotate_left
        ·go_simp
         rfl
        refine pure_ (i := 6) (N := some 21) (v := undef) (a' := ?_) impl_ValidItems.K7 rfl rfl (any_of HT_.out (by kernel_rfl)) (fun _ _ _ h => h) (Or.inr ⟨by rfl, rfl⟩) ?_ ?_
        rotate_left
        ·go_simp
         rfl
        refine pure_ (i := 7) (N := some 22) (v := undef) (a' := ?_) impl_ValidItems.K8 rfl rfl (any_of HT_.out (by kernel_rfl)) (fun _ _ _ h => h) (Or.inr ⟨by rfl, rfl⟩) ?_ ?_
        rotate_left
        ·go_simp
         rfl
        refine pure_ (i := 8) (N := some 23) (v := undef) (a' := ?_) impl_ValidItems.K19 rfl rfl (any_of HT_.out (by kernel_rfl)) (fun _ _ _ h => h) (Or.inr ⟨by rfl, rfl⟩) ?_ ?_
        rotate_left
        ·go_simp
         rfl
        refine pure_ (i := 9) (N := some 24) (v := undef) (a' := ?_) impl_ValidItems.K20 rfl rfl (any_of HT_.out (by kernel_rfl)) (fun _ _ _ h => h) (Or.inr ⟨by rfl, rfl⟩) ?_ ?_
        rotate_left
        ·go_simp
         rfl
        refine pure_ (i := 10) (N := some 25) (v := undef) (a' := ?_) impl_ValidItems.K21 rfl rfl (any_of HT_.out (by kernel_rfl)) (fun _ _ _ h => h) (Or.inr ⟨by rfl, rfl⟩) ?_ ?_
        rotate_left
        ·go_simp
         rfl
        refine pure_ (i := 11) (N := some 26) (v := undef) (a' := ?_) impl_ValidItems.K22 rfl rfl (any_of HT_.out (by kernel_rfl)) (fun _ _ _ h => h) (Or.inr ⟨by rfl, rfl⟩) ?_ ?_
        rotate_left
        ·go_simp
         rfl
        refine pure_ (i := 12) (N := some 27) (v := undef) (a' := ?_) impl_ValidItems.K23 rfl rfl (any_of HT_.out (by kernel_rfl)) (fun _ _ _ h => h) (Or.inr ⟨by rfl, rfl⟩) ?_ ?_
        rotate_left
        ·go_simp
         rfl
        refine pure_ (i := 13) (N := some 28) (v := undef) (a' := ?_) impl_ValidItems.K14 rfl rfl (any_of HT_.out (by kernel_rfl)) (fun _ _ _ h => h) (Or.inr ⟨by rfl, rfl⟩) ?_ ?_
        rotate_left
        ·go_simp
         rfl
        refine pure_ (i := 14) (N := some 29) (v := undef) (a' := ?_) impl_ValidItems.K15 rfl rfl (any_of HT_.out (by kernel_rfl)) (fun _ _ _ h => h) (Or.inr ⟨by rfl, rfl⟩) ?_ ?_
        rotate_left
        ·go_simp
         rfl
        refine pure_ (i := 15) (N := some 30) (v := undef) (a' := ?_) impl_ValidItems.K16 rfl rfl (any_of HT_.out (by kernel_rfl)) (fun _ _ _ h => h) (Or.inr ⟨by rfl, rfl⟩) ?_ ?_
        rotate_left
        ·go_simp
         rfl
        refine pure_ (i := 16) (N := some 31) (v := undef) (a' := ?_) impl_ValidItems.K17 rfl rfl (any_of HT_.out (by kernel_rfl)) (fun _ _ _ h => h) (Or.inr ⟨by rfl, rfl⟩) ?_ ?_
        rotate_left
        ·go_simp
         rfl
        refine pure_ (i := 17) (N := some 32) (v := ?_) (a' := ?_) impl_ValidItems.K18 rfl rfl (any_of HT_.out (by kernel_rfl)) (fun _ _ _ h => h) (Or.inl ⟨by rfl, ?_⟩) ?_ ?_; rotate_left; (·intro w'; go_simp; with_reducible rfl); rotate_left; (·go_simp; rfl)
        refine done_ (done_of HT_.out (by kernel_rfl)) ?_
        try go_wp2
        go_ret
        exact ⟨by first | rfl | (simp [errW_none, errW_some] <;> rfl) | (simp [*, errW_none, errW_some] <;> rfl), by repeat (first | (with_reducible first | exact HB.out | apply below_alloc | apply pw_below_drewN | apply below_drew1 | refine below_set ?_ GE357.out) | exact HB.out)⟩
      ·rw [if_neg c5] at H
       exact absurd H (by simp)
     ·rw [if_neg c4] at H
      exact absurd H (by simp)
    ·rw [if_neg c3] at H
     have c3b0 : decide (x10_1 < (l0.length : Int)) = false := decide_eq_false c3
     clear c3
     obtain rfl := Option.some.inj H
     go_wp2
     go_ret
     exact ⟨by first | rfl | (simp [errW_none, errW_some] <;> rfl) | (simp [*, errW_none, errW_some] <;> rfl), by repeat (first | (with_reducible first | exact HB.out | apply below_alloc | apply pw_below_drewN | apply below_drew1) | exact HB.out)⟩

end Go.Proofs.Ytgdiabfmjcejdaa.P
end
