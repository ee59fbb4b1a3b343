/- Texts of this seat, merged: QImplEditcosts, QSpecL12Ask. -/
import Derived.Test.YtddhommmokdlnaaGWDT1
import Derived.Test.YtddhommmokdlnaaGWDT3
section
namespace Go.Proofs.Ytddhommmokdlnaa.P
open Go.RowKit Go.Proofs.YtddhommmokdlnaaW.PrintWords Go.Proofs.YtddhommmokdlnaaW.PrintLast Go.Proofs.YtddhommmokdlnaaW.PrintMore
attribute [local go_sem] max2_int min2_int max_two min_two max_three min_three max_four min_four   -- for this text's walks alone
set_option linter.unusedVariables false
set_option linter.unusedSimpArgs false

/-! ### impl_editCosts: function 78 -/
mutual
def impl_editCosts.l0 : Nat → List Int → List Int → Int → Int → List (List Int) → Int → Option ((List (List Int)))
  | 0, _, _, _, _, _, _ => none
  | k + 1, x0, x1, x2, x3, x9, x10 => if x10 ≥ 0 then (if 0 ≤ (wrap64 ((x1.length : Int) + 1)) then (if (wrap64 ((x1.length : Int) + 1) : Int).toNat ≤ 35184372088832 then (if 0 ≤ x10 then (if x10 < (x9.length : Int) then (impl_editCosts.l1 k x0 x1 x2 x3 (x9.set (x10 : Int).toNat (List.replicate (wrap64 ((x1.length : Int) + 1) : Int).toNat 0)) x10 (x1.length : Int)) else (none)) else (none)) else (none)) else (none)) else (some x9)
def impl_editCosts.l1 : Nat → List Int → List Int → Int → Int → List (List Int) → Int → Int → Option ((List (List Int)))
  | 0, _, _, _, _, _, _, _ => none
  | k + 1, x0, x1, x2, x3, x9, x10, x11 => if x11 ≥ 0 then (if x10 = (x0.length : Int) then (if 0 ≤ x10 then (if x10 < (x9.length : Int) then (if 0 ≤ x11 then (if x11 < ((rd_L1 x9 x10).length : Int) then (impl_editCosts.l1 k x0 x1 x2 x3 (x9.set (x10 : Int).toNat ((rd_L1 x9 x10).set (x11 : Int).toNat (wrap64 (x3 * (wrap64 ((x1.length : Int) - x11)))))) x10 (wrap64 (x11 - 1))) else (none)) else (none)) else (none)) else (none)) else (if x11 = (x1.length : Int) then (if 0 ≤ x10 then (if x10 < (x9.length : Int) then (if 0 ≤ x11 then (if x11 < ((rd_L1 x9 x10).length : Int) then (impl_editCosts.l1 k x0 x1 x2 x3 (x9.set (x10 : Int).toNat ((rd_L1 x9 x10).set (x11 : Int).toNat (wrap64 (x3 * (wrap64 ((x0.length : Int) - x10)))))) x10 (wrap64 (x11 - 1))) else (none)) else (none)) else (none)) else (none)) else (if 0 ≤ (wrap64 (x10 + 1)) then (if (wrap64 (x10 + 1)) < (x9.length : Int) then (if 0 ≤ (wrap64 (x11 + 1)) then (if (wrap64 (x11 + 1)) < ((rd_L1 x9 (wrap64 (x10 + 1))).length : Int) then (if 0 ≤ x10 then (if x10 < (x0.length : Int) then (if 0 ≤ x11 then (if x11 < (x1.length : Int) then (if (rd x0 x10) = (rd x1 x11) then (if x10 < (x9.length : Int) then (if x11 < ((rd_L1 x9 (wrap64 (x10 + 1))).length : Int) then (if (wrap64 (x11 + 1)) < ((rd_L1 x9 x10).length : Int) then (if x11 < ((rd_L1 x9 x10).length : Int) then (impl_editCosts.l1 k x0 x1 x2 x3 (x9.set (x10 : Int).toNat ((rd_L1 x9 x10).set (x11 : Int).toNat (mn (mn (rd (rd_L1 x9 (wrap64 (x10 + 1))) (wrap64 (x11 + 1))) (wrap64 (x3 + (rd (rd_L1 x9 (wrap64 (x10 + 1))) x11)))) (wrap64 (x3 + (rd (rd_L1 x9 x10) (wrap64 (x11 + 1)))))))) x10 (wrap64 (x11 - 1))) else (none)) else (none)) else (none)) else (none)) else (if x10 < (x9.length : Int) then (if x11 < ((rd_L1 x9 (wrap64 (x10 + 1))).length : Int) then (if (wrap64 (x11 + 1)) < ((rd_L1 x9 x10).length : Int) then (if x11 < ((rd_L1 x9 x10).length : Int) then (impl_editCosts.l1 k x0 x1 x2 x3 (x9.set (x10 : Int).toNat ((rd_L1 x9 x10).set (x11 : Int).toNat (mn (mn (wrap64 ((rd (rd_L1 x9 (wrap64 (x10 + 1))) (wrap64 (x11 + 1))) + x2)) (wrap64 (x3 + (rd (rd_L1 x9 (wrap64 (x10 + 1))) x11)))) (wrap64 (x3 + (rd (rd_L1 x9 x10) (wrap64 (x11 + 1)))))))) x10 (wrap64 (x11 - 1))) else (none)) else (none)) else (none)) else (none))) else (none)) else (none)) else (none)) else (none)) else (none)) else (none)) else (none)) else (none)))) else (impl_editCosts.l0 k x0 x1 x2 x3 x9 (wrap64 (x10 - 1)))
end
def impl_editCosts.f (k : Nat) (l0 : List Int) (l1 : List Int) (a2 : Int) (a3 : Int) : Option ((List (List Int))) := if 0 ≤ (wrap64 ((l0.length : Int) + 1)) then (if (wrap64 ((l0.length : Int) + 1) : Int).toNat ≤ 11728124029610 then (impl_editCosts.l0 k l0 l1 a2 a3 (List.replicate (wrap64 ((l0.length : Int) + 1) : Int).toNat []) (l0.length : Int)) else (none)) else (none)
theorem impl_editCosts.mono_l : ∀ k, (∀ y0 y1 y2 y3 y4 y5, LeO (impl_editCosts.l0 k y0 y1 y2 y3 y4 y5) (impl_editCosts.l0 (k + 1) y0 y1 y2 y3 y4 y5)) ∧ (∀ y0 y1 y2 y3 y4 y5 y6, LeO (impl_editCosts.l1 k y0 y1 y2 y3 y4 y5 y6) (impl_editCosts.l1 (k + 1) y0 y1 y2 y3 y4 y5 y6))
  | 0 => ⟨fun _ _ _ _ _ _ r h => by simp [impl_editCosts.l0] at h, fun _ _ _ _ _ _ _ r h => by simp [impl_editCosts.l1] at h⟩
  | k + 1 => by
    obtain ⟨ih0, ih1⟩ := impl_editCosts.mono_l k
    refine ⟨?_, ?_⟩
    · intro y0 y1 y2 y3 y4 y5
      unfold impl_editCosts.l0
      repeat' first
      | (with_reducible exact ih0 _ _ _ _ _ _)
      | (with_reducible exact ih1 _ _ _ _ _ _ _)
      | (with_reducible exact LeO.refl _)
      | (with_reducible exact LeO.none _)
      | (with_reducible refine LeO.ite ?_ ?_)
      | (with_reducible refine LeO.bind ?_ (fun _ => ?_))
      | exact ih0 _ _ _ _ _ _
      | exact ih1 _ _ _ _ _ _ _
      | exact LeO.none _
      | refine LeO.ite ?_ ?_
      | refine LeO.bind ?_ (fun _ => ?_)
    · intro y0 y1 y2 y3 y4 y5 y6
      unfold impl_editCosts.l1
      repeat' first
      | (with_reducible exact ih0 _ _ _ _ _ _)
      | (with_reducible exact ih1 _ _ _ _ _ _ _)
      | (with_reducible exact LeO.refl _)
      | (with_reducible exact LeO.none _)
      | (with_reducible refine LeO.ite ?_ ?_)
      | (with_reducible refine LeO.bind ?_ (fun _ => ?_))
      | exact ih0 _ _ _ _ _ _
      | exact ih1 _ _ _ _ _ _ _
      | exact LeO.none _
      | refine LeO.ite ?_ ?_
      | refine LeO.bind ?_ (fun _ => ?_)
theorem impl_editCosts.mono : ∀ a0 a1 a2 a3 k, LeO (impl_editCosts.f k a0 a1 a2 a3) (impl_editCosts.f (k + 1) a0 a1 a2 a3) := by
  intro a0 a1 a2 a3 k
  obtain ⟨ih0, ih1⟩ := impl_editCosts.mono_l k
  unfold impl_editCosts.f
  repeat' first
      | (with_reducible exact ih0 _ _ _ _ _ _)
      | (with_reducible exact ih1 _ _ _ _ _ _ _)
      | (with_reducible exact LeO.refl _)
      | (with_reducible exact LeO.none _)
      | (with_reducible refine LeO.ite ?_ ?_)
      | (with_reducible refine LeO.bind ?_ (fun _ => ?_))
      | exact ih0 _ _ _ _ _ _
      | exact ih1 _ _ _ _ _ _ _
      | exact LeO.none _
      | refine LeO.ite ?_ ?_
      | refine LeO.bind ?_ (fun _ => ?_)
def impl_editCosts.T10 : Bool × List (List Nat × List Nat) := (true, [([], []), ([], []), ([0, 1], [0, 1]), ([2], [2]), ([], []), ([], []), ([4, 5], [4, 5]), ([6], [6]), ([3, 7], [3, 7])])
def impl_editCosts.B10 : List Nat := [0, 0, 3, 7, 0, 0, 48, 112, 255]
theorem impl_editCosts.tab10 : rtab .any (opsOf Try.f78 10) = impl_editCosts.T10 := by kernel_rfl
theorem impl_editCosts.bits10 : waitsOk impl_editCosts.T10.2 impl_editCosts.B10 = true := by kernel_rfl
def impl_editCosts.T12 : Bool × List (List Nat × List Nat) := (true, [([], []), ([], []), ([0, 1], [0, 1]), ([2], [2]), ([], []), ([], []), ([], []), ([], []), ([], []), ([8], [8]), ([7, 9], [7, 9]), ([10], [10]), ([], []), ([11, 12], [11, 12]), ([13], [13]), ([6, 14], [6, 14]), ([], []), ([], []), ([], []), ([17, 18], [17, 18]), ([19], [19]), ([], []), ([21], [21]), ([20, 22], [20, 22]), ([23], [23]), ([16, 24], [16, 24]), ([5, 15, 25], [5, 15, 25]), ([3, 4, 0, 1, 2, 3, 4, 5, 6, 7, 8, 9, 10, 11, 12, 13, 14, 15, 16, 17, 18, 19, 20, 21, 22, 23, 24, 25, 26], [3, 4]), ([27, 26, 0, 1, 2, 3, 4, 5, 6, 7, 8, 9, 10, 11, 12, 13, 14, 15, 16, 17, 18, 19, 20, 21, 22, 23, 24, 25, 26], [26, 27])])
def impl_editCosts.B12 : List Nat := [0, 0, 3, 7, 0, 0, 0, 0, 0, 256, 896, 1920, 0, 8064, 16256, 32704, 0, 0, 0, 393216, 917504, 0, 2097152, 8257536, 16646144, 33488896, 67108832, 134217727, 268435455]
theorem impl_editCosts.tab12 : rtab .any (opsOf Try.f78 12) = impl_editCosts.T12 := by kernel_rfl
theorem impl_editCosts.bits12 : waitsOk impl_editCosts.T12.2 impl_editCosts.B12 = true := by kernel_rfl
set_option maxHeartbeats 8000000 in
set_option maxRecDepth 100000 in
theorem impl_editCosts.calls (k : Nat) (A0 : Option Addr) (c0 : Nat) (l0 : List Int) (A1 : Option Addr) (c1 : Nat) (l1 : List Int) (a2 : Int) (a3 : Int) (r : List (List Int)) (w : World) (hr0 : Kd.C (Kd.int .i64) w A0 l0.length l0) (hc0 : l0.length ≤ c0) (hr1 : Kd.C (Kd.int .i64) w A1 l1.length l1) (hc1 : l1.length ≤ c1) (h : impl_editCosts.f k l0 l1 a2 a3 = some r) :
    Calls Try.prog 78 #[.slice A0 l0.length c0, .slice A1 l1.length c1, .int .i64 a2, .int .i64 a3] w fun e w' => ∃ v0_ : Value, e = .returned (v0_) ∧ Kd.S (Kd.slice 2 (Kd.int .i64)) 22 w' w.heap.size (fun _ => True) v0_ r ∧ Below w.heap.size w w' := by
  have HR0 := Aside0.mk hr0
  have HC0 := Aside0.mk hc0
  clear hr0 hc0
  have HR1 := Aside0.mk hr1
  have HC1 := Aside0.mk hc1
  clear hr1 hc1
  have HB := Aside0.mk (Below.refl w.heap.size w)
  have H : (if 0 ≤ (wrap64 ((l0.length : Int) + 1)) then (if (wrap64 ((l0.length : Int) + 1) : Int).toNat ≤ 11728124029610 then (impl_editCosts.l0 k l0 l1 a2 a3 (List.replicate (wrap64 ((l0.length : Int) + 1) : Int).toNat []) (l0.length : Int)) else (none)) else (none)) = some r := h
  clear h
  obtain ⟨ji5, hji5⟩ : ∃ j_ : Int, (wrap64 ((l0.length : Int) + 1)) = j_ := ⟨_, rfl⟩
  replace H : (if 0 ≤ (ji5) then (if (ji5 : Int).toNat ≤ 11728124029610 then (impl_editCosts.l0 k l0 l1 a2 a3 (List.replicate (ji5 : Int).toNat []) (l0.length : Int)) else (none)) else (none)) = some r := by first | (rw [hji5] at H; exact H) | (simp only [hji5] at H ⊢; exact H)
  have hji5w : (IntKind.i64.wrap ((l0.length : Int) + 1)) = ji5 := (i64_w _).trans hji5
  by_cases c6 : 0 ≤ (ji5)
  · rw [if_pos c6] at H
    have c6b0 := eq_true c6
    have c6b1 : decide (0 ≤ (ji5)) = true := decide_eq_true c6
    clear c6
    by_cases c7 : (ji5 : Int).toNat ≤ 11728124029610
    · rw [if_pos c7] at H
      have c7b0 := eq_true c7
      have c7b1 : decide ((ji5 : Int).toNat ≤ 11728124029610) = true := decide_eq_true c7
      clear c7
      obtain ⟨y1007, hy1007⟩ : ∃ y_ : List (List Int), y_ = (List.replicate (ji5 : Int).toNat []) := ⟨_, rfl⟩
      replace H : (impl_editCosts.l0 k l0 l1 a2 a3 y1007 (l0.length : Int)) = some r := by first | (rw [hy1007]; with_reducible exact H) | (have H2_ := (Option.bind_some _ _).symm.trans H; rw [hy1007]; with_reducible exact H2_) | (have H2_ := (Option.bind_some _ _).symm.trans H; with_reducible exact H2_) | with_reducible exact H | (rw [hy1007]; exact H) | exact H
      have Ny1007 := Aside0.mk hy1007
      clear hy1007
      have H' := Aside0.mk H
      clear H
      go_enter Try.func78, Try.ntmps78
      go_wp2_with (first | ((with_reducible refine gate_dst (N := 16) rfl ?_); refine Kd.S_make (Kd.slice 2 (Kd.int .i64)) _ 22 rfl (N := 16) rfl 49 _ _ rfl ji5 rfl rfl Try.underlying49 (.slice none 0 0) 24 info22 rfl (by decide) (by omega) [] (ok := fun _ => True) (okp := fun _ => True) ⟨_, rfl, Kd.R_nil _ _ _ _ _⟩ (fun _ hk => hk) trivial (of_decide_eq_true (by first | (with_reducible assumption) | assumption)) (Nat.le_trans (Nat.mul_le_mul_right _ (of_decide_eq_true (by first | (with_reducible assumption) | assumption) : ji5.toNat ≤ 11728124029610)) (by omega)) (Below.refl _ _) (Nat.le_refl _) ?_; intro v1008 w8 ho9 hb hg_ hnew_; clear hg_ hnew_; (first | rw [← Ny1007.out] at ho9 | (simp only [Int.reduceToNat] at ho9; rw [← Ny1007.out] at ho9)); have n0_ := Aside0.mk (Kd.S_lower ho9 (below_size (by repeat (first | (with_reducible first | exact HB.out | apply below_alloc | apply pw_below_drewN | apply below_drew1) | exact HB.out)))); have n1_ := Aside0.mk (below_step (by repeat (first | (with_reducible first | exact HB.out | apply below_alloc | apply pw_below_drewN | apply below_drew1) | exact HB.out)) hb); clear HB; have HO1009 := n0_; have HB := n1_; clear n0_ n1_; clear hb ho9))
      go_loopg [10] k (fun kq v10 w' => ∃ (x9_1 : List (List Int)) (x10_1 : Int), v10 = .int .i64 x10_1 ∧ Aside0 (impl_editCosts.l0 kq l0 l1 a2 a3 x9_1 x10_1 = some r) ∧ Aside0 (kq ≤ k) ∧ Aside0 (Kd.S (Kd.slice 2 (Kd.int .i64)) 22 w' w.heap.size (fun _ => True) v1008 x9_1) ∧ Aside0 (Below w.heap.size w w'))
      case atStart => exact ⟨(y1007), ((l0.length : Int)), (by first | rfl | (simp; done) | (simp [*]; done)), H', ⟨Nat.le_refl _⟩, ⟨by (with_reducible repeat (first | apply Kd.S_alloc | apply Kd.S_drewN | apply Kd.S_drew)); exact HO1009.out⟩, ⟨by repeat (first | (with_reducible first | exact HB.out | apply below_alloc | apply pw_below_drewN | apply below_drew1) | exact HB.out)⟩⟩
      case round =>
        clear H'
        try clear c1
        try clear p2
        try clear c6
        try clear c6b0
        try clear c6b1
        try clear p6
        try clear c7
        try clear c7b0
        try clear c7b1
        obtain ⟨x9_1, x10_1, rfl, HA, HK1, HO_9, HB⟩ := hrel
        cases gk with
        | zero => exact absurd HA.out (by simp [impl_editCosts.l0])
        | succ k1 =>
          have H := HA.out
          clear HA
          simp only [impl_editCosts.l0] at H
          by_cases c10 : x10_1 ≥ 0
          · rw [if_pos c10] at H
            have c10b0 : decide (0 ≤ x10_1) = true := decide_eq_true c10
            clear c10
            obtain ⟨ji11, hji11⟩ : ∃ j_ : Int, (wrap64 ((l1.length : Int) + 1)) = j_ := ⟨_, rfl⟩
            replace H : (if 0 ≤ (ji11) then (if (ji11 : Int).toNat ≤ 35184372088832 then (if 0 ≤ x10_1 then (if x10_1 < (x9_1.length : Int) then (impl_editCosts.l1 k1 l0 l1 a2 a3 (x9_1.set (x10_1 : Int).toNat (List.replicate (ji11 : Int).toNat 0)) x10_1 (l1.length : Int)) else (none)) else (none)) else (none)) else (none)) = some r := by first | (rw [hji11] at H; exact H) | (simp only [hji11] at H ⊢; exact H)
            have hji11w : (IntKind.i64.wrap ((l1.length : Int) + 1)) = ji11 := (i64_w _).trans hji11
            by_cases c12 : 0 ≤ (ji11)
            · rw [if_pos c12] at H
              have c12b0 := eq_true c12
              have c12b1 : decide (0 ≤ (ji11)) = true := decide_eq_true c12
              clear c12
              by_cases c13 : (ji11 : Int).toNat ≤ 35184372088832
              · rw [if_pos c13] at H
                have c13b0 := eq_true c13
                have c13b1 : decide ((ji11 : Int).toNat ≤ 35184372088832) = true := decide_eq_true c13
                clear c13
                obtain ⟨y1010, hy1010⟩ : ∃ y_ : List Int, y_ = (List.replicate (ji11 : Int).toNat 0) := ⟨_, rfl⟩
                replace H : (if 0 ≤ x10_1 then (if x10_1 < (x9_1.length : Int) then (impl_editCosts.l1 k1 l0 l1 a2 a3 (x9_1.set (x10_1 : Int).toNat y1010) x10_1 (l1.length : Int)) else (none)) else (none)) = some r := by first | (rw [hy1010]; with_reducible exact H) | (have H2_ := (Option.bind_some _ _).symm.trans H; rw [hy1010]; with_reducible exact H2_) | (have H2_ := (Option.bind_some _ _).symm.trans H; with_reducible exact H2_) | with_reducible exact H | (rw [hy1010]; exact H) | exact H
                have Ny1010 := Aside0.mk hy1010
                clear hy1010
                by_cases c14 : 0 ≤ x10_1
                · rw [if_pos c14] at H
                  have c14b0 : decide (0 ≤ x10_1) = true := decide_eq_true c14
                  clear c14
                  by_cases c15 : x10_1 < (x9_1.length : Int)
                  · rw [if_pos c15] at H
                    have c15b0 : decide (x10_1 < (x9_1.length : Int)) = true := decide_eq_true c15
                    clear c15
                    obtain ⟨y1013, hy1013⟩ : ∃ y_ : List (List Int), y_ = (x9_1.set (x10_1 : Int).toNat y1010) := ⟨_, rfl⟩
                    replace H : (impl_editCosts.l1 k1 l0 l1 a2 a3 y1013 x10_1 (l1.length : Int)) = some r := by first | (rw [hy1013]; with_reducible exact H) | (have H2_ := (Option.bind_some _ _).symm.trans H; rw [hy1013]; with_reducible exact H2_) | (have H2_ := (Option.bind_some _ _).symm.trans H; with_reducible exact H2_) | with_reducible exact H | (rw [hy1013]; exact H) | exact H
                    have Ny1013 := Aside0.mk hy1013
                    clear hy1013
                    have H' := Aside0.mk H
                    clear H
                    go_wp2_with (first | ((with_reducible refine gate_dst (N := 28) rfl ?_); refine Kd.R_make (Kd.int .i64) _ 2 rfl (N := 28) rfl 22 _ _ rfl ji11 rfl rfl Try.underlying22 (.int .i64 0) 8 info2 rfl (by decide) (by omega) 0 (ok := fun _ => True) (okp := fun _ => True) rfl (fun _ hk => hk) trivial (of_decide_eq_true (by first | (with_reducible assumption) | assumption)) (Nat.le_trans (Nat.mul_le_mul_right _ (of_decide_eq_true (by first | (with_reducible assumption) | assumption) : ji11.toNat ≤ 35184372088832)) (by omega)) (Below.refl _ _) (Nat.le_refl _) ?_; intro v1011 w17 ho18 hb hg_ hnew_; clear hg_ hnew_; (first | rw [← Ny1010.out] at ho18 | (simp only [Int.reduceToNat] at ho18; rw [← Ny1010.out] at ho18)); have n0_ := Aside0.mk (Kd.S_elder' (by (with_reducible repeat (first | apply Kd.S_alloc | apply Kd.S_drewN | apply Kd.S_drew)); exact HO_9.out) (Kd.R_base ho18) hb); have n1_ := Aside0.mk (Kd.R_lower ho18 (below_size (by repeat (first | (with_reducible first | exact HB.out | apply below_alloc | apply pw_below_drewN | apply below_drew1) | exact HB.out)))); have n2_ := Aside0.mk (below_step (by repeat (first | (with_reducible first | exact HB.out | apply below_alloc | apply pw_below_drewN | apply below_drew1) | exact HB.out)) hb); clear HO_9; clear HB; have HO_9 := n0_; have HO1012 := n1_; have HB := n2_; clear n0_ n1_ n2_; clear hb ho18; have p16 : 0 ≤ (x10_1 : Int) := of_decide_eq_true (by first | (with_reducible assumption) | assumption); have q16 : (x10_1 : Int) < ((x9_1.length : Int) : Int) := of_decide_eq_true (by first | (with_reducible assumption) | assumption); obtain ⟨go16, co16, eo16, gb16, gl16, cl16, HG16⟩ := Kd.S_form HO_9.out (by omega); (first | cases eo16 | (injection eo16 with ea_ en_ ec_; (first | subst ea_ | (injection ea_ with ea_; subst ea_)); subst ec_; clear en_)); have GB16 := Aside0.mk gb16; have GG16 := Aside0.mk HG16; clear gb16 gl16 HG16; obtain ⟨_, ce16, hcl16, hM16, hcc16, hfr16, _, _⟩ := Kd.S_elem HO_9.out [] (x10_1 : Int) p16 q16; obtain ⟨ve16_0, rfl, ge16_0⟩ := hM16; have hx16_0 := hcc16 0 _ rfl; have hf16_0 := hfr16 0; (try simp only [show ((Kd.slice 2 (Kd.int .i64))).sz = 1 from rfl, Nat.mul_one, Nat.add_zero] at hx16_0); (try simp only [show ((Kd.slice 2 (Kd.int .i64))).sz = 1 from rfl, Nat.mul_one, Nat.add_zero] at hf16_0); clear hcl16 hcc16 hfr16; (try clear hM16); replace p16 := eq_true p16; replace q16 := eq_true q16; have n_ := Aside0.mk (Kd.S_mono (ok' := (fun k_ => some k_ ≠ (v1011 : Value).ownBlock)) HO_9.out (fun k_ hk => hk.2)); clear HO_9; have HO_9 := n_; clear n_; have HX19 := Aside0.mk (show Kd.S (Kd.slice 2 (Kd.int .i64)) 22 w17 w.heap.size (fun k_ => ((fun _ => True)) k_ ∧ ¬ ((fun k_ => some k_ = (v1011 : Value).ownBlock)) k_) (.slice (some ⟨go16, 0, none⟩) x9_1.length co16) x9_1 from (by (with_reducible repeat (first | apply Kd.S_alloc | apply Kd.S_drewN | apply Kd.S_drew)); exact Kd.S_mono HO_9.out (fun k_ hk => ⟨trivial, fun e_ => hk e_⟩))); obtain ⟨oki19, ce19, hcl19, hM19, hcc19, hfr19, hoki19, hH19⟩ := Kd.S_elem HX19.out [] (x10_1 : Int) (of_decide_eq_true (by first | (with_reducible assumption) | assumption)) (by have h_ : (x10_1 : Int) < ((x9_1.length : Int) : Int) := of_decide_eq_true (by first | (with_reducible assumption) | assumption); first | exact h_ | (have e_ := (Kd.S_reads' HO_9.out).1; omega) | simpa using h_); obtain ⟨ve19_0, rfl, ge19_0⟩ := hM19; have HP19 := Kd.S_seg hH19 (of_decide_eq_true (by first | (with_reducible assumption) | assumption)) (by have h_ : (x10_1 : Int) < ((x9_1.length : Int) : Int) := of_decide_eq_true (by first | (with_reducible assumption) | assumption); first | exact h_ | (have e_ := (Kd.S_reads' HO_9.out).1; omega) | simpa using h_) (seg := [v1011]) (j := 0) (show 1 ≤ 1 from by decide) (x' := y1010) (Kd.M_row (Kd.R_mono (Kd.R_tight rfl (Kd.R_mono (ok' := fun k_ => ((fun _ => True)) k_ ∧ k_ ≠ go16) (Kd.R_apart' (HO1012.out) (Kd.S_typed HO_9.out) (by decide)) (fun k_ hk => ⟨trivial, fun e_ => (hk.2) (by rw [e_]; rfl)⟩))) (fun _ h_ => Or.inr (h_)))) (fun _ hk => hk) (fun k_ hk_ => ((Kd.R_mono (ok' := fun k_ => ((fun _ => True)) k_ ∧ k_ ≠ go16) (Kd.R_apart' (HO1012.out) (Kd.S_typed HO_9.out) (by decide)) (fun k_ hk => ⟨trivial, fun e_ => (hk.2) (by rw [e_]; rfl)⟩))).1 k_ hk_.symm); have hx19_0 := hcc19 0 _ rfl; (try simp only [show ((Kd.slice 2 (Kd.int .i64))).sz = 1 from rfl, Nat.mul_one, Nat.add_zero] at hx19_0); have hf19_0 := hfr19 0; (try simp only [show ((Kd.slice 2 (Kd.int .i64))).sz = 1 from rfl, Nat.mul_one, Nat.add_zero] at hf19_0); clear hcl19 hcc19 hfr19 hoki19 hH19; (try clear hM19); (try simp only [show ((Kd.slice 2 (Kd.int .i64))).sz = 1 from rfl, Nat.mul_one, Nat.add_zero] at HP19)) | ((with_reducible refine gate_store (t := 22) (p := 29) rfl ?_); refine store_event (t := 22) (p := 29) (v := ?vo_w20) (w1 := (w17.setCell ⟨go16, (x10_1 : Int).toNat, none⟩ (v1011))) ?hg ?ho ?hn ?hr ?_; (case ho => rfl); (case hg => rfl); (case hn => rfl); (case hr => first | (go_simp; done) | (go_simp; rfl) | (obtain ⟨Ao_, co_, eo_⟩ := Kd.R_slice HO1012.out; rw [eo_]; first | (go_simp; done) | (go_simp; rfl))); intro w20 hw; have hg : w17.grownBy w20 (some go16) := (by rw [hw]; exact HP19.2); have hp_ : Kd.S (Kd.slice 2 (Kd.int .i64)) 22 w20 w.heap.size (fun _ => True) (.slice (some ⟨go16, 0, none⟩) x9_1.length co16) y1013 := (by rw [hw, Ny1013.out]; exact HP19.1); clear HP19; have n0_ := Aside0.mk (hp_); have n1_ := Aside0.mk ((by rw [hw]; exact below_set (HB.out) GB16.out : Below w.heap.size w w20)); clear HO_9; clear HB; clear HO1012; have HO_9 := n0_; have HB := n1_; clear n0_ n1_; clear hg hw hp_))
                    go_loopg [11] k1 (fun kq v11 w' => ∃ (x9_2 : List (List Int)) (x11_2 : Int), v11 = .int .i64 x11_2 ∧ Aside0 (impl_editCosts.l1 kq l0 l1 a2 a3 x9_2 x10_1 x11_2 = some r) ∧ Aside0 (kq ≤ k1) ∧ Aside0 (Kd.S (Kd.slice 2 (Kd.int .i64)) 22 w' w.heap.size (fun _ => True) (.slice (some ⟨go16, 0, none⟩) x9_1.length co16) x9_2) ∧ Aside0 (Below w.heap.size w w'))
                    case atStart => exact ⟨(y1013), ((l1.length : Int)), (by first | rfl | (simp; done) | (simp [*]; done)), H', ⟨Nat.le_refl _⟩, ⟨by (with_reducible repeat (first | apply Kd.S_alloc | apply Kd.S_drewN | apply Kd.S_drew)); exact HO_9.out⟩, ⟨by repeat (first | (with_reducible first | exact HB.out | apply below_alloc | apply pw_below_drewN | apply below_drew1) | exact HB.out)⟩⟩
                    case round =>
                      clear H'
                      try clear c1
                      try clear p1
                      try clear q1
                      try clear hx1
                      try clear p2
                      try clear c6
                      try clear c6b0
                      try clear c6b1
                      try clear p6
                      try clear c7
                      try clear c7b0
                      try clear c7b1
                      try clear c10
                      try clear c10b0
                      try clear c12
                      try clear c12b0
                      try clear c12b1
                      try clear c13
                      try clear c13b0
                      try clear c13b1
                      try clear c14
                      try clear c14b0
                      try clear c15
                      try clear c15b0
                      try clear c16
                      try clear p16
                      try clear q16
                      try clear hx16
                      try clear hf16
                      try clear c19
                      try clear hx19
                      try clear hf19
                      try clear hx16_0
                      try clear hx19_0
                      try clear p16
                      try clear p2
                      try clear p6
                      try clear q16
                      obtain ⟨x9_2, x11_2, rfl, HA, HK2, HO_9, HB⟩ := hrel
                      have hl9_2 := (Kd.S_reads' HO_9.out).1
                      rw [hl9_2] at HO_9
                      (try simp only [hl9_2])
                      cases gk with
                      | zero => exact absurd HA.out (by simp [impl_editCosts.l1])
                      | succ k2 =>
                        have H := HA.out
                        clear HA
                        simp only [impl_editCosts.l1] at H
                        by_cases c21 : x11_2 ≥ 0
                        · rw [if_pos c21] at H
                          have c21b0 : decide (0 ≤ x11_2) = true := decide_eq_true c21
                          have c21b2 := c21b0; (try simp only [hl9_2] at c21b2)
                          clear c21
                          by_cases c22 : x10_1 = (l0.length : Int)
                          · rw [if_pos c22] at H
                            have c22b0 : (x10_1 == (l0.length : Int)) = true := beq_iff_eq.mpr c22
                            have c22b1 : (x10_1 != (l0.length : Int)) = false := bne_eq_false_iff_eq.mpr c22
                            clear c22
                            by_cases c23 : 0 ≤ x10_1
                            · rw [if_pos c23] at H
                              have c23b0 : decide (0 ≤ x10_1) = true := decide_eq_true c23
                              have c23b2 := c23b0; (try simp only [hl9_2] at c23b2)
                              clear c23
                              by_cases c24 : x10_1 < (x9_2.length : Int)
                              · rw [if_pos c24] at H
                                have c24b0 : decide (x10_1 < (x9_2.length : Int)) = true := decide_eq_true c24
                                have c24b2 := c24b0; (try simp only [hl9_2] at c24b2)
                                clear c24
                                by_cases c25 : 0 ≤ x11_2
                                · rw [if_pos c25] at H
                                  have c25b0 : decide (0 ≤ x11_2) = true := decide_eq_true c25
                                  have c25b2 := c25b0; (try simp only [hl9_2] at c25b2)
                                  clear c25
                                  by_cases c26 : x11_2 < ((rd_L1 x9_2 x10_1).length : Int)
                                  · rw [if_pos c26] at H
                                    have c26b0 : decide (x11_2 < ((rd_L1 x9_2 x10_1).length : Int)) = true := decide_eq_true c26
                                    have c26b2 := c26b0; (try simp only [hl9_2] at c26b2)
                                    clear c26
                                    obtain ⟨y1015, hy1015⟩ : ∃ y_ : List Int, y_ = ((rd_L1 x9_2 x10_1).set (x11_2 : Int).toNat (wrap64 (a3 * (wrap64 ((l1.length : Int) - x11_2))))) := ⟨_, rfl⟩
                                    replace H : (impl_editCosts.l1 k2 l0 l1 a2 a3 (x9_2.set (x10_1 : Int).toNat y1015) x10_1 (wrap64 (x11_2 - 1))) = some r := by first | (rw [hy1015]; with_reducible exact H) | (have H2_ := (Option.bind_some _ _).symm.trans H; rw [hy1015]; with_reducible exact H2_) | (have H2_ := (Option.bind_some _ _).symm.trans H; with_reducible exact H2_) | with_reducible exact H | (rw [hy1015]; exact H) | exact H
                                    have Ny1015 := Aside0.mk hy1015
                                    clear hy1015
                                    obtain ⟨y1017, hy1017⟩ : ∃ y_ : List (List Int), y_ = (x9_2.set (x10_1 : Int).toNat y1015) := ⟨_, rfl⟩
                                    replace H : (impl_editCosts.l1 k2 l0 l1 a2 a3 y1017 x10_1 (wrap64 (x11_2 - 1))) = some r := by first | (rw [hy1017]; with_reducible exact H) | (have H2_ := (Option.bind_some _ _).symm.trans H; rw [hy1017]; with_reducible exact H2_) | (have H2_ := (Option.bind_some _ _).symm.trans H; with_reducible exact H2_) | with_reducible exact H | (rw [hy1017]; exact H) | exact H
                                    have Ny1017 := Aside0.mk hy1017
                                    clear hy1017
                                    have H' := Aside0.mk H
                                    clear H
                                    have p1014 : 0 ≤ (x10_1 : Int) := of_decide_eq_true (by first | (with_reducible assumption) | assumption)
                                    have q1014 : x10_1 < (x9_2.length : Int) := of_decide_eq_true (by first | (with_reducible assumption) | assumption)
                                    obtain ⟨ad1014, A1014_0, c1014_0, e1014, hx1014_0, hl1014_0, hi1014_0⟩ := at_L1 (Kd.S_reads' HO_9.out).2.2 x10_1 p1014 q1014
                                    obtain rfl : (⟨go16, 0, none⟩ : Addr) = ad1014 := (by injection e1014)
                                    obtain ⟨ce1014, hce1014, hMe1014, hcc1014⟩ := Kd.S_get HO_9.out [] x10_1 p1014 (by first | exact q1014 | exact of_decide_eq_true (by first | (with_reducible assumption) | assumption) | (have e_ := (Kd.S_reads' HO_9.out).1; omega))
                                    obtain ⟨ve1014_0, rfl, ge1014_0⟩ := hMe1014
                                    have hv1014_0 := hcc1014 0 _ rfl
                                    rw [Nat.add_zero, show ((Kd.slice 2 (Kd.int .i64))).sz = 1 from rfl, Nat.mul_one] at hv1014_0
                                    replace hv1014_0 := Option.some.inj (hv1014_0.symm.trans hx1014_0)
                                    rw [hv1014_0] at ge1014_0
                                    have HL1014_0 := Aside0.mk (show Kd.R (Kd.int .i64) 2 _ _ _ _ (rd_L1 x9_2 x10_1) from ge1014_0)
                                    clear hv1014_0 ge1014_0
                                    have HX1014_0 := Aside0.mk hx1014_0
                                    clear hcc1014 hce1014
                                    (first | simp only [add_plain] at hx1014_0 | simp only [add_at] at hx1014_0 | simp only [Addr.add, Nat.zero_add] at hx1014_0 | skip)
                                    have HR1014_0 := Aside0.mk hi1014_0
                                    have HC1014_0 := Aside0.mk hl1014_0
                                    clear hi1014_0 hl1014_0
                                    replace p1014 := eq_true p1014
                                    replace q1014 := eq_true q1014
                                    have p27 : 0 ≤ (x11_2 : Int) := of_decide_eq_true (by first | (with_reducible assumption) | assumption)
                                    have q27 : (x11_2 : Int) < (((rd_L1 x9_2 x10_1).length : Int) : Int) := of_decide_eq_true (by first | (with_reducible assumption) | assumption)
                                    obtain ⟨go27, co27, eo27, gb27, gl27, cl27, HG27⟩ := Kd.R_form HL1014_0.out (by omega)
                                    (first | cases eo27 | (injection eo27 with ea_ en_ ec_; (first | subst ea_ | (injection ea_ with ea_; subst ea_)); subst ec_; clear en_))
                                    have GB27 := Aside0.mk gb27
                                    have GG27 := Aside0.mk HG27
                                    clear gb27 gl27 HG27
                                    obtain ⟨hx27_0, hf27_0⟩ := Kd.R_celln 0 HL1014_0.out (x11_2 : Int) p27 q27
                                    replace p27 := eq_true p27
                                    replace q27 := eq_true q27
                                    have hq28 : (x10_1 : Int) < (x9_2.length : Int) := (by have h_ : (x10_1 : Int) < ((x9_2.length : Int) : Int) := of_decide_eq_true (by first | (with_reducible assumption) | assumption); first | exact h_ | (have e_ := (Kd.S_reads' HO_9.out).1; omega) | simpa only [List.length_set, List.length_set] using h_)
                                    obtain ⟨oki28, ce28, hcl28, hM28, hcc28, hok28, hbk28⟩ := Kd.S_borrow HO_9.out [] (x10_1 : Int) (of_decide_eq_true (by first | (with_reducible assumption) | assumption)) hq28
                                    obtain ⟨ve28_0, rfl, ge28_0⟩ := hM28
                                    have hv28 := hcc28 0 _ rfl
                                    rw [Nat.add_zero, show ((Kd.slice 2 (Kd.int .i64))).sz = 1 from rfl, Nat.mul_one] at hv28
                                    replace hv28 := Option.some.inj (hv28.symm.trans HX1014_0.out)
                                    subst hv28
                                    clear hcc28 hcl28
                                    replace ge28_0 := (show Kd.R (Kd.int .i64) 2 _ _ _ _ (rd_L1 x9_2 x10_1) from ge28_0)
                                    have HP28 := Kd.R_putg ge28_0 (x11_2 : Int) (wrap64 (a3 * (wrap64 ((l1.length : Int) - x11_2))))
                                    go_wp2_with (first | ((with_reducible refine gate_store (t := 2) (p := 101) rfl ?_); refine store_event (t := 2) (p := 101) (v := ?vo_w29) (w1 := (wr.setCell ⟨go27, (x11_2 : Int).toNat, none⟩ (.int .i64 (wrap64 (a3 * (wrap64 ((l1.length : Int) - x11_2))))))) ?hg ?ho ?hn ?hr ?_; (case ho => rfl); (case hg => rfl); (case hn => rfl); (case hr => first | (go_simp; done) | (go_simp; rfl)); intro w29 hw; have hg : wr.grownBy w29 (some go27) := (by rw [hw]; exact HP28.2); have hz_ : Kd.R (Kd.int .i64) 2 w29 w.heap.size oki28 (.slice (some ⟨go27, 0, none⟩) (rd_L1 x9_2 x10_1).length c1014_0) y1015 := (by rw [hw, Ny1015.out]; exact HP28.1); have hp_ : Kd.S (Kd.slice 2 (Kd.int .i64)) 22 w29 w.heap.size (fun _ => True) (.slice (some ⟨go16, 0, none⟩) x9_2.length co16) y1017 := (by rw [Ny1017.out]; exact hbk28 hg (fun k_ e_ => by injection e_ with e_; subst e_; exact ge28_0.1 _ rfl) (Kd.M_row hz_)); have hm_ := Kd.R_mono hz_ hok28; clear HP28 hbk28; have n0_ := Aside0.mk (hp_); have n1_ := Aside0.mk ((by rw [hw]; exact below_set (HB.out) GB27.out : Below w.heap.size w w29)); have n2_ := Aside0.mk (hm_); have n3_ := Aside0.mk ((Kd.R_reads' hm_).2.1); clear HO_9; clear HB; clear HL1014_0; have HO_9 := n0_; have HB := n1_; have HL1042 := n2_; have HC1016 := n3_; clear n0_ n1_ n2_ n3_; clear hg hw hp_ hz_ hm_ hok28))
                                    (try simp only [← hl9_2])
                                    go_roundg k2
                                    case measure => have := HK1.out; have := HK2.out; omega
                                    case rel => exact ⟨(y1017), (wrap64 (x11_2 - 1)), (by first | rfl | (simp; done) | (simp [*]; done)), H', ⟨by have := HK1.out; have := HK2.out; omega⟩, ⟨by (try simp only [hl9_2]); (with_reducible repeat (first | apply Kd.S_alloc | apply Kd.S_drewN | apply Kd.S_drew)); exact HO_9.out⟩, ⟨by repeat (first | (with_reducible first | exact HB.out | apply below_alloc | apply pw_below_drewN | apply below_drew1) | exact HB.out)⟩⟩
                                  · rw [if_neg c26] at H
                                    exact absurd H (by simp)
                                · rw [if_neg c25] at H
                                  exact absurd H (by simp)
                              · rw [if_neg c24] at H
                                exact absurd H (by simp)
                            · rw [if_neg c23] at H
                              exact absurd H (by simp)
                          · rw [if_neg c22] at H
                            have c22b0 : (x10_1 == (l0.length : Int)) = false := beq_eq_false_iff_ne.mpr c22
                            have c22b1 : (x10_1 != (l0.length : Int)) = true := bne_iff_ne.mpr c22
                            by_cases c30 : x11_2 = (l1.length : Int)
                            · rw [if_pos c30] at H
                              have c30b0 : (x11_2 == (l1.length : Int)) = true := beq_iff_eq.mpr c30
                              have c30b1 : (x11_2 != (l1.length : Int)) = false := bne_eq_false_iff_eq.mpr c30
                              clear c30
                              by_cases c31 : 0 ≤ x10_1
                              · rw [if_pos c31] at H
                                have c31b0 : decide (0 ≤ x10_1) = true := decide_eq_true c31
                                have c31b2 := c31b0; (try simp only [hl9_2] at c31b2)
                                clear c31
                                by_cases c32 : x10_1 < (x9_2.length : Int)
                                · rw [if_pos c32] at H
                                  have c32b0 : decide (x10_1 < (x9_2.length : Int)) = true := decide_eq_true c32
                                  have c32b2 := c32b0; (try simp only [hl9_2] at c32b2)
                                  clear c32
                                  by_cases c33 : 0 ≤ x11_2
                                  · rw [if_pos c33] at H
                                    have c33b0 : decide (0 ≤ x11_2) = true := decide_eq_true c33
                                    have c33b2 := c33b0; (try simp only [hl9_2] at c33b2)
                                    clear c33
                                    by_cases c34 : x11_2 < ((rd_L1 x9_2 x10_1).length : Int)
                                    · rw [if_pos c34] at H
                                      have c34b0 : decide (x11_2 < ((rd_L1 x9_2 x10_1).length : Int)) = true := decide_eq_true c34
                                      have c34b2 := c34b0; (try simp only [hl9_2] at c34b2)
                                      clear c34
                                      obtain ⟨y1019, hy1019⟩ : ∃ y_ : List Int, y_ = ((rd_L1 x9_2 x10_1).set (x11_2 : Int).toNat (wrap64 (a3 * (wrap64 ((l0.length : Int) - x10_1))))) := ⟨_, rfl⟩
                                      replace H : (impl_editCosts.l1 k2 l0 l1 a2 a3 (x9_2.set (x10_1 : Int).toNat y1019) x10_1 (wrap64 (x11_2 - 1))) = some r := by first | (rw [hy1019]; with_reducible exact H) | (have H2_ := (Option.bind_some _ _).symm.trans H; rw [hy1019]; with_reducible exact H2_) | (have H2_ := (Option.bind_some _ _).symm.trans H; with_reducible exact H2_) | with_reducible exact H | (rw [hy1019]; exact H) | exact H
                                      have Ny1019 := Aside0.mk hy1019
                                      clear hy1019
                                      obtain ⟨y1021, hy1021⟩ : ∃ y_ : List (List Int), y_ = (x9_2.set (x10_1 : Int).toNat y1019) := ⟨_, rfl⟩
                                      replace H : (impl_editCosts.l1 k2 l0 l1 a2 a3 y1021 x10_1 (wrap64 (x11_2 - 1))) = some r := by first | (rw [hy1021]; with_reducible exact H) | (have H2_ := (Option.bind_some _ _).symm.trans H; rw [hy1021]; with_reducible exact H2_) | (have H2_ := (Option.bind_some _ _).symm.trans H; with_reducible exact H2_) | with_reducible exact H | (rw [hy1021]; exact H) | exact H
                                      have Ny1021 := Aside0.mk hy1021
                                      clear hy1021
                                      have H' := Aside0.mk H
                                      clear H
                                      have p1018 : 0 ≤ (x10_1 : Int) := of_decide_eq_true (by first | (with_reducible assumption) | assumption)
                                      have q1018 : x10_1 < (x9_2.length : Int) := of_decide_eq_true (by first | (with_reducible assumption) | assumption)
                                      obtain ⟨ad1018, A1018_0, c1018_0, e1018, hx1018_0, hl1018_0, hi1018_0⟩ := at_L1 (Kd.S_reads' HO_9.out).2.2 x10_1 p1018 q1018
                                      obtain rfl : (⟨go16, 0, none⟩ : Addr) = ad1018 := (by injection e1018)
                                      obtain ⟨ce1018, hce1018, hMe1018, hcc1018⟩ := Kd.S_get HO_9.out [] x10_1 p1018 (by first | exact q1018 | exact of_decide_eq_true (by first | (with_reducible assumption) | assumption) | (have e_ := (Kd.S_reads' HO_9.out).1; omega))
                                      obtain ⟨ve1018_0, rfl, ge1018_0⟩ := hMe1018
                                      have hv1018_0 := hcc1018 0 _ rfl
                                      rw [Nat.add_zero, show ((Kd.slice 2 (Kd.int .i64))).sz = 1 from rfl, Nat.mul_one] at hv1018_0
                                      replace hv1018_0 := Option.some.inj (hv1018_0.symm.trans hx1018_0)
                                      rw [hv1018_0] at ge1018_0
                                      have HL1018_0 := Aside0.mk (show Kd.R (Kd.int .i64) 2 _ _ _ _ (rd_L1 x9_2 x10_1) from ge1018_0)
                                      clear hv1018_0 ge1018_0
                                      have HX1018_0 := Aside0.mk hx1018_0
                                      clear hcc1018 hce1018
                                      (first | simp only [add_plain] at hx1018_0 | simp only [add_at] at hx1018_0 | simp only [Addr.add, Nat.zero_add] at hx1018_0 | skip)
                                      have HR1018_0 := Aside0.mk hi1018_0
                                      have HC1018_0 := Aside0.mk hl1018_0
                                      clear hi1018_0 hl1018_0
                                      replace p1018 := eq_true p1018
                                      replace q1018 := eq_true q1018
                                      have p35 : 0 ≤ (x11_2 : Int) := of_decide_eq_true (by first | (with_reducible assumption) | assumption)
                                      have q35 : (x11_2 : Int) < (((rd_L1 x9_2 x10_1).length : Int) : Int) := of_decide_eq_true (by first | (with_reducible assumption) | assumption)
                                      obtain ⟨go35, co35, eo35, gb35, gl35, cl35, HG35⟩ := Kd.R_form HL1018_0.out (by omega)
                                      (first | cases eo35 | (injection eo35 with ea_ en_ ec_; (first | subst ea_ | (injection ea_ with ea_; subst ea_)); subst ec_; clear en_))
                                      have GB35 := Aside0.mk gb35
                                      have GG35 := Aside0.mk HG35
                                      clear gb35 gl35 HG35
                                      obtain ⟨hx35_0, hf35_0⟩ := Kd.R_celln 0 HL1018_0.out (x11_2 : Int) p35 q35
                                      replace p35 := eq_true p35
                                      replace q35 := eq_true q35
                                      have hq36 : (x10_1 : Int) < (x9_2.length : Int) := (by have h_ : (x10_1 : Int) < ((x9_2.length : Int) : Int) := of_decide_eq_true (by first | (with_reducible assumption) | assumption); first | exact h_ | (have e_ := (Kd.S_reads' HO_9.out).1; omega) | simpa only [List.length_set, List.length_set] using h_)
                                      obtain ⟨oki36, ce36, hcl36, hM36, hcc36, hok36, hbk36⟩ := Kd.S_borrow HO_9.out [] (x10_1 : Int) (of_decide_eq_true (by first | (with_reducible assumption) | assumption)) hq36
                                      obtain ⟨ve36_0, rfl, ge36_0⟩ := hM36
                                      have hv36 := hcc36 0 _ rfl
                                      rw [Nat.add_zero, show ((Kd.slice 2 (Kd.int .i64))).sz = 1 from rfl, Nat.mul_one] at hv36
                                      replace hv36 := Option.some.inj (hv36.symm.trans HX1018_0.out)
                                      subst hv36
                                      clear hcc36 hcl36
                                      replace ge36_0 := (show Kd.R (Kd.int .i64) 2 _ _ _ _ (rd_L1 x9_2 x10_1) from ge36_0)
                                      have HP36 := Kd.R_putg ge36_0 (x11_2 : Int) (wrap64 (a3 * (wrap64 ((l0.length : Int) - x10_1))))
                                      go_wp2_with (first | ((with_reducible refine gate_store (t := 2) (p := 118) rfl ?_); refine store_event (t := 2) (p := 118) (v := ?vo_w37) (w1 := (wr.setCell ⟨go35, (x11_2 : Int).toNat, none⟩ (.int .i64 (wrap64 (a3 * (wrap64 ((l0.length : Int) - x10_1))))))) ?hg ?ho ?hn ?hr ?_; (case ho => rfl); (case hg => rfl); (case hn => rfl); (case hr => first | (go_simp; done) | (go_simp; rfl)); intro w37 hw; have hg : wr.grownBy w37 (some go35) := (by rw [hw]; exact HP36.2); have hz_ : Kd.R (Kd.int .i64) 2 w37 w.heap.size oki36 (.slice (some ⟨go35, 0, none⟩) (rd_L1 x9_2 x10_1).length c1018_0) y1019 := (by rw [hw, Ny1019.out]; exact HP36.1); have hp_ : Kd.S (Kd.slice 2 (Kd.int .i64)) 22 w37 w.heap.size (fun _ => True) (.slice (some ⟨go16, 0, none⟩) x9_2.length co16) y1021 := (by rw [Ny1021.out]; exact hbk36 hg (fun k_ e_ => by injection e_ with e_; subst e_; exact ge36_0.1 _ rfl) (Kd.M_row hz_)); have hm_ := Kd.R_mono hz_ hok36; clear HP36 hbk36; have n0_ := Aside0.mk (hp_); have n1_ := Aside0.mk ((by rw [hw]; exact below_set (HB.out) GB35.out : Below w.heap.size w w37)); have n2_ := Aside0.mk (hm_); have n3_ := Aside0.mk ((Kd.R_reads' hm_).2.1); clear HO_9; clear HB; clear HL1018_0; have HO_9 := n0_; have HB := n1_; have HL1043 := n2_; have HC1020 := n3_; clear n0_ n1_ n2_ n3_; clear hg hw hp_ hz_ hm_ hok36))
                                      (try simp only [← hl9_2])
                                      go_roundg k2
                                      case measure => have := HK1.out; have := HK2.out; omega
                                      case rel => exact ⟨(y1021), (wrap64 (x11_2 - 1)), (by first | rfl | (simp; done) | (simp [*]; done)), H', ⟨by have := HK1.out; have := HK2.out; omega⟩, ⟨by (try simp only [hl9_2]); (with_reducible repeat (first | apply Kd.S_alloc | apply Kd.S_drewN | apply Kd.S_drew)); exact HO_9.out⟩, ⟨by repeat (first | (with_reducible first | exact HB.out | apply below_alloc | apply pw_below_drewN | apply below_drew1) | exact HB.out)⟩⟩
                                    · rw [if_neg c34] at H
                                      exact absurd H (by simp)
                                  · rw [if_neg c33] at H
                                    exact absurd H (by simp)
                                · rw [if_neg c32] at H
                                  exact absurd H (by simp)
                              · rw [if_neg c31] at H
                                exact absurd H (by simp)
                            · rw [if_neg c30] at H
                              have c30b0 : (x11_2 == (l1.length : Int)) = false := beq_eq_false_iff_ne.mpr c30
                              have c30b1 : (x11_2 != (l1.length : Int)) = true := bne_iff_ne.mpr c30
                              obtain ⟨ji38, hji38⟩ : ∃ j_ : Int, (wrap64 (x10_1 + 1)) = j_ := ⟨_, rfl⟩
                              replace H : (if 0 ≤ (ji38) then (if (ji38) < (x9_2.length : Int) then (if 0 ≤ (wrap64 (x11_2 + 1)) then (if (wrap64 (x11_2 + 1)) < ((rd_L1 x9_2 (ji38)).length : Int) then (if 0 ≤ x10_1 then (if x10_1 < (l0.length : Int) then (if 0 ≤ x11_2 then (if x11_2 < (l1.length : Int) then (if (rd l0 x10_1) = (rd l1 x11_2) then (if x10_1 < (x9_2.length : Int) then (if x11_2 < ((rd_L1 x9_2 (ji38)).length : Int) then (if (wrap64 (x11_2 + 1)) < ((rd_L1 x9_2 x10_1).length : Int) then (if x11_2 < ((rd_L1 x9_2 x10_1).length : Int) then (impl_editCosts.l1 k2 l0 l1 a2 a3 (x9_2.set (x10_1 : Int).toNat ((rd_L1 x9_2 x10_1).set (x11_2 : Int).toNat (mn (mn (rd (rd_L1 x9_2 (ji38)) (wrap64 (x11_2 + 1))) (wrap64 (a3 + (rd (rd_L1 x9_2 (ji38)) x11_2)))) (wrap64 (a3 + (rd (rd_L1 x9_2 x10_1) (wrap64 (x11_2 + 1)))))))) x10_1 (wrap64 (x11_2 - 1))) else (none)) else (none)) else (none)) else (none)) else (if x10_1 < (x9_2.length : Int) then (if x11_2 < ((rd_L1 x9_2 (ji38)).length : Int) then (if (wrap64 (x11_2 + 1)) < ((rd_L1 x9_2 x10_1).length : Int) then (if x11_2 < ((rd_L1 x9_2 x10_1).length : Int) then (impl_editCosts.l1 k2 l0 l1 a2 a3 (x9_2.set (x10_1 : Int).toNat ((rd_L1 x9_2 x10_1).set (x11_2 : Int).toNat (mn (mn (wrap64 ((rd (rd_L1 x9_2 (ji38)) (wrap64 (x11_2 + 1))) + a2)) (wrap64 (a3 + (rd (rd_L1 x9_2 (ji38)) x11_2)))) (wrap64 (a3 + (rd (rd_L1 x9_2 x10_1) (wrap64 (x11_2 + 1)))))))) x10_1 (wrap64 (x11_2 - 1))) else (none)) else (none)) else (none)) else (none))) else (none)) else (none)) else (none)) else (none)) else (none)) else (none)) else (none)) else (none)) = some r := by first | (rw [hji38] at H; exact H) | (simp only [hji38] at H ⊢; exact H)
                              have hji38w : (IntKind.i64.wrap (x10_1 + 1)) = ji38 := (i64_w _).trans hji38
                              by_cases c39 : 0 ≤ (ji38)
                              · rw [if_pos c39] at H
                                have c39b0 : decide (0 ≤ (ji38)) = true := decide_eq_true c39
                                have c39b2 := c39b0; (try simp only [hl9_2] at c39b2)
                                clear c39
                                by_cases c40 : (ji38) < (x9_2.length : Int)
                                · rw [if_pos c40] at H
                                  have c40b0 : decide ((ji38) < (x9_2.length : Int)) = true := decide_eq_true c40
                                  have c40b2 := c40b0; (try simp only [hl9_2] at c40b2)
                                  clear c40
                                  obtain ⟨ji41, hji41⟩ : ∃ j_ : Int, (wrap64 (x11_2 + 1)) = j_ := ⟨_, rfl⟩
                                  replace H : (if 0 ≤ (ji41) then (if (ji41) < ((rd_L1 x9_2 (ji38)).length : Int) then (if 0 ≤ x10_1 then (if x10_1 < (l0.length : Int) then (if 0 ≤ x11_2 then (if x11_2 < (l1.length : Int) then (if (rd l0 x10_1) = (rd l1 x11_2) then (if x10_1 < (x9_2.length : Int) then (if x11_2 < ((rd_L1 x9_2 (ji38)).length : Int) then (if (ji41) < ((rd_L1 x9_2 x10_1).length : Int) then (if x11_2 < ((rd_L1 x9_2 x10_1).length : Int) then (impl_editCosts.l1 k2 l0 l1 a2 a3 (x9_2.set (x10_1 : Int).toNat ((rd_L1 x9_2 x10_1).set (x11_2 : Int).toNat (mn (mn (rd (rd_L1 x9_2 (ji38)) (ji41)) (wrap64 (a3 + (rd (rd_L1 x9_2 (ji38)) x11_2)))) (wrap64 (a3 + (rd (rd_L1 x9_2 x10_1) (ji41))))))) x10_1 (wrap64 (x11_2 - 1))) else (none)) else (none)) else (none)) else (none)) else (if x10_1 < (x9_2.length : Int) then (if x11_2 < ((rd_L1 x9_2 (ji38)).length : Int) then (if (ji41) < ((rd_L1 x9_2 x10_1).length : Int) then (if x11_2 < ((rd_L1 x9_2 x10_1).length : Int) then (impl_editCosts.l1 k2 l0 l1 a2 a3 (x9_2.set (x10_1 : Int).toNat ((rd_L1 x9_2 x10_1).set (x11_2 : Int).toNat (mn (mn (wrap64 ((rd (rd_L1 x9_2 (ji38)) (ji41)) + a2)) (wrap64 (a3 + (rd (rd_L1 x9_2 (ji38)) x11_2)))) (wrap64 (a3 + (rd (rd_L1 x9_2 x10_1) (ji41))))))) x10_1 (wrap64 (x11_2 - 1))) else (none)) else (none)) else (none)) else (none))) else (none)) else (none)) else (none)) else (none)) else (none)) else (none)) = some r := by first | (rw [hji41] at H; exact H) | (simp only [hji41] at H ⊢; exact H)
                                  have hji41w : (IntKind.i64.wrap (x11_2 + 1)) = ji41 := (i64_w _).trans hji41
                                  by_cases c42 : 0 ≤ (ji41)
                                  · rw [if_pos c42] at H
                                    have c42b0 : decide (0 ≤ (ji41)) = true := decide_eq_true c42
                                    have c42b2 := c42b0; (try simp only [hl9_2] at c42b2)
                                    clear c42
                                    by_cases c43 : (ji41) < ((rd_L1 x9_2 (ji38)).length : Int)
                                    · rw [if_pos c43] at H
                                      have c43b0 : decide ((ji41) < ((rd_L1 x9_2 (ji38)).length : Int)) = true := decide_eq_true c43
                                      have c43b2 := c43b0; (try simp only [hl9_2] at c43b2)
                                      clear c43
                                      by_cases c44 : 0 ≤ x10_1
                                      · rw [if_pos c44] at H
                                        have c44b0 : decide (0 ≤ x10_1) = true := decide_eq_true c44
                                        have c44b2 := c44b0; (try simp only [hl9_2] at c44b2)
                                        clear c44
                                        by_cases c45 : x10_1 < (l0.length : Int)
                                        · rw [if_pos c45] at H
                                          have c45b0 : decide (x10_1 < (l0.length : Int)) = true := decide_eq_true c45
                                          have c45b2 := c45b0; (try simp only [hl9_2] at c45b2)
                                          clear c45
                                          by_cases c46 : 0 ≤ x11_2
                                          · rw [if_pos c46] at H
                                            have c46b0 : decide (0 ≤ x11_2) = true := decide_eq_true c46
                                            have c46b2 := c46b0; (try simp only [hl9_2] at c46b2)
                                            clear c46
                                            by_cases c47 : x11_2 < (l1.length : Int)
                                            · rw [if_pos c47] at H
                                              have c47b0 : decide (x11_2 < (l1.length : Int)) = true := decide_eq_true c47
                                              have c47b2 := c47b0; (try simp only [hl9_2] at c47b2)
                                              clear c47
                                              by_cases c48 : (rd l0 x10_1) = (rd l1 x11_2)
                                              · rw [if_pos c48] at H
                                                have c48b0 : ((rd l0 x10_1) == (rd l1 x11_2)) = true := beq_iff_eq.mpr c48
                                                have c48b1 : ((rd l0 x10_1) != (rd l1 x11_2)) = false := bne_eq_false_iff_eq.mpr c48
                                                clear c48
                                                by_cases c49 : x10_1 < (x9_2.length : Int)
                                                · rw [if_pos c49] at H
                                                  have c49b0 : decide (x10_1 < (x9_2.length : Int)) = true := decide_eq_true c49
                                                  have c49b2 := c49b0; (try simp only [hl9_2] at c49b2)
                                                  clear c49
                                                  by_cases c50 : x11_2 < ((rd_L1 x9_2 (ji38)).length : Int)
                                                  · rw [if_pos c50] at H
                                                    have c50b0 : decide (x11_2 < ((rd_L1 x9_2 (ji38)).length : Int)) = true := decide_eq_true c50
                                                    have c50b2 := c50b0; (try simp only [hl9_2] at c50b2)
                                                    clear c50
                                                    by_cases c51 : (ji41) < ((rd_L1 x9_2 x10_1).length : Int)
                                                    · rw [if_pos c51] at H
                                                      have c51b0 : decide ((ji41) < ((rd_L1 x9_2 x10_1).length : Int)) = true := decide_eq_true c51
                                                      have c51b2 := c51b0; (try simp only [hl9_2] at c51b2)
                                                      clear c51
                                                      obtain ⟨ji52, hji52⟩ : ∃ j_ : Int, (mn (rd (rd_L1 x9_2 (ji38)) (ji41)) (wrap64 (a3 + (rd (rd_L1 x9_2 (ji38)) x11_2)))) = j_ := ⟨_, rfl⟩
                                                      replace H : (if x11_2 < ((rd_L1 x9_2 x10_1).length : Int) then (impl_editCosts.l1 k2 l0 l1 a2 a3 (x9_2.set (x10_1 : Int).toNat ((rd_L1 x9_2 x10_1).set (x11_2 : Int).toNat (mn (ji52) (wrap64 (a3 + (rd (rd_L1 x9_2 x10_1) (ji41))))))) x10_1 (wrap64 (x11_2 - 1))) else (none)) = some r := by first | (rw [hji52] at H; exact H) | (simp only [hji52] at H ⊢; exact H)
                                                      have hji52_ : (if (wrap64 (a3 + (rd (rd_L1 x9_2 (ji38)) x11_2))) < (rd (rd_L1 x9_2 (ji38)) (ji41)) then (wrap64 (a3 + (rd (rd_L1 x9_2 (ji38)) x11_2))) else (rd (rd_L1 x9_2 (ji38)) (ji41))) = ji52 := hji52
                                                      obtain ⟨ji53, hji53⟩ : ∃ j_ : Int, (mn (ji52) (wrap64 (a3 + (rd (rd_L1 x9_2 x10_1) (ji41))))) = j_ := ⟨_, rfl⟩
                                                      replace H : (if x11_2 < ((rd_L1 x9_2 x10_1).length : Int) then (impl_editCosts.l1 k2 l0 l1 a2 a3 (x9_2.set (x10_1 : Int).toNat ((rd_L1 x9_2 x10_1).set (x11_2 : Int).toNat (ji53))) x10_1 (wrap64 (x11_2 - 1))) else (none)) = some r := by first | (rw [hji53] at H; exact H) | (simp only [hji53] at H ⊢; exact H)
                                                      have hji53_ : (if (wrap64 (a3 + (rd (rd_L1 x9_2 x10_1) (ji41)))) < (ji52) then (wrap64 (a3 + (rd (rd_L1 x9_2 x10_1) (ji41)))) else (ji52)) = ji53 := hji53
                                                      by_cases c54 : x11_2 < ((rd_L1 x9_2 x10_1).length : Int)
                                                      · rw [if_pos c54] at H
                                                        have c54b0 : decide (x11_2 < ((rd_L1 x9_2 x10_1).length : Int)) = true := decide_eq_true c54
                                                        have c54b2 := c54b0; (try simp only [hl9_2] at c54b2)
                                                        clear c54
                                                        obtain ⟨y1031, hy1031⟩ : ∃ y_ : List Int, y_ = ((rd_L1 x9_2 x10_1).set (x11_2 : Int).toNat (ji53)) := ⟨_, rfl⟩
                                                        replace H : (impl_editCosts.l1 k2 l0 l1 a2 a3 (x9_2.set (x10_1 : Int).toNat y1031) x10_1 (wrap64 (x11_2 - 1))) = some r := by first | (rw [hy1031]; with_reducible exact H) | (have H2_ := (Option.bind_some _ _).symm.trans H; rw [hy1031]; with_reducible exact H2_) | (have H2_ := (Option.bind_some _ _).symm.trans H; with_reducible exact H2_) | with_reducible exact H | (rw [hy1031]; exact H) | exact H
                                                        have Ny1031 := Aside0.mk hy1031
                                                        clear hy1031
                                                        obtain ⟨y1033, hy1033⟩ : ∃ y_ : List (List Int), y_ = (x9_2.set (x10_1 : Int).toNat y1031) := ⟨_, rfl⟩
                                                        replace H : (impl_editCosts.l1 k2 l0 l1 a2 a3 y1033 x10_1 (wrap64 (x11_2 - 1))) = some r := by first | (rw [hy1033]; with_reducible exact H) | (have H2_ := (Option.bind_some _ _).symm.trans H; rw [hy1033]; with_reducible exact H2_) | (have H2_ := (Option.bind_some _ _).symm.trans H; with_reducible exact H2_) | with_reducible exact H | (rw [hy1033]; exact H) | exact H
                                                        have Ny1033 := Aside0.mk hy1033
                                                        clear hy1033
                                                        have H' := Aside0.mk H
                                                        clear H
                                                        have p1022 : 0 ≤ ((ji38) : Int) := of_decide_eq_true (by first | (with_reducible assumption) | assumption)
                                                        have q1022 : (ji38) < (x9_2.length : Int) := of_decide_eq_true (by first | (with_reducible assumption) | assumption)
                                                        obtain ⟨ad1022, A1022_0, c1022_0, e1022, hx1022_0, hl1022_0, hi1022_0⟩ := at_L1 (Kd.S_reads' HO_9.out).2.2 (ji38) p1022 q1022
                                                        obtain rfl : (⟨go16, 0, none⟩ : Addr) = ad1022 := (by injection e1022)
                                                        obtain ⟨ce1022, hce1022, hMe1022, hcc1022⟩ := Kd.S_get HO_9.out [] (ji38) p1022 (by first | exact q1022 | exact of_decide_eq_true (by first | (with_reducible assumption) | assumption) | (have e_ := (Kd.S_reads' HO_9.out).1; omega))
                                                        obtain ⟨ve1022_0, rfl, ge1022_0⟩ := hMe1022
                                                        have hv1022_0 := hcc1022 0 _ rfl
                                                        rw [Nat.add_zero, show ((Kd.slice 2 (Kd.int .i64))).sz = 1 from rfl, Nat.mul_one] at hv1022_0
                                                        replace hv1022_0 := Option.some.inj (hv1022_0.symm.trans hx1022_0)
                                                        rw [hv1022_0] at ge1022_0
                                                        have HL1022_0 := Aside0.mk (show Kd.R (Kd.int .i64) 2 _ _ _ _ (rd_L1 x9_2 (ji38)) from ge1022_0)
                                                        clear hv1022_0 ge1022_0
                                                        have HX1022_0 := Aside0.mk hx1022_0
                                                        clear hcc1022 hce1022
                                                        (first | simp only [add_plain] at hx1022_0 | simp only [add_at] at hx1022_0 | simp only [Addr.add, Nat.zero_add] at hx1022_0 | skip)
                                                        have HR1022_0 := Aside0.mk hi1022_0
                                                        have HC1022_0 := Aside0.mk hl1022_0
                                                        clear hi1022_0 hl1022_0
                                                        replace p1022 := eq_true p1022
                                                        replace q1022 := eq_true q1022
                                                        have p1023 : 0 ≤ ((ji41) : Int) := of_decide_eq_true (by first | (with_reducible assumption) | assumption)
                                                        have q1023 : (ji41) < ((rd_L1 x9_2 (ji38)).length : Int) := of_decide_eq_true (by first | (with_reducible assumption) | assumption)
                                                        obtain ⟨ad1023, e1023, hx1023_0⟩ := Kd.at_int (by repeat (first | (with_reducible exact HR1022_0.out) | (with_reducible refine Kd.C_alloc ?_ _) | (with_reducible refine Kd.C_drewN ?_ _) | (with_reducible refine Kd.C_drew ?_) | exact HR1022_0.out)) (ji41) p1023 q1023
                                                        cases e1023
                                                        replace p1023 := eq_true p1023
                                                        replace q1023 := eq_true q1023
                                                        try go_wp2
                                                        have n0_ := Aside0.mk (Kd.S_drew HO_9.out)
                                                        have n1_ := Aside0.mk (Kd.R_drew HL1022_0.out)
                                                        have n2_ := Aside0.mk (Kd.C_drew HR1022_0.out)
                                                        have n3_ := Aside0.mk (below_drew1 HB.out)
                                                        clear HO_9
                                                        clear HL1022_0
                                                        clear HR1022_0
                                                        clear HB
                                                        have HO_9 := n0_
                                                        have HL1022_0 := n1_
                                                        have HR1022_0 := n2_
                                                        have HB := n3_
                                                        clear n0_ n1_ n2_ n3_
                                                        have p1024 : 0 ≤ (x10_1 : Int) := of_decide_eq_true (by first | (with_reducible assumption) | assumption)
                                                        have q1024 : x10_1 < (l0.length : Int) := of_decide_eq_true (by first | (with_reducible assumption) | assumption)
                                                        obtain ⟨ad1024, e1024, hx1024_0⟩ := Kd.at_int HR0.out x10_1 p1024 q1024
                                                        have hw1024_0 := hx1024_0
                                                        cases e1024
                                                        replace hx1024_0 := (HB.out.cell (World.block_lt_of_cell? w _ hx1024_0)).trans hx1024_0
                                                        replace p1024 := eq_true p1024
                                                        replace q1024 := eq_true q1024
                                                        have p1025 : 0 ≤ (x11_2 : Int) := of_decide_eq_true (by first | (with_reducible assumption) | assumption)
                                                        have q1025 : x11_2 < (l1.length : Int) := of_decide_eq_true (by first | (with_reducible assumption) | assumption)
                                                        obtain ⟨ad1025, e1025, hx1025_0⟩ := Kd.at_int HR1.out x11_2 p1025 q1025
                                                        have hw1025_0 := hx1025_0
                                                        cases e1025
                                                        replace hx1025_0 := (HB.out.cell (World.block_lt_of_cell? w _ hx1025_0)).trans hx1025_0
                                                        replace p1025 := eq_true p1025
                                                        replace q1025 := eq_true q1025
                                                        refine start_ (n := 9) (S := fun w' => w'.cell? (ad1024.add (x10_1).toNat) = some (.int .i64 (rd l0 x10_1)) ∧ w'.cell? (ad1025.add (x11_2).toNat) = some (.int .i64 (rd l1 x11_2))) (ds := []) #[false, false, false, false, false, false, false, false, false] (by kernel_rfl) rfl rfl ⟨((HB.out.cell (World.block_lt_of_cell? w _ hw1024_0)).trans hw1024_0), ((HB.out.cell (World.block_lt_of_cell? w _ hw1025_0)).trans hw1025_0)⟩ (fun hHeld => ?_); refine with_tabW impl_editCosts.tab10 impl_editCosts.bits10 (fun HT_ HW_ => ?_)
                                                        generalize wr.drew = w56 at HO_9 HL1022_0 HR1022_0 HB hx1024_0 hx1025_0 hHeld ⊢
                                                        refine pure_ (i := 0) (N := some 45) (v := ?_) (a' := ?_) #[true, false, false, false, false, false, false, false, false] rfl rfl (any_of HT_.out (by kernel_rfl)) (fun _ _ _ h => h) (Or.inl ⟨by rfl, ?_⟩) ?_ ?_
                                                        rotate_left
                                                        · intro w'
                                                          go_simp
                                                          with_reducible rfl
                                                        rotate_left
                                                        · simp only [Act.put, List.setIfInBounds_toArray, List.set_cons_zero, List.set_cons_succ, i64_w, i32_w]
                                                          rfl
                                                        refine pure_ (i := 1) (N := some 46) (v := ?_) (a' := ?_) #[true, true, false, false, false, false, false, false, false] rfl rfl (any_of HT_.out (by kernel_rfl)) (fun _ _ _ h => h) (Or.inl ⟨by rfl, ?_⟩) ?_ ?_
                                                        rotate_left
                                                        · intro w'
                                                          go_simp
                                                          with_reducible rfl
                                                        rotate_left
                                                        · simp only [Act.put, List.setIfInBounds_toArray, List.set_cons_zero, List.set_cons_succ, i64_w, i32_w]
                                                          rfl
                                                        refine pure_ (i := 2) (N := some 47) (v := ?_) (a' := ?_) #[true, true, true, false, false, false, false, false, false] rfl rfl (any_of HT_.out (by kernel_rfl)) (fun _ _ _ h => h) (Or.inl ⟨by rfl, ?_⟩) ?_ ?_
                                                        rotate_left
                                                        · intro w'
                                                          go_simp
                                                          with_reducible rfl
                                                        rotate_left
                                                        · simp only [Act.put, List.setIfInBounds_toArray, List.set_cons_zero, List.set_cons_succ, i64_w, i32_w]
                                                          rfl
                                                        refine pure_ (i := 4) (N := some 49) (v := ?_) (a' := ?_) #[true, true, true, false, true, false, false, false, false] rfl rfl (any_of HT_.out (by kernel_rfl)) (fun _ _ _ h => h) (Or.inl ⟨by rfl, ?_⟩) ?_ ?_
                                                        rotate_left
                                                        · intro w'
                                                          go_simp
                                                          with_reducible rfl
                                                        rotate_left
                                                        · simp only [Act.put, List.setIfInBounds_toArray, List.set_cons_zero, List.set_cons_succ, i64_w, i32_w]
                                                          rfl
                                                        refine pure_ (i := 5) (N := some 50) (v := ?_) (a' := ?_) #[true, true, true, false, true, true, false, false, false] rfl rfl (any_of HT_.out (by kernel_rfl)) (fun _ _ _ h => h) (Or.inl ⟨by rfl, ?_⟩) ?_ ?_
                                                        rotate_left
                                                        · intro w'
                                                          go_simp
                                                          with_reducible rfl
                                                        rotate_left
                                                        · simp only [Act.put, List.setIfInBounds_toArray, List.set_cons_zero, List.set_cons_succ, i64_w, i32_w]
                                                          rfl
                                                        refine pure_ (i := 6) (N := some 51) (v := ?_) (a' := ?_) #[true, true, true, false, true, true, true, false, false] rfl rfl (any_of HT_.out (by kernel_rfl)) (fun _ _ _ h => h) (Or.inl ⟨by rfl, ?_⟩) ?_ ?_
                                                        rotate_left
                                                        · intro w'
                                                          go_simp
                                                          with_reducible rfl
                                                        rotate_left
                                                        · simp only [Act.put, List.setIfInBounds_toArray, List.set_cons_zero, List.set_cons_succ, i64_w, i32_w]
                                                          rfl
                                                        refine take_ (i := 3) (N := some 48) (v := ?_) (a' := ?_) #[true, true, true, true, true, true, true, false, false] rfl rfl (take_ofW HT_.out HW_.out (by kernel_rfl)) (fun _ _ _ h => h) (Or.inl ⟨by rfl, ?_⟩) hHeld ?_ ?_
                                                        rotate_left
                                                        · rintro w' ⟨s0, s1⟩
                                                          go_simp
                                                          with_reducible rfl
                                                        rotate_left
                                                        · simp only [Act.put, List.setIfInBounds_toArray, List.set_cons_zero, List.set_cons_succ, i64_w, i32_w]
                                                          rfl
                                                        refine take_ (i := 7) (N := some 52) (v := ?_) (a' := ?_) #[true, true, true, true, true, true, true, true, false] rfl rfl (take_ofW HT_.out HW_.out (by kernel_rfl)) (fun _ _ _ h => h) (Or.inl ⟨by rfl, ?_⟩) hHeld ?_ ?_
                                                        rotate_left
                                                        · rintro w' ⟨s0, s1⟩
                                                          go_simp
                                                          with_reducible rfl
                                                        rotate_left
                                                        · simp only [Act.put, List.setIfInBounds_toArray, List.set_cons_zero, List.set_cons_succ, i64_w, i32_w]
                                                          rfl
                                                        refine pure_ (i := 8) (N := some 53) (v := ?_) (a' := ?_) #[true, true, true, true, true, true, true, true, true] rfl rfl (any_of HT_.out (by kernel_rfl)) (fun _ _ _ h => h) (Or.inl ⟨by rfl, ?_⟩) ?_ ?_
                                                        rotate_left
                                                        · intro w'
                                                          go_simp
                                                          with_reducible rfl
                                                        rotate_left
                                                        · simp only [Act.put, List.setIfInBounds_toArray, List.set_cons_zero, List.set_cons_succ, i64_w, i32_w]
                                                          rfl
                                                        refine done_ (done_of HT_.out (by kernel_rfl)) ?_
                                                        try go_wp2
                                                        have n0_ := Aside0.mk (Kd.S_drew HO_9.out)
                                                        have n1_ := Aside0.mk (Kd.R_drew HL1022_0.out)
                                                        have n2_ := Aside0.mk (Kd.C_drew HR1022_0.out)
                                                        have n3_ := Aside0.mk (below_drew1 HB.out)
                                                        clear HO_9
                                                        clear HL1022_0
                                                        clear HR1022_0
                                                        clear HB
                                                        have HO_9 := n0_
                                                        have HL1022_0 := n1_
                                                        have HR1022_0 := n2_
                                                        have HB := n3_
                                                        clear n0_ n1_ n2_ n3_
                                                        have p1026 : 0 ≤ (x10_1 : Int) := of_decide_eq_true (by first | (with_reducible assumption) | assumption)
                                                        have q1026 : x10_1 < (x9_2.length : Int) := of_decide_eq_true (by first | (with_reducible assumption) | assumption)
                                                        obtain ⟨ad1026, A1026_0, c1026_0, e1026, hx1026_0, hl1026_0, hi1026_0⟩ := at_L1 (Kd.S_reads' HO_9.out).2.2 x10_1 p1026 q1026
                                                        obtain rfl : (⟨go16, 0, none⟩ : Addr) = ad1026 := (by injection e1026)
                                                        obtain ⟨ce1026, hce1026, hMe1026, hcc1026⟩ := Kd.S_get HO_9.out [] x10_1 p1026 (by first | exact q1026 | exact of_decide_eq_true (by first | (with_reducible assumption) | assumption) | (have e_ := (Kd.S_reads' HO_9.out).1; omega))
                                                        obtain ⟨ve1026_0, rfl, ge1026_0⟩ := hMe1026
                                                        have hv1026_0 := hcc1026 0 _ rfl
                                                        rw [Nat.add_zero, show ((Kd.slice 2 (Kd.int .i64))).sz = 1 from rfl, Nat.mul_one] at hv1026_0
                                                        replace hv1026_0 := Option.some.inj (hv1026_0.symm.trans hx1026_0)
                                                        rw [hv1026_0] at ge1026_0
                                                        have HL1026_0 := Aside0.mk (show Kd.R (Kd.int .i64) 2 _ _ _ _ (rd_L1 x9_2 x10_1) from ge1026_0)
                                                        clear hv1026_0 ge1026_0
                                                        have HX1026_0 := Aside0.mk hx1026_0
                                                        clear hcc1026 hce1026
                                                        (first | simp only [add_plain] at hx1026_0 | simp only [add_at] at hx1026_0 | simp only [Addr.add, Nat.zero_add] at hx1026_0 | skip)
                                                        have HR1026_0 := Aside0.mk hi1026_0
                                                        have HC1026_0 := Aside0.mk hl1026_0
                                                        clear hi1026_0 hl1026_0
                                                        replace p1026 := eq_true p1026
                                                        replace q1026 := eq_true q1026
                                                        have p1027 : 0 ≤ ((ji38) : Int) := of_decide_eq_true (by first | (with_reducible assumption) | assumption)
                                                        have q1027 : (ji38) < (x9_2.length : Int) := of_decide_eq_true (by first | (with_reducible assumption) | assumption)
                                                        obtain ⟨ad1027, A1027_0, c1027_0, e1027, hx1027_0, hl1027_0, hi1027_0⟩ := at_L1 (Kd.S_reads' HO_9.out).2.2 (ji38) p1027 q1027
                                                        obtain rfl : (⟨go16, 0, none⟩ : Addr) = ad1027 := (by injection e1027)
                                                        obtain ⟨ce1027, hce1027, hMe1027, hcc1027⟩ := Kd.S_get HO_9.out [] (ji38) p1027 (by first | exact q1027 | exact of_decide_eq_true (by first | (with_reducible assumption) | assumption) | (have e_ := (Kd.S_reads' HO_9.out).1; omega))
                                                        obtain ⟨ve1027_0, rfl, ge1027_0⟩ := hMe1027
                                                        have hv1027_0 := hcc1027 0 _ rfl
                                                        rw [Nat.add_zero, show ((Kd.slice 2 (Kd.int .i64))).sz = 1 from rfl, Nat.mul_one] at hv1027_0
                                                        replace hv1027_0 := Option.some.inj (hv1027_0.symm.trans hx1027_0)
                                                        rw [hv1027_0] at ge1027_0
                                                        have HL1027_0 := Aside0.mk (show Kd.R (Kd.int .i64) 2 _ _ _ _ (rd_L1 x9_2 (ji38)) from ge1027_0)
                                                        clear hv1027_0 ge1027_0
                                                        have HX1027_0 := Aside0.mk hx1027_0
                                                        clear hcc1027 hce1027
                                                        (first | simp only [add_plain] at hx1027_0 | simp only [add_at] at hx1027_0 | simp only [Addr.add, Nat.zero_add] at hx1027_0 | skip)
                                                        have HR1027_0 := Aside0.mk hi1027_0
                                                        have HC1027_0 := Aside0.mk hl1027_0
                                                        clear hi1027_0 hl1027_0
                                                        replace p1027 := eq_true p1027
                                                        replace q1027 := eq_true q1027
                                                        have p1028 : 0 ≤ (x11_2 : Int) := of_decide_eq_true (by first | (with_reducible assumption) | assumption)
                                                        have q1028 : x11_2 < ((rd_L1 x9_2 (ji38)).length : Int) := of_decide_eq_true (by first | (with_reducible assumption) | assumption)
                                                        obtain ⟨ad1028, e1028, hx1028_0⟩ := Kd.at_int (by repeat (first | (with_reducible exact HR1027_0.out) | (with_reducible refine Kd.C_alloc ?_ _) | (with_reducible refine Kd.C_drewN ?_ _) | (with_reducible refine Kd.C_drew ?_) | exact HR1027_0.out)) x11_2 p1028 q1028
                                                        cases e1028
                                                        replace p1028 := eq_true p1028
                                                        replace q1028 := eq_true q1028
                                                        have p1029 : 0 ≤ (x10_1 : Int) := of_decide_eq_true (by first | (with_reducible assumption) | assumption)
                                                        have q1029 : x10_1 < (x9_2.length : Int) := of_decide_eq_true (by first | (with_reducible assumption) | assumption)
                                                        obtain ⟨ad1029, A1029_0, c1029_0, e1029, hx1029_0, hl1029_0, hi1029_0⟩ := at_L1 (Kd.S_reads' HO_9.out).2.2 x10_1 p1029 q1029
                                                        obtain rfl : (⟨go16, 0, none⟩ : Addr) = ad1029 := (by injection e1029)
                                                        obtain ⟨ce1029, hce1029, hMe1029, hcc1029⟩ := Kd.S_get HO_9.out [] x10_1 p1029 (by first | exact q1029 | exact of_decide_eq_true (by first | (with_reducible assumption) | assumption) | (have e_ := (Kd.S_reads' HO_9.out).1; omega))
                                                        obtain ⟨ve1029_0, rfl, ge1029_0⟩ := hMe1029
                                                        have hv1029_0 := hcc1029 0 _ rfl
                                                        rw [Nat.add_zero, show ((Kd.slice 2 (Kd.int .i64))).sz = 1 from rfl, Nat.mul_one] at hv1029_0
                                                        replace hv1029_0 := Option.some.inj (hv1029_0.symm.trans hx1029_0)
                                                        rw [hv1029_0] at ge1029_0
                                                        have HL1029_0 := Aside0.mk (show Kd.R (Kd.int .i64) 2 _ _ _ _ (rd_L1 x9_2 x10_1) from ge1029_0)
                                                        clear hv1029_0 ge1029_0
                                                        have HX1029_0 := Aside0.mk hx1029_0
                                                        clear hcc1029 hce1029
                                                        (first | simp only [add_plain] at hx1029_0 | simp only [add_at] at hx1029_0 | simp only [Addr.add, Nat.zero_add] at hx1029_0 | skip)
                                                        have HR1029_0 := Aside0.mk hi1029_0
                                                        have HC1029_0 := Aside0.mk hl1029_0
                                                        clear hi1029_0 hl1029_0
                                                        replace p1029 := eq_true p1029
                                                        replace q1029 := eq_true q1029
                                                        have ea_ := Option.some.inj (hx1026_0.symm.trans hx1029_0)
                                                        injection ea_ with ea_ en_ ec_
                                                        subst ea_
                                                        subst ec_
                                                        clear en_
                                                        have p1030 : 0 ≤ ((ji41) : Int) := of_decide_eq_true (by first | (with_reducible assumption) | assumption)
                                                        have q1030 : (ji41) < ((rd_L1 x9_2 x10_1).length : Int) := of_decide_eq_true (by first | (with_reducible assumption) | assumption)
                                                        obtain ⟨ad1030, e1030, hx1030_0⟩ := Kd.at_int (by repeat (first | (with_reducible exact HR1029_0.out) | (with_reducible refine Kd.C_alloc ?_ _) | (with_reducible refine Kd.C_drewN ?_ _) | (with_reducible refine Kd.C_drew ?_) | exact HR1029_0.out)) (ji41) p1030 q1030
                                                        cases e1030
                                                        replace p1030 := eq_true p1030
                                                        replace q1030 := eq_true q1030
                                                        have p55 : 0 ≤ (x11_2 : Int) := of_decide_eq_true (by first | (with_reducible assumption) | assumption)
                                                        have q55 : (x11_2 : Int) < (((rd_L1 x9_2 x10_1).length : Int) : Int) := of_decide_eq_true (by first | (with_reducible assumption) | assumption)
                                                        obtain ⟨go55, co55, eo55, gb55, gl55, cl55, HG55⟩ := Kd.R_form HL1026_0.out (by omega)
                                                        (first | cases eo55 | (injection eo55 with ea_ en_ ec_; (first | subst ea_ | (injection ea_ with ea_; subst ea_)); subst ec_; clear en_))
                                                        have GB55 := Aside0.mk gb55
                                                        have GG55 := Aside0.mk HG55
                                                        clear gb55 gl55 HG55
                                                        (first | simp only [add_plain] at hx1030_0 | skip)
                                                        obtain ⟨hx55_0, hf55_0⟩ := Kd.R_celln 0 HL1026_0.out (x11_2 : Int) p55 q55
                                                        replace p55 := eq_true p55
                                                        replace q55 := eq_true q55
                                                        have hq58 : (x10_1 : Int) < (x9_2.length : Int) := (by have h_ : (x10_1 : Int) < ((x9_2.length : Int) : Int) := of_decide_eq_true (by first | (with_reducible assumption) | assumption); first | exact h_ | (have e_ := (Kd.S_reads' HO_9.out).1; omega) | simpa only [List.length_set, List.length_set] using h_)
                                                        obtain ⟨oki58, ce58, hcl58, hM58, hcc58, hok58, hbk58⟩ := Kd.S_borrow HO_9.out [] (x10_1 : Int) (of_decide_eq_true (by first | (with_reducible assumption) | assumption)) hq58
                                                        obtain ⟨ve58_0, rfl, ge58_0⟩ := hM58
                                                        have hv58 := hcc58 0 _ rfl
                                                        rw [Nat.add_zero, show ((Kd.slice 2 (Kd.int .i64))).sz = 1 from rfl, Nat.mul_one] at hv58
                                                        replace hv58 := Option.some.inj (hv58.symm.trans HX1026_0.out)
                                                        subst hv58
                                                        clear hcc58 hcl58
                                                        replace ge58_0 := (show Kd.R (Kd.int .i64) 2 _ _ _ _ (rd_L1 x9_2 x10_1) from ge58_0)
                                                        have HP58 := Kd.R_putg ge58_0 (x11_2 : Int) ji53
                                                        rw [← Ny1031.out] at HP58
                                                        have HS58 := hbk58 HP58.2 (fun k_ e_ => by injection e_ with e_; subst e_; exact ge58_0.1 _ rfl) (x' := y1031) (Kd.M_row HP58.1)
                                                        rw [← Ny1033.out] at HS58
                                                        have HQ58 := Aside0.mk HS58
                                                        clear HP58 HS58 hbk58 hok58
                                                        refine start_ (n := 29) (S := fun w' => w'.cell? ⟨go16, (x10_1).toNat, none⟩ = some (.slice (some ⟨go55, 0, none⟩) (rd_L1 x9_2 x10_1).length c1026_0) ∧ w'.cell? ⟨go16, ((ji38)).toNat, none⟩ = some (.slice (some ad1028) (rd_L1 x9_2 (ji38)).length c1027_0) ∧ w'.cell? (ad1028.add (x11_2).toNat) = some (.int .i64 (rd (rd_L1 x9_2 (ji38)) x11_2)) ∧ w'.cell? ⟨go16, (x10_1).toNat, none⟩ = some (.slice (some ⟨go55, 0, none⟩) (rd_L1 x9_2 x10_1).length c1026_0) ∧ w'.cell? ⟨go55, ((ji41)).toNat, none⟩ = some (.int .i64 (rd (rd_L1 x9_2 x10_1) (ji41)))) (ds := [28]) #[false, false, false, false, false, false, false, false, false, false, false, false, false, false, false, false, false, false, false, false, false, false, false, false, false, false, false, false, false] (by kernel_rfl) rfl rfl ⟨hx1026_0, hx1027_0, hx1028_0, hx1029_0, hx1030_0⟩ (fun hHeld => ?_); refine with_tabW impl_editCosts.tab12 impl_editCosts.bits12 (fun HT_ HW_ => ?_)
                                                        generalize w56.drew = w57 at HO_9 HL1022_0 HR1022_0 HB GG55 HL1026_0 HL1027_0 HL1029_0 HQ58 HR1026_0 HR1027_0 HR1029_0 HX1026_0 HX1027_0 HX1029_0 hf55_0 hx1026_0 hx1027_0 hx1028_0 hx1029_0 hx1030_0 hx55_0 hHeld ⊢
                                                        refine pure_ (i := 0) (N := some 57) (v := ?_) (a' := ?_) #[true, false, false, false, false, false, false, false, false, false, false, false, false, false, false, false, false, false, false, false, false, false, false, false, false, false, false, false, false] rfl rfl (any_of HT_.out (by kernel_rfl)) (fun _ _ _ h => h) (Or.inl ⟨by rfl, ?_⟩) ?_ ?_
                                                        rotate_left
                                                        · intro w'
                                                          go_simp
                                                          with_reducible rfl
                                                        rotate_left
                                                        · simp only [Act.put, List.setIfInBounds_toArray, List.set_cons_zero, List.set_cons_succ, i64_w, i32_w]
                                                          rfl
                                                        refine pure_ (i := 1) (N := some 58) (v := ?_) (a' := ?_) #[true, true, false, false, false, false, false, false, false, false, false, false, false, false, false, false, false, false, false, false, false, false, false, false, false, false, false, false, false] rfl rfl (any_of HT_.out (by kernel_rfl)) (fun _ _ _ h => h) (Or.inl ⟨by rfl, ?_⟩) ?_ ?_
                                                        rotate_left
                                                        · intro w'
                                                          go_simp
                                                          with_reducible rfl
                                                        rotate_left
                                                        · simp only [Act.put, List.setIfInBounds_toArray, List.set_cons_zero, List.set_cons_succ, i64_w, i32_w]
                                                          rfl
                                                        refine pure_ (i := 2) (N := some 59) (v := ?_) (a' := ?_) #[true, true, true, false, false, false, false, false, false, false, false, false, false, false, false, false, false, false, false, false, false, false, false, false, false, false, false, false, false] rfl rfl (any_of HT_.out (by kernel_rfl)) (fun _ _ _ h => h) (Or.inl ⟨by rfl, ?_⟩) ?_ ?_
                                                        rotate_left
                                                        · intro w'
                                                          go_simp
                                                          with_reducible rfl
                                                        rotate_left
                                                        · simp only [Act.put, List.setIfInBounds_toArray, List.set_cons_zero, List.set_cons_succ, i64_w, i32_w]
                                                          rfl
                                                        refine pure_ (i := 4) (N := some 61) (v := ?_) (a' := ?_) #[true, true, true, false, true, false, false, false, false, false, false, false, false, false, false, false, false, false, false, false, false, false, false, false, false, false, false, false, false] rfl rfl (any_of HT_.out (by kernel_rfl)) (fun _ _ _ h => h) (Or.inl ⟨by rfl, ?_⟩) ?_ ?_
                                                        rotate_left
                                                        · intro w'
                                                          go_simp
                                                          with_reducible rfl
                                                        rotate_left
                                                        · simp only [Act.put, List.setIfInBounds_toArray, List.set_cons_zero, List.set_cons_succ, i64_w, i32_w]
                                                          rfl
                                                        refine pure_ (i := 5) (N := some 62) (v := ?_) (a' := ?_) #[true, true, true, false, true, true, false, false, false, false, false, false, false, false, false, false, false, false, false, false, false, false, false, false, false, false, false, false, false] rfl rfl (any_of HT_.out (by kernel_rfl)) (fun _ _ _ h => h) (Or.inl ⟨by rfl, ?_⟩) ?_ ?_
                                                        rotate_left
                                                        · intro w'
                                                          go_simp
                                                          with_reducible rfl
                                                        rotate_left
                                                        · simp only [Act.put, List.setIfInBounds_toArray, List.set_cons_zero, List.set_cons_succ, i64_w, i32_w]
                                                          rfl
                                                        refine pure_ (i := 6) (N := some 63) (v := ?_) (a' := ?_) #[true, true, true, false, true, true, true, false, false, false, false, false, false, false, false, false, false, false, false, false, false, false, false, false, false, false, false, false, false] rfl rfl (any_of HT_.out (by kernel_rfl)) (fun _ _ _ h => h) (Or.inl ⟨by rfl, ?_⟩) ?_ ?_
                                                        rotate_left
                                                        · intro w'
                                                          go_simp
                                                          with_reducible rfl
                                                        rotate_left
                                                        · simp only [Act.put, List.setIfInBounds_toArray, List.set_cons_zero, List.set_cons_succ, i64_w, i32_w]
                                                          rfl
                                                        refine pure_ (i := 7) (N := some 64) (v := ?_) (a' := ?_) #[true, true, true, false, true, true, true, true, false, false, false, false, false, false, false, false, false, false, false, false, false, false, false, false, false, false, false, false, false] rfl rfl (any_of HT_.out (by kernel_rfl)) (fun _ _ _ h => h) (Or.inl ⟨by rfl, ?_⟩) ?_ ?_
                                                        rotate_left
                                                        · intro w'
                                                          go_simp
                                                          with_reducible rfl
                                                        rotate_left
                                                        · simp only [Act.put, List.setIfInBounds_toArray, List.set_cons_zero, List.set_cons_succ, i64_w, i32_w]
                                                          rfl
                                                        refine pure_ (i := 8) (N := some 65) (v := ?_) (a' := ?_) #[true, true, true, false, true, true, true, true, true, false, false, false, false, false, false, false, false, false, false, false, false, false, false, false, false, false, false, false, false] rfl rfl (any_of HT_.out (by kernel_rfl)) (fun _ _ _ h => h) (Or.inl ⟨by rfl, ?_⟩) ?_ ?_
                                                        rotate_left
                                                        · intro w'
                                                          go_simp
                                                          with_reducible rfl
                                                        rotate_left
                                                        · simp only [Act.put, List.setIfInBounds_toArray, List.set_cons_zero, List.set_cons_succ, i64_w, i32_w]
                                                          rfl
                                                        refine pure_ (i := 9) (N := some 66) (v := ?_) (a' := ?_) #[true, true, true, false, true, true, true, true, true, true, false, false, false, false, false, false, false, false, false, false, false, false, false, false, false, false, false, false, false] rfl rfl (any_of HT_.out (by kernel_rfl)) (fun _ _ _ h => h) (Or.inl ⟨by rfl, ?_⟩) ?_ ?_
                                                        rotate_left
                                                        · intro w'
                                                          go_simp
                                                          with_reducible rfl
                                                        rotate_left
                                                        · simp only [Act.put, List.setIfInBounds_toArray, List.set_cons_zero, List.set_cons_succ, i64_w, i32_w]
                                                          rfl
                                                        refine pure_ (i := 10) (N := some 67) (v := ?_) (a' := ?_) #[true, true, true, false, true, true, true, true, true, true, true, false, false, false, false, false, false, false, false, false, false, false, false, false, false, false, false, false, false] rfl rfl (any_of HT_.out (by kernel_rfl)) (fun _ _ _ h => h) (Or.inl ⟨by rfl, ?_⟩) ?_ ?_
                                                        rotate_left
                                                        · intro w'
                                                          go_simp
                                                          with_reducible rfl
                                                        rotate_left
                                                        · simp only [Act.put, List.setIfInBounds_toArray, List.set_cons_zero, List.set_cons_succ, i64_w, i32_w]
                                                          rfl
                                                        refine pure_ (i := 12) (N := some 69) (v := ?_) (a' := ?_) #[true, true, true, false, true, true, true, true, true, true, true, false, true, false, false, false, false, false, false, false, false, false, false, false, false, false, false, false, false] rfl rfl (any_of HT_.out (by kernel_rfl)) (fun _ _ _ h => h) (Or.inl ⟨by rfl, ?_⟩) ?_ ?_
                                                        rotate_left
                                                        · intro w'
                                                          go_simp
                                                          with_reducible rfl
                                                        rotate_left
                                                        · simp only [Act.put, List.setIfInBounds_toArray, List.set_cons_zero, List.set_cons_succ, i64_w, i32_w]
                                                          rfl
                                                        refine pure_ (i := 16) (N := some 73) (v := ?_) (a' := ?_) #[true, true, true, false, true, true, true, true, true, true, true, false, true, false, false, false, true, false, false, false, false, false, false, false, false, false, false, false, false] rfl rfl (any_of HT_.out (by kernel_rfl)) (fun _ _ _ h => h) (Or.inl ⟨by rfl, ?_⟩) ?_ ?_
                                                        rotate_left
                                                        · intro w'
                                                          go_simp
                                                          with_reducible rfl
                                                        rotate_left
                                                        · simp only [Act.put, List.setIfInBounds_toArray, List.set_cons_zero, List.set_cons_succ, i64_w, i32_w]
                                                          rfl
                                                        refine pure_ (i := 17) (N := some 74) (v := ?_) (a' := ?_) #[true, true, true, false, true, true, true, true, true, true, true, false, true, false, false, false, true, true, false, false, false, false, false, false, false, false, false, false, false] rfl rfl (any_of HT_.out (by kernel_rfl)) (fun _ _ _ h => h) (Or.inl ⟨by rfl, ?_⟩) ?_ ?_
                                                        rotate_left
                                                        · intro w'
                                                          go_simp
                                                          with_reducible rfl
                                                        rotate_left
                                                        · simp only [Act.put, List.setIfInBounds_toArray, List.set_cons_zero, List.set_cons_succ, i64_w, i32_w]
                                                          rfl
                                                        refine pure_ (i := 18) (N := some 75) (v := ?_) (a' := ?_) #[true, true, true, false, true, true, true, true, true, true, true, false, true, false, false, false, true, true, true, false, false, false, false, false, false, false, false, false, false] rfl rfl (any_of HT_.out (by kernel_rfl)) (fun _ _ _ h => h) (Or.inl ⟨by rfl, ?_⟩) ?_ ?_
                                                        rotate_left
                                                        · intro w'
                                                          go_simp
                                                          with_reducible rfl
                                                        rotate_left
                                                        · simp only [Act.put, List.setIfInBounds_toArray, List.set_cons_zero, List.set_cons_succ, i64_w, i32_w]
                                                          rfl
                                                        refine pure_ (i := 19) (N := some 76) (v := ?_) (a' := ?_) #[true, true, true, false, true, true, true, true, true, true, true, false, true, false, false, false, true, true, true, true, false, false, false, false, false, false, false, false, false] rfl rfl (any_of HT_.out (by kernel_rfl)) (fun _ _ _ h => h) (Or.inl ⟨by rfl, ?_⟩) ?_ ?_
                                                        rotate_left
                                                        · intro w'
                                                          go_simp
                                                          with_reducible rfl
                                                        rotate_left
                                                        · simp only [Act.put, List.setIfInBounds_toArray, List.set_cons_zero, List.set_cons_succ, i64_w, i32_w]
                                                          rfl
                                                        refine pure_ (i := 21) (N := some 78) (v := ?_) (a' := ?_) #[true, true, true, false, true, true, true, true, true, true, true, false, true, false, false, false, true, true, true, true, false, true, false, false, false, false, false, false, false] rfl rfl (any_of HT_.out (by kernel_rfl)) (fun _ _ _ h => h) (Or.inl ⟨by rfl, ?_⟩) ?_ ?_
                                                        rotate_left
                                                        · intro w'
                                                          go_simp
                                                          with_reducible rfl
                                                        rotate_left
                                                        · simp only [Act.put, List.setIfInBounds_toArray, List.set_cons_zero, List.set_cons_succ, i64_w, i32_w]
                                                          rfl
                                                        refine pure_ (i := 22) (N := some 79) (v := ?_) (a' := ?_) #[true, true, true, false, true, true, true, true, true, true, true, false, true, false, false, false, true, true, true, true, false, true, true, false, false, false, false, false, false] rfl rfl (any_of HT_.out (by kernel_rfl)) (fun _ _ _ h => h) (Or.inl ⟨by rfl, ?_⟩) ?_ ?_
                                                        rotate_left
                                                        · intro w'
                                                          go_simp
                                                          with_reducible rfl
                                                        rotate_left
                                                        · simp only [Act.put, List.setIfInBounds_toArray, List.set_cons_zero, List.set_cons_succ, i64_w, i32_w]
                                                          rfl
                                                        refine take_ (i := 3) (N := some 60) (v := ?_) (a' := ?_) #[true, true, true, true, true, true, true, true, true, true, true, false, true, false, false, false, true, true, true, true, false, true, true, false, false, false, false, false, false] rfl rfl (take_ofW HT_.out HW_.out (by kernel_rfl)) (fun _ _ _ h => h) (Or.inl ⟨by rfl, ?_⟩) hHeld ?_ ?_
                                                        rotate_left
                                                        · rintro w' ⟨s0, s1, s2, s3, s4⟩
                                                          go_simp
                                                          with_reducible rfl
                                                        rotate_left
                                                        · simp only [Act.put, List.setIfInBounds_toArray, List.set_cons_zero, List.set_cons_succ, i64_w, i32_w]
                                                          rfl
                                                        refine take_ (i := 11) (N := some 68) (v := ?_) (a' := ?_) #[true, true, true, true, true, true, true, true, true, true, true, true, true, false, false, false, true, true, true, true, false, true, true, false, false, false, false, false, false] rfl rfl (take_ofW HT_.out HW_.out (by kernel_rfl)) (fun _ _ _ h => h) (Or.inl ⟨by rfl, ?_⟩) hHeld ?_ ?_
                                                        rotate_left
                                                        · rintro w' ⟨s0, s1, s2, s3, s4⟩
                                                          go_simp
                                                          with_reducible rfl
                                                        rotate_left
                                                        · simp only [Act.put, List.setIfInBounds_toArray, List.set_cons_zero, List.set_cons_succ, i64_w, i32_w]
                                                          rfl
                                                        refine pure_ (i := 13) (N := some 70) (v := ?_) (a' := ?_) #[true, true, true, true, true, true, true, true, true, true, true, true, true, true, false, false, true, true, true, true, false, true, true, false, false, false, false, false, false] rfl rfl (any_of HT_.out (by kernel_rfl)) (fun _ _ _ h => h) (Or.inl ⟨by rfl, ?_⟩) ?_ ?_
                                                        rotate_left
                                                        · intro w'
                                                          go_simp
                                                          with_reducible rfl
                                                        rotate_left
                                                        · simp only [Act.put, List.setIfInBounds_toArray, List.set_cons_zero, List.set_cons_succ, i64_w, i32_w]
                                                          rfl
                                                        refine take_ (i := 14) (N := some 71) (v := ?_) (a' := ?_) #[true, true, true, true, true, true, true, true, true, true, true, true, true, true, true, false, true, true, true, true, false, true, true, false, false, false, false, false, false] rfl rfl (take_ofW HT_.out HW_.out (by kernel_rfl)) (fun _ _ _ h => h) (Or.inl ⟨by rfl, ?_⟩) hHeld ?_ ?_
                                                        rotate_left
                                                        · rintro w' ⟨s0, s1, s2, s3, s4⟩
                                                          go_simp
                                                          with_reducible rfl
                                                        rotate_left
                                                        · simp only [Act.put, List.setIfInBounds_toArray, List.set_cons_zero, List.set_cons_succ, i64_w, i32_w]
                                                          rfl
                                                        refine pure_ (i := 15) (N := some 72) (v := ?_) (a' := ?_) #[true, true, true, true, true, true, true, true, true, true, true, true, true, true, true, true, true, true, true, true, false, true, true, false, false, false, false, false, false] rfl rfl (any_of HT_.out (by kernel_rfl)) (fun _ _ _ h => h) (Or.inl ⟨by rfl, ?_⟩) ?_ ?_
                                                        rotate_left
                                                        · intro w'
                                                          go_simp
                                                          with_reducible rfl
                                                        rotate_left
                                                        · simp only [Act.put, List.setIfInBounds_toArray, List.set_cons_zero, List.set_cons_succ, i64_w, i32_w]
                                                          rfl
                                                        refine take_ (i := 20) (N := some 77) (v := ?_) (a' := ?_) #[true, true, true, true, true, true, true, true, true, true, true, true, true, true, true, true, true, true, true, true, true, true, true, false, false, false, false, false, false] rfl rfl (take_ofW HT_.out HW_.out (by kernel_rfl)) (fun _ _ _ h => h) (Or.inl ⟨by rfl, ?_⟩) hHeld ?_ ?_
                                                        rotate_left
                                                        · rintro w' ⟨s0, s1, s2, s3, s4⟩
                                                          go_simp
                                                          with_reducible rfl
                                                        rotate_left
                                                        · simp only [Act.put, List.setIfInBounds_toArray, List.set_cons_zero, List.set_cons_succ, i64_w, i32_w]
                                                          rfl
                                                        refine pure_ (i := 23) (N := some 80) (v := ?_) (a' := ?_) #[true, true, true, true, true, true, true, true, true, true, true, true, true, true, true, true, true, true, true, true, true, true, true, true, false, false, false, false, false] rfl rfl (any_of HT_.out (by kernel_rfl)) (fun _ _ _ h => h) (Or.inl ⟨by rfl, ?_⟩) ?_ ?_
                                                        rotate_left
                                                        · intro w'
                                                          go_simp
                                                          with_reducible rfl
                                                        rotate_left
                                                        · simp only [Act.put, List.setIfInBounds_toArray, List.set_cons_zero, List.set_cons_succ, i64_w, i32_w]
                                                          rfl
                                                        refine take_ (i := 24) (N := some 81) (v := ?_) (a' := ?_) #[true, true, true, true, true, true, true, true, true, true, true, true, true, true, true, true, true, true, true, true, true, true, true, true, true, false, false, false, false] rfl rfl (take_ofW HT_.out HW_.out (by kernel_rfl)) (fun _ _ _ h => h) (Or.inl ⟨by rfl, ?_⟩) hHeld ?_ ?_
                                                        rotate_left
                                                        · rintro w' ⟨s0, s1, s2, s3, s4⟩
                                                          go_simp
                                                          with_reducible rfl
                                                        rotate_left
                                                        · simp only [Act.put, List.setIfInBounds_toArray, List.set_cons_zero, List.set_cons_succ, i64_w, i32_w]
                                                          rfl
                                                        refine pure_ (i := 25) (N := some 82) (v := ?_) (a' := ?_) #[true, true, true, true, true, true, true, true, true, true, true, true, true, true, true, true, true, true, true, true, true, true, true, true, true, true, false, false, false] rfl rfl (any_of HT_.out (by kernel_rfl)) (fun _ _ _ h => h) (Or.inl ⟨by rfl, ?_⟩) ?_ ?_
                                                        rotate_left
                                                        · intro w'
                                                          go_simp
                                                          with_reducible rfl
                                                        rotate_left
                                                        · simp only [Act.put, List.setIfInBounds_toArray, List.set_cons_zero, List.set_cons_succ, i64_w, i32_w]
                                                          rfl
                                                        refine pure_ (i := 26) (N := some 83) (v := ?_) (a' := ?_) #[true, true, true, true, true, true, true, true, true, true, true, true, true, true, true, true, true, true, true, true, true, true, true, true, true, true, true, false, false] rfl rfl (any_of HT_.out (by kernel_rfl)) (fun _ _ _ h => h) (Or.inl ⟨by rfl, ?_⟩) ?_ ?_
                                                        rotate_left
                                                        · intro w'
                                                          go_simp
                                                          with_reducible rfl
                                                        rotate_left
                                                        · simp only [Act.put, List.setIfInBounds_toArray, List.set_cons_zero, List.set_cons_succ, i64_w, i32_w]
                                                          rfl
                                                        refine pure_ (i := 27) (N := some 84) (v := ?_) (a' := ?_) #[true, true, true, true, true, true, true, true, true, true, true, true, true, true, true, true, true, true, true, true, true, true, true, true, true, true, true, true, false] rfl rfl (any_of HT_.out (by kernel_rfl)) (fun _ _ _ h => h) (Or.inl ⟨by rfl, ?_⟩) ?_ ?_
                                                        rotate_left
                                                        · intro w'
                                                          go_simp
                                                          with_reducible rfl
                                                        rotate_left
                                                        · simp only [Act.put, List.setIfInBounds_toArray, List.set_cons_zero, List.set_cons_succ, i64_w, i32_w]
                                                          rfl
                                                        refine last_ (i := 28) (N := none) #[true, true, true, true, true, true, true, true, true, true, true, true, true, true, true, true, true, true, true, true, true, true, true, true, true, true, true, true, true] rfl rfl (one_of HT_.out (by kernel_rfl)) (by decide) (fun K hK => ?_)
                                                        refine skip_ (w1 := ?_) (by rfl) rfl ?_ ?_
                                                        rotate_left
                                                        · go_simp
                                                          rfl
                                                        refine hK.out _ _ ?_
                                                        clear hK K
                                                        refine done_ (done_of HT_.out (by kernel_rfl)) ?_
                                                        try go_wp2
                                                        (try simp only [← hl9_2])
                                                        go_roundg k2
                                                        case measure => have := HK1.out; have := HK2.out; omega
                                                        case rel => exact ⟨(y1033), (wrap64 (x11_2 - 1)), (by first | rfl | (simp; done) | (simp [*]; done)), H', ⟨by have := HK1.out; have := HK2.out; omega⟩, ⟨by (try simp only [hl9_2]); (with_reducible repeat (first | apply Kd.S_alloc | apply Kd.S_drewN | apply Kd.S_drew)); exact HQ58.out⟩, ⟨by repeat (first | (with_reducible first | exact HB.out | apply below_alloc | apply pw_below_drewN | apply below_drew1 | refine below_set ?_ GB55.out) | exact HB.out)⟩⟩
                                                      · rw [if_neg c54] at H
                                                        exact absurd H (by simp)
                                                    · rw [if_neg c51] at H
                                                      exact absurd H (by simp)
                                                  · rw [if_neg c50] at H
                                                    exact absurd H (by simp)
                                                · rw [if_neg c49] at H
                                                  exact absurd H (by simp)
                                              · rw [if_neg c48] at H
                                                have c48b0 : ((rd l0 x10_1) == (rd l1 x11_2)) = false := beq_eq_false_iff_ne.mpr c48
                                                have c48b1 : ((rd l0 x10_1) != (rd l1 x11_2)) = true := bne_iff_ne.mpr c48
                                                by_cases c60 : x10_1 < (x9_2.length : Int)
                                                · rw [if_pos c60] at H
                                                  have c60b0 : decide (x10_1 < (x9_2.length : Int)) = true := decide_eq_true c60
                                                  have c60b2 := c60b0; (try simp only [hl9_2] at c60b2)
                                                  clear c60
                                                  by_cases c61 : x11_2 < ((rd_L1 x9_2 (ji38)).length : Int)
                                                  · rw [if_pos c61] at H
                                                    have c61b0 : decide (x11_2 < ((rd_L1 x9_2 (ji38)).length : Int)) = true := decide_eq_true c61
                                                    have c61b2 := c61b0; (try simp only [hl9_2] at c61b2)
                                                    clear c61
                                                    by_cases c62 : (ji41) < ((rd_L1 x9_2 x10_1).length : Int)
                                                    · rw [if_pos c62] at H
                                                      have c62b0 : decide ((ji41) < ((rd_L1 x9_2 x10_1).length : Int)) = true := decide_eq_true c62
                                                      have c62b2 := c62b0; (try simp only [hl9_2] at c62b2)
                                                      clear c62
                                                      obtain ⟨ji63, hji63⟩ : ∃ j_ : Int, (mn (wrap64 ((rd (rd_L1 x9_2 (ji38)) (ji41)) + a2)) (wrap64 (a3 + (rd (rd_L1 x9_2 (ji38)) x11_2)))) = j_ := ⟨_, rfl⟩
                                                      replace H : (if x11_2 < ((rd_L1 x9_2 x10_1).length : Int) then (impl_editCosts.l1 k2 l0 l1 a2 a3 (x9_2.set (x10_1 : Int).toNat ((rd_L1 x9_2 x10_1).set (x11_2 : Int).toNat (mn (ji63) (wrap64 (a3 + (rd (rd_L1 x9_2 x10_1) (ji41))))))) x10_1 (wrap64 (x11_2 - 1))) else (none)) = some r := by first | (rw [hji63] at H; exact H) | (simp only [hji63] at H ⊢; exact H)
                                                      have hji63_ : (if (wrap64 (a3 + (rd (rd_L1 x9_2 (ji38)) x11_2))) < (wrap64 ((rd (rd_L1 x9_2 (ji38)) (ji41)) + a2)) then (wrap64 (a3 + (rd (rd_L1 x9_2 (ji38)) x11_2))) else (wrap64 ((rd (rd_L1 x9_2 (ji38)) (ji41)) + a2))) = ji63 := hji63
                                                      obtain ⟨ji64, hji64⟩ : ∃ j_ : Int, (mn (ji63) (wrap64 (a3 + (rd (rd_L1 x9_2 x10_1) (ji41))))) = j_ := ⟨_, rfl⟩
                                                      replace H : (if x11_2 < ((rd_L1 x9_2 x10_1).length : Int) then (impl_editCosts.l1 k2 l0 l1 a2 a3 (x9_2.set (x10_1 : Int).toNat ((rd_L1 x9_2 x10_1).set (x11_2 : Int).toNat (ji64))) x10_1 (wrap64 (x11_2 - 1))) else (none)) = some r := by first | (rw [hji64] at H; exact H) | (simp only [hji64] at H ⊢; exact H)
                                                      have hji64_ : (if (wrap64 (a3 + (rd (rd_L1 x9_2 x10_1) (ji41)))) < (ji63) then (wrap64 (a3 + (rd (rd_L1 x9_2 x10_1) (ji41)))) else (ji63)) = ji64 := hji64
                                                      by_cases c65 : x11_2 < ((rd_L1 x9_2 x10_1).length : Int)
                                                      · rw [if_pos c65] at H
                                                        have c65b0 : decide (x11_2 < ((rd_L1 x9_2 x10_1).length : Int)) = true := decide_eq_true c65
                                                        have c65b2 := c65b0; (try simp only [hl9_2] at c65b2)
                                                        clear c65
                                                        obtain ⟨y1039, hy1039⟩ : ∃ y_ : List Int, y_ = ((rd_L1 x9_2 x10_1).set (x11_2 : Int).toNat (ji64)) := ⟨_, rfl⟩
                                                        replace H : (impl_editCosts.l1 k2 l0 l1 a2 a3 (x9_2.set (x10_1 : Int).toNat y1039) x10_1 (wrap64 (x11_2 - 1))) = some r := by first | (rw [hy1039]; with_reducible exact H) | (have H2_ := (Option.bind_some _ _).symm.trans H; rw [hy1039]; with_reducible exact H2_) | (have H2_ := (Option.bind_some _ _).symm.trans H; with_reducible exact H2_) | with_reducible exact H | (rw [hy1039]; exact H) | exact H
                                                        have Ny1039 := Aside0.mk hy1039
                                                        clear hy1039
                                                        obtain ⟨y1041, hy1041⟩ : ∃ y_ : List (List Int), y_ = (x9_2.set (x10_1 : Int).toNat y1039) := ⟨_, rfl⟩
                                                        replace H : (impl_editCosts.l1 k2 l0 l1 a2 a3 y1041 x10_1 (wrap64 (x11_2 - 1))) = some r := by first | (rw [hy1041]; with_reducible exact H) | (have H2_ := (Option.bind_some _ _).symm.trans H; rw [hy1041]; with_reducible exact H2_) | (have H2_ := (Option.bind_some _ _).symm.trans H; with_reducible exact H2_) | with_reducible exact H | (rw [hy1041]; exact H) | exact H
                                                        have Ny1041 := Aside0.mk hy1041
                                                        clear hy1041
                                                        have H' := Aside0.mk H
                                                        clear H
                                                        have p1022 : 0 ≤ ((ji38) : Int) := of_decide_eq_true (by first | (with_reducible assumption) | assumption)
                                                        have q1022 : (ji38) < (x9_2.length : Int) := of_decide_eq_true (by first | (with_reducible assumption) | assumption)
                                                        obtain ⟨ad1022, A1022_0, c1022_0, e1022, hx1022_0, hl1022_0, hi1022_0⟩ := at_L1 (Kd.S_reads' HO_9.out).2.2 (ji38) p1022 q1022
                                                        obtain rfl : (⟨go16, 0, none⟩ : Addr) = ad1022 := (by injection e1022)
                                                        obtain ⟨ce1022, hce1022, hMe1022, hcc1022⟩ := Kd.S_get HO_9.out [] (ji38) p1022 (by first | exact q1022 | exact of_decide_eq_true (by first | (with_reducible assumption) | assumption) | (have e_ := (Kd.S_reads' HO_9.out).1; omega))
                                                        obtain ⟨ve1022_0, rfl, ge1022_0⟩ := hMe1022
                                                        have hv1022_0 := hcc1022 0 _ rfl
                                                        rw [Nat.add_zero, show ((Kd.slice 2 (Kd.int .i64))).sz = 1 from rfl, Nat.mul_one] at hv1022_0
                                                        replace hv1022_0 := Option.some.inj (hv1022_0.symm.trans hx1022_0)
                                                        rw [hv1022_0] at ge1022_0
                                                        have HL1022_0 := Aside0.mk (show Kd.R (Kd.int .i64) 2 _ _ _ _ (rd_L1 x9_2 (ji38)) from ge1022_0)
                                                        clear hv1022_0 ge1022_0
                                                        have HX1022_0 := Aside0.mk hx1022_0
                                                        clear hcc1022 hce1022
                                                        (first | simp only [add_plain] at hx1022_0 | simp only [add_at] at hx1022_0 | simp only [Addr.add, Nat.zero_add] at hx1022_0 | skip)
                                                        have HR1022_0 := Aside0.mk hi1022_0
                                                        have HC1022_0 := Aside0.mk hl1022_0
                                                        clear hi1022_0 hl1022_0
                                                        replace p1022 := eq_true p1022
                                                        replace q1022 := eq_true q1022
                                                        have p1023 : 0 ≤ ((ji41) : Int) := of_decide_eq_true (by first | (with_reducible assumption) | assumption)
                                                        have q1023 : (ji41) < ((rd_L1 x9_2 (ji38)).length : Int) := of_decide_eq_true (by first | (with_reducible assumption) | assumption)
                                                        obtain ⟨ad1023, e1023, hx1023_0⟩ := Kd.at_int (by repeat (first | (with_reducible exact HR1022_0.out) | (with_reducible refine Kd.C_alloc ?_ _) | (with_reducible refine Kd.C_drewN ?_ _) | (with_reducible refine Kd.C_drew ?_) | exact HR1022_0.out)) (ji41) p1023 q1023
                                                        cases e1023
                                                        replace p1023 := eq_true p1023
                                                        replace q1023 := eq_true q1023
                                                        try go_wp2
                                                        have n0_ := Aside0.mk (Kd.S_drew HO_9.out)
                                                        have n1_ := Aside0.mk (Kd.R_drew HL1022_0.out)
                                                        have n2_ := Aside0.mk (Kd.C_drew HR1022_0.out)
                                                        have n3_ := Aside0.mk (below_drew1 HB.out)
                                                        clear HO_9
                                                        clear HL1022_0
                                                        clear HR1022_0
                                                        clear HB
                                                        have HO_9 := n0_
                                                        have HL1022_0 := n1_
                                                        have HR1022_0 := n2_
                                                        have HB := n3_
                                                        clear n0_ n1_ n2_ n3_
                                                        have p1024 : 0 ≤ (x10_1 : Int) := of_decide_eq_true (by first | (with_reducible assumption) | assumption)
                                                        have q1024 : x10_1 < (l0.length : Int) := of_decide_eq_true (by first | (with_reducible assumption) | assumption)
                                                        obtain ⟨ad1024, e1024, hx1024_0⟩ := Kd.at_int HR0.out x10_1 p1024 q1024
                                                        have hw1024_0 := hx1024_0
                                                        cases e1024
                                                        replace hx1024_0 := (HB.out.cell (World.block_lt_of_cell? w _ hx1024_0)).trans hx1024_0
                                                        replace p1024 := eq_true p1024
                                                        replace q1024 := eq_true q1024
                                                        have p1025 : 0 ≤ (x11_2 : Int) := of_decide_eq_true (by first | (with_reducible assumption) | assumption)
                                                        have q1025 : x11_2 < (l1.length : Int) := of_decide_eq_true (by first | (with_reducible assumption) | assumption)
                                                        obtain ⟨ad1025, e1025, hx1025_0⟩ := Kd.at_int HR1.out x11_2 p1025 q1025
                                                        have hw1025_0 := hx1025_0
                                                        cases e1025
                                                        replace hx1025_0 := (HB.out.cell (World.block_lt_of_cell? w _ hx1025_0)).trans hx1025_0
                                                        replace p1025 := eq_true p1025
                                                        replace q1025 := eq_true q1025
                                                        refine start_ (n := 9) (S := fun w' => w'.cell? (ad1024.add (x10_1).toNat) = some (.int .i64 (rd l0 x10_1)) ∧ w'.cell? (ad1025.add (x11_2).toNat) = some (.int .i64 (rd l1 x11_2))) (ds := []) #[false, false, false, false, false, false, false, false, false] (by kernel_rfl) rfl rfl ⟨((HB.out.cell (World.block_lt_of_cell? w _ hw1024_0)).trans hw1024_0), ((HB.out.cell (World.block_lt_of_cell? w _ hw1025_0)).trans hw1025_0)⟩ (fun hHeld => ?_); refine with_tabW impl_editCosts.tab10 impl_editCosts.bits10 (fun HT_ HW_ => ?_)
                                                        generalize wr.drew = w67 at HO_9 HL1022_0 HR1022_0 HB hx1024_0 hx1025_0 hHeld ⊢
                                                        refine pure_ (i := 0) (N := some 45) (v := ?_) (a' := ?_) #[true, false, false, false, false, false, false, false, false] rfl rfl (any_of HT_.out (by kernel_rfl)) (fun _ _ _ h => h) (Or.inl ⟨by rfl, ?_⟩) ?_ ?_
                                                        rotate_left
                                                        · intro w'
                                                          go_simp
                                                          with_reducible rfl
                                                        rotate_left
                                                        · simp only [Act.put, List.setIfInBounds_toArray, List.set_cons_zero, List.set_cons_succ, i64_w, i32_w]
                                                          rfl
                                                        refine pure_ (i := 1) (N := some 46) (v := ?_) (a' := ?_) #[true, true, false, false, false, false, false, false, false] rfl rfl (any_of HT_.out (by kernel_rfl)) (fun _ _ _ h => h) (Or.inl ⟨by rfl, ?_⟩) ?_ ?_
                                                        rotate_left
                                                        · intro w'
                                                          go_simp
                                                          with_reducible rfl
                                                        rotate_left
                                                        · simp only [Act.put, List.setIfInBounds_toArray, List.set_cons_zero, List.set_cons_succ, i64_w, i32_w]
                                                          rfl
                                                        refine pure_ (i := 2) (N := some 47) (v := ?_) (a' := ?_) #[true, true, true, false, false, false, false, false, false] rfl rfl (any_of HT_.out (by kernel_rfl)) (fun _ _ _ h => h) (Or.inl ⟨by rfl, ?_⟩) ?_ ?_
                                                        rotate_left
                                                        · intro w'
                                                          go_simp
                                                          with_reducible rfl
                                                        rotate_left
                                                        · simp only [Act.put, List.setIfInBounds_toArray, List.set_cons_zero, List.set_cons_succ, i64_w, i32_w]
                                                          rfl
                                                        refine pure_ (i := 4) (N := some 49) (v := ?_) (a' := ?_) #[true, true, true, false, true, false, false, false, false] rfl rfl (any_of HT_.out (by kernel_rfl)) (fun _ _ _ h => h) (Or.inl ⟨by rfl, ?_⟩) ?_ ?_
                                                        rotate_left
                                                        · intro w'
                                                          go_simp
                                                          with_reducible rfl
                                                        rotate_left
                                                        · simp only [Act.put, List.setIfInBounds_toArray, List.set_cons_zero, List.set_cons_succ, i64_w, i32_w]
                                                          rfl
                                                        refine pure_ (i := 5) (N := some 50) (v := ?_) (a' := ?_) #[true, true, true, false, true, true, false, false, false] rfl rfl (any_of HT_.out (by kernel_rfl)) (fun _ _ _ h => h) (Or.inl ⟨by rfl, ?_⟩) ?_ ?_
                                                        rotate_left
                                                        · intro w'
                                                          go_simp
                                                          with_reducible rfl
                                                        rotate_left
                                                        · simp only [Act.put, List.setIfInBounds_toArray, List.set_cons_zero, List.set_cons_succ, i64_w, i32_w]
                                                          rfl
                                                        refine pure_ (i := 6) (N := some 51) (v := ?_) (a' := ?_) #[true, true, true, false, true, true, true, false, false] rfl rfl (any_of HT_.out (by kernel_rfl)) (fun _ _ _ h => h) (Or.inl ⟨by rfl, ?_⟩) ?_ ?_
                                                        rotate_left
                                                        · intro w'
                                                          go_simp
                                                          with_reducible rfl
                                                        rotate_left
                                                        · simp only [Act.put, List.setIfInBounds_toArray, List.set_cons_zero, List.set_cons_succ, i64_w, i32_w]
                                                          rfl
                                                        refine take_ (i := 3) (N := some 48) (v := ?_) (a' := ?_) #[true, true, true, true, true, true, true, false, false] rfl rfl (take_ofW HT_.out HW_.out (by kernel_rfl)) (fun _ _ _ h => h) (Or.inl ⟨by rfl, ?_⟩) hHeld ?_ ?_
                                                        rotate_left
                                                        · rintro w' ⟨s0, s1⟩
                                                          go_simp
                                                          with_reducible rfl
                                                        rotate_left
                                                        · simp only [Act.put, List.setIfInBounds_toArray, List.set_cons_zero, List.set_cons_succ, i64_w, i32_w]
                                                          rfl
                                                        refine take_ (i := 7) (N := some 52) (v := ?_) (a' := ?_) #[true, true, true, true, true, true, true, true, false] rfl rfl (take_ofW HT_.out HW_.out (by kernel_rfl)) (fun _ _ _ h => h) (Or.inl ⟨by rfl, ?_⟩) hHeld ?_ ?_
                                                        rotate_left
                                                        · rintro w' ⟨s0, s1⟩
                                                          go_simp
                                                          with_reducible rfl
                                                        rotate_left
                                                        · simp only [Act.put, List.setIfInBounds_toArray, List.set_cons_zero, List.set_cons_succ, i64_w, i32_w]
                                                          rfl
                                                        refine pure_ (i := 8) (N := some 53) (v := ?_) (a' := ?_) #[true, true, true, true, true, true, true, true, true] rfl rfl (any_of HT_.out (by kernel_rfl)) (fun _ _ _ h => h) (Or.inl ⟨by rfl, ?_⟩) ?_ ?_
                                                        rotate_left
                                                        · intro w'
                                                          go_simp
                                                          with_reducible rfl
                                                        rotate_left
                                                        · simp only [Act.put, List.setIfInBounds_toArray, List.set_cons_zero, List.set_cons_succ, i64_w, i32_w]
                                                          rfl
                                                        refine done_ (done_of HT_.out (by kernel_rfl)) ?_
                                                        try go_wp2
                                                        have n0_ := Aside0.mk (Kd.S_drew HO_9.out)
                                                        have n1_ := Aside0.mk (Kd.R_drew HL1022_0.out)
                                                        have n2_ := Aside0.mk (Kd.C_drew HR1022_0.out)
                                                        have n3_ := Aside0.mk (below_drew1 HB.out)
                                                        clear HO_9
                                                        clear HL1022_0
                                                        clear HR1022_0
                                                        clear HB
                                                        have HO_9 := n0_
                                                        have HL1022_0 := n1_
                                                        have HR1022_0 := n2_
                                                        have HB := n3_
                                                        clear n0_ n1_ n2_ n3_
                                                        have p1034 : 0 ≤ (x10_1 : Int) := of_decide_eq_true (by first | (with_reducible assumption) | assumption)
                                                        have q1034 : x10_1 < (x9_2.length : Int) := of_decide_eq_true (by first | (with_reducible assumption) | assumption)
                                                        obtain ⟨ad1034, A1034_0, c1034_0, e1034, hx1034_0, hl1034_0, hi1034_0⟩ := at_L1 (Kd.S_reads' HO_9.out).2.2 x10_1 p1034 q1034
                                                        obtain rfl : (⟨go16, 0, none⟩ : Addr) = ad1034 := (by injection e1034)
                                                        obtain ⟨ce1034, hce1034, hMe1034, hcc1034⟩ := Kd.S_get HO_9.out [] x10_1 p1034 (by first | exact q1034 | exact of_decide_eq_true (by first | (with_reducible assumption) | assumption) | (have e_ := (Kd.S_reads' HO_9.out).1; omega))
                                                        obtain ⟨ve1034_0, rfl, ge1034_0⟩ := hMe1034
                                                        have hv1034_0 := hcc1034 0 _ rfl
                                                        rw [Nat.add_zero, show ((Kd.slice 2 (Kd.int .i64))).sz = 1 from rfl, Nat.mul_one] at hv1034_0
                                                        replace hv1034_0 := Option.some.inj (hv1034_0.symm.trans hx1034_0)
                                                        rw [hv1034_0] at ge1034_0
                                                        have HL1034_0 := Aside0.mk (show Kd.R (Kd.int .i64) 2 _ _ _ _ (rd_L1 x9_2 x10_1) from ge1034_0)
                                                        clear hv1034_0 ge1034_0
                                                        have HX1034_0 := Aside0.mk hx1034_0
                                                        clear hcc1034 hce1034
                                                        (first | simp only [add_plain] at hx1034_0 | simp only [add_at] at hx1034_0 | simp only [Addr.add, Nat.zero_add] at hx1034_0 | skip)
                                                        have HR1034_0 := Aside0.mk hi1034_0
                                                        have HC1034_0 := Aside0.mk hl1034_0
                                                        clear hi1034_0 hl1034_0
                                                        replace p1034 := eq_true p1034
                                                        replace q1034 := eq_true q1034
                                                        have p1035 : 0 ≤ ((ji38) : Int) := of_decide_eq_true (by first | (with_reducible assumption) | assumption)
                                                        have q1035 : (ji38) < (x9_2.length : Int) := of_decide_eq_true (by first | (with_reducible assumption) | assumption)
                                                        obtain ⟨ad1035, A1035_0, c1035_0, e1035, hx1035_0, hl1035_0, hi1035_0⟩ := at_L1 (Kd.S_reads' HO_9.out).2.2 (ji38) p1035 q1035
                                                        obtain rfl : (⟨go16, 0, none⟩ : Addr) = ad1035 := (by injection e1035)
                                                        obtain ⟨ce1035, hce1035, hMe1035, hcc1035⟩ := Kd.S_get HO_9.out [] (ji38) p1035 (by first | exact q1035 | exact of_decide_eq_true (by first | (with_reducible assumption) | assumption) | (have e_ := (Kd.S_reads' HO_9.out).1; omega))
                                                        obtain ⟨ve1035_0, rfl, ge1035_0⟩ := hMe1035
                                                        have hv1035_0 := hcc1035 0 _ rfl
                                                        rw [Nat.add_zero, show ((Kd.slice 2 (Kd.int .i64))).sz = 1 from rfl, Nat.mul_one] at hv1035_0
                                                        replace hv1035_0 := Option.some.inj (hv1035_0.symm.trans hx1035_0)
                                                        rw [hv1035_0] at ge1035_0
                                                        have HL1035_0 := Aside0.mk (show Kd.R (Kd.int .i64) 2 _ _ _ _ (rd_L1 x9_2 (ji38)) from ge1035_0)
                                                        clear hv1035_0 ge1035_0
                                                        have HX1035_0 := Aside0.mk hx1035_0
                                                        clear hcc1035 hce1035
                                                        (first | simp only [add_plain] at hx1035_0 | simp only [add_at] at hx1035_0 | simp only [Addr.add, Nat.zero_add] at hx1035_0 | skip)
                                                        have HR1035_0 := Aside0.mk hi1035_0
                                                        have HC1035_0 := Aside0.mk hl1035_0
                                                        clear hi1035_0 hl1035_0
                                                        replace p1035 := eq_true p1035
                                                        replace q1035 := eq_true q1035
                                                        have p1036 : 0 ≤ (x11_2 : Int) := of_decide_eq_true (by first | (with_reducible assumption) | assumption)
                                                        have q1036 : x11_2 < ((rd_L1 x9_2 (ji38)).length : Int) := of_decide_eq_true (by first | (with_reducible assumption) | assumption)
                                                        obtain ⟨ad1036, e1036, hx1036_0⟩ := Kd.at_int (by repeat (first | (with_reducible exact HR1035_0.out) | (with_reducible refine Kd.C_alloc ?_ _) | (with_reducible refine Kd.C_drewN ?_ _) | (with_reducible refine Kd.C_drew ?_) | exact HR1035_0.out)) x11_2 p1036 q1036
                                                        cases e1036
                                                        replace p1036 := eq_true p1036
                                                        replace q1036 := eq_true q1036
                                                        have p1037 : 0 ≤ (x10_1 : Int) := of_decide_eq_true (by first | (with_reducible assumption) | assumption)
                                                        have q1037 : x10_1 < (x9_2.length : Int) := of_decide_eq_true (by first | (with_reducible assumption) | assumption)
                                                        obtain ⟨ad1037, A1037_0, c1037_0, e1037, hx1037_0, hl1037_0, hi1037_0⟩ := at_L1 (Kd.S_reads' HO_9.out).2.2 x10_1 p1037 q1037
                                                        obtain rfl : (⟨go16, 0, none⟩ : Addr) = ad1037 := (by injection e1037)
                                                        obtain ⟨ce1037, hce1037, hMe1037, hcc1037⟩ := Kd.S_get HO_9.out [] x10_1 p1037 (by first | exact q1037 | exact of_decide_eq_true (by first | (with_reducible assumption) | assumption) | (have e_ := (Kd.S_reads' HO_9.out).1; omega))
                                                        obtain ⟨ve1037_0, rfl, ge1037_0⟩ := hMe1037
                                                        have hv1037_0 := hcc1037 0 _ rfl
                                                        rw [Nat.add_zero, show ((Kd.slice 2 (Kd.int .i64))).sz = 1 from rfl, Nat.mul_one] at hv1037_0
                                                        replace hv1037_0 := Option.some.inj (hv1037_0.symm.trans hx1037_0)
                                                        rw [hv1037_0] at ge1037_0
                                                        have HL1037_0 := Aside0.mk (show Kd.R (Kd.int .i64) 2 _ _ _ _ (rd_L1 x9_2 x10_1) from ge1037_0)
                                                        clear hv1037_0 ge1037_0
                                                        have HX1037_0 := Aside0.mk hx1037_0
                                                        clear hcc1037 hce1037
                                                        (first | simp only [add_plain] at hx1037_0 | simp only [add_at] at hx1037_0 | simp only [Addr.add, Nat.zero_add] at hx1037_0 | skip)
                                                        have HR1037_0 := Aside0.mk hi1037_0
                                                        have HC1037_0 := Aside0.mk hl1037_0
                                                        clear hi1037_0 hl1037_0
                                                        replace p1037 := eq_true p1037
                                                        replace q1037 := eq_true q1037
                                                        have ea_ := Option.some.inj (hx1034_0.symm.trans hx1037_0)
                                                        injection ea_ with ea_ en_ ec_
                                                        subst ea_
                                                        subst ec_
                                                        clear en_
                                                        have p1038 : 0 ≤ ((ji41) : Int) := of_decide_eq_true (by first | (with_reducible assumption) | assumption)
                                                        have q1038 : (ji41) < ((rd_L1 x9_2 x10_1).length : Int) := of_decide_eq_true (by first | (with_reducible assumption) | assumption)
                                                        obtain ⟨ad1038, e1038, hx1038_0⟩ := Kd.at_int (by repeat (first | (with_reducible exact HR1037_0.out) | (with_reducible refine Kd.C_alloc ?_ _) | (with_reducible refine Kd.C_drewN ?_ _) | (with_reducible refine Kd.C_drew ?_) | exact HR1037_0.out)) (ji41) p1038 q1038
                                                        cases e1038
                                                        replace p1038 := eq_true p1038
                                                        replace q1038 := eq_true q1038
                                                        have p66 : 0 ≤ (x11_2 : Int) := of_decide_eq_true (by first | (with_reducible assumption) | assumption)
                                                        have q66 : (x11_2 : Int) < (((rd_L1 x9_2 x10_1).length : Int) : Int) := of_decide_eq_true (by first | (with_reducible assumption) | assumption)
                                                        obtain ⟨go66, co66, eo66, gb66, gl66, cl66, HG66⟩ := Kd.R_form HL1034_0.out (by omega)
                                                        (first | cases eo66 | (injection eo66 with ea_ en_ ec_; (first | subst ea_ | (injection ea_ with ea_; subst ea_)); subst ec_; clear en_))
                                                        have GB66 := Aside0.mk gb66
                                                        have GG66 := Aside0.mk HG66
                                                        clear gb66 gl66 HG66
                                                        (first | simp only [add_plain] at hx1038_0 | skip)
                                                        obtain ⟨hx66_0, hf66_0⟩ := Kd.R_celln 0 HL1034_0.out (x11_2 : Int) p66 q66
                                                        replace p66 := eq_true p66
                                                        replace q66 := eq_true q66
                                                        have hq69 : (x10_1 : Int) < (x9_2.length : Int) := (by have h_ : (x10_1 : Int) < ((x9_2.length : Int) : Int) := of_decide_eq_true (by first | (with_reducible assumption) | assumption); first | exact h_ | (have e_ := (Kd.S_reads' HO_9.out).1; omega) | simpa only [List.length_set, List.length_set] using h_)
                                                        obtain ⟨oki69, ce69, hcl69, hM69, hcc69, hok69, hbk69⟩ := Kd.S_borrow HO_9.out [] (x10_1 : Int) (of_decide_eq_true (by first | (with_reducible assumption) | assumption)) hq69
                                                        obtain ⟨ve69_0, rfl, ge69_0⟩ := hM69
                                                        have hv69 := hcc69 0 _ rfl
                                                        rw [Nat.add_zero, show ((Kd.slice 2 (Kd.int .i64))).sz = 1 from rfl, Nat.mul_one] at hv69
                                                        replace hv69 := Option.some.inj (hv69.symm.trans HX1034_0.out)
                                                        subst hv69
                                                        clear hcc69 hcl69
                                                        replace ge69_0 := (show Kd.R (Kd.int .i64) 2 _ _ _ _ (rd_L1 x9_2 x10_1) from ge69_0)
                                                        have HP69 := Kd.R_putg ge69_0 (x11_2 : Int) ji64
                                                        rw [← Ny1039.out] at HP69
                                                        have HS69 := hbk69 HP69.2 (fun k_ e_ => by injection e_ with e_; subst e_; exact ge69_0.1 _ rfl) (x' := y1039) (Kd.M_row HP69.1)
                                                        rw [← Ny1041.out] at HS69
                                                        have HQ69 := Aside0.mk HS69
                                                        clear HP69 HS69 hbk69 hok69
                                                        refine start_ (n := 29) (S := fun w' => w'.cell? ⟨go16, (x10_1).toNat, none⟩ = some (.slice (some ⟨go66, 0, none⟩) (rd_L1 x9_2 x10_1).length c1034_0) ∧ w'.cell? ⟨go16, ((ji38)).toNat, none⟩ = some (.slice (some ad1036) (rd_L1 x9_2 (ji38)).length c1035_0) ∧ w'.cell? (ad1036.add (x11_2).toNat) = some (.int .i64 (rd (rd_L1 x9_2 (ji38)) x11_2)) ∧ w'.cell? ⟨go16, (x10_1).toNat, none⟩ = some (.slice (some ⟨go66, 0, none⟩) (rd_L1 x9_2 x10_1).length c1034_0) ∧ w'.cell? ⟨go66, ((ji41)).toNat, none⟩ = some (.int .i64 (rd (rd_L1 x9_2 x10_1) (ji41)))) (ds := [28]) #[false, false, false, false, false, false, false, false, false, false, false, false, false, false, false, false, false, false, false, false, false, false, false, false, false, false, false, false, false] (by kernel_rfl) rfl rfl ⟨hx1034_0, hx1035_0, hx1036_0, hx1037_0, hx1038_0⟩ (fun hHeld => ?_); refine with_tabW impl_editCosts.tab12 impl_editCosts.bits12 (fun HT_ HW_ => ?_)
                                                        generalize w67.drew = w68 at HO_9 HL1022_0 HR1022_0 HB GG66 HL1034_0 HL1035_0 HL1037_0 HQ69 HR1034_0 HR1035_0 HR1037_0 HX1034_0 HX1035_0 HX1037_0 hf66_0 hx1034_0 hx1035_0 hx1036_0 hx1037_0 hx1038_0 hx66_0 hHeld ⊢
                                                        refine pure_ (i := 0) (N := some 57) (v := ?_) (a' := ?_) #[true, false, false, false, false, false, false, false, false, false, false, false, false, false, false, false, false, false, false, false, false, false, false, false, false, false, false, false, false] rfl rfl (any_of HT_.out (by kernel_rfl)) (fun _ _ _ h => h) (Or.inl ⟨by rfl, ?_⟩) ?_ ?_
                                                        rotate_left
                                                        · intro w'
                                                          go_simp
                                                          with_reducible rfl
                                                        rotate_left
                                                        · simp only [Act.put, List.setIfInBounds_toArray, List.set_cons_zero, List.set_cons_succ, i64_w, i32_w]
                                                          rfl
                                                        refine pure_ (i := 1) (N := some 58) (v := ?_) (a' := ?_) #[true, true, false, false, false, false, false, false, false, false, false, false, false, false, false, false, false, false, false, false, false, false, false, false, false, false, false, false, false] rfl rfl (any_of HT_.out (by kernel_rfl)) (fun _ _ _ h => h) (Or.inl ⟨by rfl, ?_⟩) ?_ ?_
                                                        rotate_left
                                                        · intro w'
                                                          go_simp
                                                          with_reducible rfl
                                                        rotate_left
                                                        · simp only [Act.put, List.setIfInBounds_toArray, List.set_cons_zero, List.set_cons_succ, i64_w, i32_w]
                                                          rfl
                                                        refine pure_ (i := 2) (N := some 59) (v := ?_) (a' := ?_) #[true, true, true, false, false, false, false, false, false, false, false, false, false, false, false, false, false, false, false, false, false, false, false, false, false, false, false, false, false] rfl rfl (any_of HT_.out (by kernel_rfl)) (fun _ _ _ h => h) (Or.inl ⟨by rfl, ?_⟩) ?_ ?_
                                                        rotate_left
                                                        · intro w'
                                                          go_simp
                                                          with_reducible rfl
                                                        rotate_left
                                                        · simp only [Act.put, List.setIfInBounds_toArray, List.set_cons_zero, List.set_cons_succ, i64_w, i32_w]
                                                          rfl
                                                        refine pure_ (i := 4) (N := some 61) (v := ?_) (a' := ?_) #[true, true, true, false, true, false, false, false, false, false, false, false, false, false, false, false, false, false, false, false, false, false, false, false, false, false, false, false, false] rfl rfl (any_of HT_.out (by kernel_rfl)) (fun _ _ _ h => h) (Or.inl ⟨by rfl, ?_⟩) ?_ ?_
                                                        rotate_left
                                                        · intro w'
                                                          go_simp
                                                          with_reducible rfl
                                                        rotate_left
                                                        · simp only [Act.put, List.setIfInBounds_toArray, List.set_cons_zero, List.set_cons_succ, i64_w, i32_w]
                                                          rfl
                                                        refine pure_ (i := 5) (N := some 62) (v := ?_) (a' := ?_) #[true, true, true, false, true, true, false, false, false, false, false, false, false, false, false, false, false, false, false, false, false, false, false, false, false, false, false, false, false] rfl rfl (any_of HT_.out (by kernel_rfl)) (fun _ _ _ h => h) (Or.inl ⟨by rfl, ?_⟩) ?_ ?_
                                                        rotate_left
                                                        · intro w'
                                                          go_simp
                                                          with_reducible rfl
                                                        rotate_left
                                                        · simp only [Act.put, List.setIfInBounds_toArray, List.set_cons_zero, List.set_cons_succ, i64_w, i32_w]
                                                          rfl
                                                        refine pure_ (i := 6) (N := some 63) (v := ?_) (a' := ?_) #[true, true, true, false, true, true, true, false, false, false, false, false, false, false, false, false, false, false, false, false, false, false, false, false, false, false, false, false, false] rfl rfl (any_of HT_.out (by kernel_rfl)) (fun _ _ _ h => h) (Or.inl ⟨by rfl, ?_⟩) ?_ ?_
                                                        rotate_left
                                                        · intro w'
                                                          go_simp
                                                          with_reducible rfl
                                                        rotate_left
                                                        · simp only [Act.put, List.setIfInBounds_toArray, List.set_cons_zero, List.set_cons_succ, i64_w, i32_w]
                                                          rfl
                                                        refine pure_ (i := 7) (N := some 64) (v := ?_) (a' := ?_) #[true, true, true, false, true, true, true, true, false, false, false, false, false, false, false, false, false, false, false, false, false, false, false, false, false, false, false, false, false] rfl rfl (any_of HT_.out (by kernel_rfl)) (fun _ _ _ h => h) (Or.inl ⟨by rfl, ?_⟩) ?_ ?_
                                                        rotate_left
                                                        · intro w'
                                                          go_simp
                                                          with_reducible rfl
                                                        rotate_left
                                                        · simp only [Act.put, List.setIfInBounds_toArray, List.set_cons_zero, List.set_cons_succ, i64_w, i32_w]
                                                          rfl
                                                        refine pure_ (i := 8) (N := some 65) (v := ?_) (a' := ?_) #[true, true, true, false, true, true, true, true, true, false, false, false, false, false, false, false, false, false, false, false, false, false, false, false, false, false, false, false, false] rfl rfl (any_of HT_.out (by kernel_rfl)) (fun _ _ _ h => h) (Or.inl ⟨by rfl, ?_⟩) ?_ ?_
                                                        rotate_left
                                                        · intro w'
                                                          go_simp
                                                          with_reducible rfl
                                                        rotate_left
                                                        · simp only [Act.put, List.setIfInBounds_toArray, List.set_cons_zero, List.set_cons_succ, i64_w, i32_w]
                                                          rfl
                                                        refine pure_ (i := 9) (N := some 66) (v := ?_) (a' := ?_) #[true, true, true, false, true, true, true, true, true, true, false, false, false, false, false, false, false, false, false, false, false, false, false, false, false, false, false, false, false] rfl rfl (any_of HT_.out (by kernel_rfl)) (fun _ _ _ h => h) (Or.inl ⟨by rfl, ?_⟩) ?_ ?_
                                                        rotate_left
                                                        · intro w'
                                                          go_simp
                                                          with_reducible rfl
                                                        rotate_left
                                                        · simp only [Act.put, List.setIfInBounds_toArray, List.set_cons_zero, List.set_cons_succ, i64_w, i32_w]
                                                          rfl
                                                        refine pure_ (i := 10) (N := some 67) (v := ?_) (a' := ?_) #[true, true, true, false, true, true, true, true, true, true, true, false, false, false, false, false, false, false, false, false, false, false, false, false, false, false, false, false, false] rfl rfl (any_of HT_.out (by kernel_rfl)) (fun _ _ _ h => h) (Or.inl ⟨by rfl, ?_⟩) ?_ ?_
                                                        rotate_left
                                                        · intro w'
                                                          go_simp
                                                          with_reducible rfl
                                                        rotate_left
                                                        · simp only [Act.put, List.setIfInBounds_toArray, List.set_cons_zero, List.set_cons_succ, i64_w, i32_w]
                                                          rfl
                                                        refine pure_ (i := 12) (N := some 69) (v := ?_) (a' := ?_) #[true, true, true, false, true, true, true, true, true, true, true, false, true, false, false, false, false, false, false, false, false, false, false, false, false, false, false, false, false] rfl rfl (any_of HT_.out (by kernel_rfl)) (fun _ _ _ h => h) (Or.inl ⟨by rfl, ?_⟩) ?_ ?_
                                                        rotate_left
                                                        · intro w'
                                                          go_simp
                                                          with_reducible rfl
                                                        rotate_left
                                                        · simp only [Act.put, List.setIfInBounds_toArray, List.set_cons_zero, List.set_cons_succ, i64_w, i32_w]
                                                          rfl
                                                        refine pure_ (i := 16) (N := some 73) (v := ?_) (a' := ?_) #[true, true, true, false, true, true, true, true, true, true, true, false, true, false, false, false, true, false, false, false, false, false, false, false, false, false, false, false, false] rfl rfl (any_of HT_.out (by kernel_rfl)) (fun _ _ _ h => h) (Or.inl ⟨by rfl, ?_⟩) ?_ ?_
                                                        rotate_left
                                                        · intro w'
                                                          go_simp
                                                          with_reducible rfl
                                                        rotate_left
                                                        · simp only [Act.put, List.setIfInBounds_toArray, List.set_cons_zero, List.set_cons_succ, i64_w, i32_w]
                                                          rfl
                                                        refine pure_ (i := 17) (N := some 74) (v := ?_) (a' := ?_) #[true, true, true, false, true, true, true, true, true, true, true, false, true, false, false, false, true, true, false, false, false, false, false, false, false, false, false, false, false] rfl rfl (any_of HT_.out (by kernel_rfl)) (fun _ _ _ h => h) (Or.inl ⟨by rfl, ?_⟩) ?_ ?_
                                                        rotate_left
                                                        · intro w'
                                                          go_simp
                                                          with_reducible rfl
                                                        rotate_left
                                                        · simp only [Act.put, List.setIfInBounds_toArray, List.set_cons_zero, List.set_cons_succ, i64_w, i32_w]
                                                          rfl
                                                        refine pure_ (i := 18) (N := some 75) (v := ?_) (a' := ?_) #[true, true, true, false, true, true, true, true, true, true, true, false, true, false, false, false, true, true, true, false, false, false, false, false, false, false, false, false, false] rfl rfl (any_of HT_.out (by kernel_rfl)) (fun _ _ _ h => h) (Or.inl ⟨by rfl, ?_⟩) ?_ ?_
                                                        rotate_left
                                                        · intro w'
                                                          go_simp
                                                          with_reducible rfl
                                                        rotate_left
                                                        · simp only [Act.put, List.setIfInBounds_toArray, List.set_cons_zero, List.set_cons_succ, i64_w, i32_w]
                                                          rfl
                                                        refine pure_ (i := 19) (N := some 76) (v := ?_) (a' := ?_) #[true, true, true, false, true, true, true, true, true, true, true, false, true, false, false, false, true, true, true, true, false, false, false, false, false, false, false, false, false] rfl rfl (any_of HT_.out (by kernel_rfl)) (fun _ _ _ h => h) (Or.inl ⟨by rfl, ?_⟩) ?_ ?_
                                                        rotate_left
                                                        · intro w'
                                                          go_simp
                                                          with_reducible rfl
                                                        rotate_left
                                                        · simp only [Act.put, List.setIfInBounds_toArray, List.set_cons_zero, List.set_cons_succ, i64_w, i32_w]
                                                          rfl
                                                        refine pure_ (i := 21) (N := some 78) (v := ?_) (a' := ?_) #[true, true, true, false, true, true, true, true, true, true, true, false, true, false, false, false, true, true, true, true, false, true, false, false, false, false, false, false, false] rfl rfl (any_of HT_.out (by kernel_rfl)) (fun _ _ _ h => h) (Or.inl ⟨by rfl, ?_⟩) ?_ ?_
                                                        rotate_left
                                                        · intro w'
                                                          go_simp
                                                          with_reducible rfl
                                                        rotate_left
                                                        · simp only [Act.put, List.setIfInBounds_toArray, List.set_cons_zero, List.set_cons_succ, i64_w, i32_w]
                                                          rfl
                                                        refine pure_ (i := 22) (N := some 79) (v := ?_) (a' := ?_) #[true, true, true, false, true, true, true, true, true, true, true, false, true, false, false, false, true, true, true, true, false, true, true, false, false, false, false, false, false] rfl rfl (any_of HT_.out (by kernel_rfl)) (fun _ _ _ h => h) (Or.inl ⟨by rfl, ?_⟩) ?_ ?_
                                                        rotate_left
                                                        · intro w'
                                                          go_simp
                                                          with_reducible rfl
                                                        rotate_left
                                                        · simp only [Act.put, List.setIfInBounds_toArray, List.set_cons_zero, List.set_cons_succ, i64_w, i32_w]
                                                          rfl
                                                        refine take_ (i := 3) (N := some 60) (v := ?_) (a' := ?_) #[true, true, true, true, true, true, true, true, true, true, true, false, true, false, false, false, true, true, true, true, false, true, true, false, false, false, false, false, false] rfl rfl (take_ofW HT_.out HW_.out (by kernel_rfl)) (fun _ _ _ h => h) (Or.inl ⟨by rfl, ?_⟩) hHeld ?_ ?_
                                                        rotate_left
                                                        · rintro w' ⟨s0, s1, s2, s3, s4⟩
                                                          go_simp
                                                          with_reducible rfl
                                                        rotate_left
                                                        · simp only [Act.put, List.setIfInBounds_toArray, List.set_cons_zero, List.set_cons_succ, i64_w, i32_w]
                                                          rfl
                                                        refine take_ (i := 11) (N := some 68) (v := ?_) (a' := ?_) #[true, true, true, true, true, true, true, true, true, true, true, true, true, false, false, false, true, true, true, true, false, true, true, false, false, false, false, false, false] rfl rfl (take_ofW HT_.out HW_.out (by kernel_rfl)) (fun _ _ _ h => h) (Or.inl ⟨by rfl, ?_⟩) hHeld ?_ ?_
                                                        rotate_left
                                                        · rintro w' ⟨s0, s1, s2, s3, s4⟩
                                                          go_simp
                                                          with_reducible rfl
                                                        rotate_left
                                                        · simp only [Act.put, List.setIfInBounds_toArray, List.set_cons_zero, List.set_cons_succ, i64_w, i32_w]
                                                          rfl
                                                        refine pure_ (i := 13) (N := some 70) (v := ?_) (a' := ?_) #[true, true, true, true, true, true, true, true, true, true, true, true, true, true, false, false, true, true, true, true, false, true, true, false, false, false, false, false, false] rfl rfl (any_of HT_.out (by kernel_rfl)) (fun _ _ _ h => h) (Or.inl ⟨by rfl, ?_⟩) ?_ ?_
                                                        rotate_left
                                                        · intro w'
                                                          go_simp
                                                          with_reducible rfl
                                                        rotate_left
                                                        · simp only [Act.put, List.setIfInBounds_toArray, List.set_cons_zero, List.set_cons_succ, i64_w, i32_w]
                                                          rfl
                                                        refine take_ (i := 14) (N := some 71) (v := ?_) (a' := ?_) #[true, true, true, true, true, true, true, true, true, true, true, true, true, true, true, false, true, true, true, true, false, true, true, false, false, false, false, false, false] rfl rfl (take_ofW HT_.out HW_.out (by kernel_rfl)) (fun _ _ _ h => h) (Or.inl ⟨by rfl, ?_⟩) hHeld ?_ ?_
                                                        rotate_left
                                                        · rintro w' ⟨s0, s1, s2, s3, s4⟩
                                                          go_simp
                                                          with_reducible rfl
                                                        rotate_left
                                                        · simp only [Act.put, List.setIfInBounds_toArray, List.set_cons_zero, List.set_cons_succ, i64_w, i32_w]
                                                          rfl
                                                        refine pure_ (i := 15) (N := some 72) (v := ?_) (a' := ?_) #[true, true, true, true, true, true, true, true, true, true, true, true, true, true, true, true, true, true, true, true, false, true, true, false, false, false, false, false, false] rfl rfl (any_of HT_.out (by kernel_rfl)) (fun _ _ _ h => h) (Or.inl ⟨by rfl, ?_⟩) ?_ ?_
                                                        rotate_left
                                                        · intro w'
                                                          go_simp
                                                          with_reducible rfl
                                                        rotate_left
                                                        · simp only [Act.put, List.setIfInBounds_toArray, List.set_cons_zero, List.set_cons_succ, i64_w, i32_w]
                                                          rfl
                                                        refine take_ (i := 20) (N := some 77) (v := ?_) (a' := ?_) #[true, true, true, true, true, true, true, true, true, true, true, true, true, true, true, true, true, true, true, true, true, true, true, false, false, false, false, false, false] rfl rfl (take_ofW HT_.out HW_.out (by kernel_rfl)) (fun _ _ _ h => h) (Or.inl ⟨by rfl, ?_⟩) hHeld ?_ ?_
                                                        rotate_left
                                                        · rintro w' ⟨s0, s1, s2, s3, s4⟩
                                                          go_simp
                                                          with_reducible rfl
                                                        rotate_left
                                                        · simp only [Act.put, List.setIfInBounds_toArray, List.set_cons_zero, List.set_cons_succ, i64_w, i32_w]
                                                          rfl
                                                        refine pure_ (i := 23) (N := some 80) (v := ?_) (a' := ?_) #[true, true, true, true, true, true, true, true, true, true, true, true, true, true, true, true, true, true, true, true, true, true, true, true, false, false, false, false, false] rfl rfl (any_of HT_.out (by kernel_rfl)) (fun _ _ _ h => h) (Or.inl ⟨by rfl, ?_⟩) ?_ ?_
                                                        rotate_left
                                                        · intro w'
                                                          go_simp
                                                          with_reducible rfl
                                                        rotate_left
                                                        · simp only [Act.put, List.setIfInBounds_toArray, List.set_cons_zero, List.set_cons_succ, i64_w, i32_w]
                                                          rfl
                                                        refine take_ (i := 24) (N := some 81) (v := ?_) (a' := ?_) #[true, true, true, true, true, true, true, true, true, true, true, true, true, true, true, true, true, true, true, true, true, true, true, true, true, false, false, false, false] rfl rfl (take_ofW HT_.out HW_.out (by kernel_rfl)) (fun _ _ _ h => h) (Or.inl ⟨by rfl, ?_⟩) hHeld ?_ ?_
                                                        rotate_left
                                                        · rintro w' ⟨s0, s1, s2, s3, s4⟩
                                                          go_simp
                                                          with_reducible rfl
                                                        rotate_left
                                                        · simp only [Act.put, List.setIfInBounds_toArray, List.set_cons_zero, List.set_cons_succ, i64_w, i32_w]
                                                          rfl
                                                        refine pure_ (i := 25) (N := some 82) (v := ?_) (a' := ?_) #[true, true, true, true, true, true, true, true, true, true, true, true, true, true, true, true, true, true, true, true, true, true, true, true, true, true, false, false, false] rfl rfl (any_of HT_.out (by kernel_rfl)) (fun _ _ _ h => h) (Or.inl ⟨by rfl, ?_⟩) ?_ ?_
                                                        rotate_left
                                                        · intro w'
                                                          go_simp
                                                          with_reducible rfl
                                                        rotate_left
                                                        · simp only [Act.put, List.setIfInBounds_toArray, List.set_cons_zero, List.set_cons_succ, i64_w, i32_w]
                                                          rfl
                                                        refine pure_ (i := 26) (N := some 83) (v := ?_) (a' := ?_) #[true, true, true, true, true, true, true, true, true, true, true, true, true, true, true, true, true, true, true, true, true, true, true, true, true, true, true, false, false] rfl rfl (any_of HT_.out (by kernel_rfl)) (fun _ _ _ h => h) (Or.inl ⟨by rfl, ?_⟩) ?_ ?_
                                                        rotate_left
                                                        · intro w'
                                                          go_simp
                                                          with_reducible rfl
                                                        rotate_left
                                                        · simp only [Act.put, List.setIfInBounds_toArray, List.set_cons_zero, List.set_cons_succ, i64_w, i32_w]
                                                          rfl
                                                        refine pure_ (i := 27) (N := some 84) (v := ?_) (a' := ?_) #[true, true, true, true, true, true, true, true, true, true, true, true, true, true, true, true, true, true, true, true, true, true, true, true, true, true, true, true, false] rfl rfl (any_of HT_.out (by kernel_rfl)) (fun _ _ _ h => h) (Or.inl ⟨by rfl, ?_⟩) ?_ ?_
                                                        rotate_left
                                                        · intro w'
                                                          go_simp
                                                          with_reducible rfl
                                                        rotate_left
                                                        · simp only [Act.put, List.setIfInBounds_toArray, List.set_cons_zero, List.set_cons_succ, i64_w, i32_w]
                                                          rfl
                                                        refine last_ (i := 28) (N := none) #[true, true, true, true, true, true, true, true, true, true, true, true, true, true, true, true, true, true, true, true, true, true, true, true, true, true, true, true, true] rfl rfl (one_of HT_.out (by kernel_rfl)) (by decide) (fun K hK => ?_)
                                                        refine skip_ (w1 := ?_) (by rfl) rfl ?_ ?_
                                                        rotate_left
                                                        · go_simp
                                                          rfl
                                                        refine hK.out _ _ ?_
                                                        clear hK K
                                                        refine done_ (done_of HT_.out (by kernel_rfl)) ?_
                                                        try go_wp2
                                                        (try simp only [← hl9_2])
                                                        go_roundg k2
                                                        case measure => have := HK1.out; have := HK2.out; omega
                                                        case rel => exact ⟨(y1041), (wrap64 (x11_2 - 1)), (by first | rfl | (simp; done) | (simp [*]; done)), H', ⟨by have := HK1.out; have := HK2.out; omega⟩, ⟨by (try simp only [hl9_2]); (with_reducible repeat (first | apply Kd.S_alloc | apply Kd.S_drewN | apply Kd.S_drew)); exact HQ69.out⟩, ⟨by repeat (first | (with_reducible first | exact HB.out | apply below_alloc | apply pw_below_drewN | apply below_drew1 | refine below_set ?_ GB66.out) | exact HB.out)⟩⟩
                                                      · rw [if_neg c65] at H
                                                        exact absurd H (by simp)
                                                    · rw [if_neg c62] at H
                                                      exact absurd H (by simp)
                                                  · rw [if_neg c61] at H
                                                    exact absurd H (by simp)
                                                · rw [if_neg c60] at H
                                                  exact absurd H (by simp)
                                            · rw [if_neg c47] at H
                                              exact absurd H (by simp)
                                          · rw [if_neg c46] at H
                                            exact absurd H (by simp)
                                        · rw [if_neg c45] at H
                                          exact absurd H (by simp)
                                      · rw [if_neg c44] at H
                                        exact absurd H (by simp)
                                    · rw [if_neg c43] at H
                                      exact absurd H (by simp)
                                  · rw [if_neg c42] at H
                                    exact absurd H (by simp)
                                · rw [if_neg c40] at H
                                  exact absurd H (by simp)
                              · rw [if_neg c39] at H
                                exact absurd H (by simp)
                        · rw [if_neg c21] at H
                          have c21b0 : decide (0 ≤ x11_2) = false := decide_eq_false c21
                          have c21b2 := c21b0; (try simp only [hl9_2] at c21b2)
                          clear c21
                          have H' := Aside0.mk H
                          clear H
                          go_wp2
                          (try simp only [← hl9_2])
                          go_roundg k2
                          case measure => have := HK1.out; have := HK2.out; omega
                          case rel => exact ⟨(x9_2), (wrap64 (x10_1 - 1)), (by first | rfl | (simp; done) | (simp [*]; done)), H', ⟨by have := HK1.out; have := HK2.out; omega⟩, ⟨by (try simp only [hl9_2]); (with_reducible repeat (first | apply Kd.S_alloc | apply Kd.S_drewN | apply Kd.S_drew)); exact HO_9.out⟩, ⟨by repeat (first | (with_reducible first | exact HB.out | apply below_alloc | apply pw_below_drewN | apply below_drew1) | exact HB.out)⟩⟩
                  · rw [if_neg c15] at H
                    exact absurd H (by simp)
                · rw [if_neg c14] at H
                  exact absurd H (by simp)
              · rw [if_neg c13] at H
                exact absurd H (by simp)
            · rw [if_neg c12] at H
              exact absurd H (by simp)
          · rw [if_neg c10] at H
            have c10b0 : decide (0 ≤ x10_1) = false := decide_eq_false c10
            clear c10
            obtain rfl := Option.some.inj H
            go_wp2
            go_ret
            exact ⟨_, by first | rfl | (simp [errW_none, errW_some] <;> rfl) | (simp only [← hji5]; first | rfl | (simp [errW_none, errW_some] <;> rfl)) | (simp [*, errW_none, errW_some] <;> rfl), by (with_reducible repeat (first | apply Kd.S_alloc | apply Kd.S_drewN | apply Kd.S_drew)); exact HO_9.out, by repeat (first | (with_reducible first | exact HB.out | apply below_alloc | apply pw_below_drewN | apply below_drew1) | exact HB.out)⟩
    · rw [if_neg c7] at H
      exact absurd H (by simp)
  · rw [if_neg c6] at H
    exact absurd H (by simp)

end Go.Proofs.Ytddhommmokdlnaa.P
end

section
namespace Go.Proofs.Ytddhommmokdlnaa.P
open Go.RowKit Go.Proofs.YtddhommmokdlnaaW.PrintWords Go.Proofs.YtddhommmokdlnaaW.PrintLast Go.Proofs.YtddhommmokdlnaaW.PrintMore
attribute [local go_sem] max2_int min2_int max_two min_two max_three min_three max_four min_four   -- for this text's walks alone
set_option linter.unusedVariables false
set_option linter.unusedSimpArgs false

/-! ### spec_l12Ask: function 75 -/
def spec_l12Ask.j0 : Nat → Int → Int → Bool → Option (Int)
  | 0, _, _, _ => none
  | k + 1, x2, x3, x16 => if x16 = true then (some 7) else ((spec_l00In.f x2 0 100).bind fun t952 => (if t952 = true then ((spec_l00In.f x3 0 100).bind fun t953 => (if t953 = true then (some 0) else (some 2))) else (some 2)))
def spec_l12Ask.f (k : Nat) (l0 : List Int) (l1 : List Int) (a2 : Int) (a3 : Int) : Option (Int) := (spec_l05Pitches.f k l0).bind fun t950 => (if t950 = true then ((spec_l05Pitches.f k l1).bind fun t951 => (spec_l12Ask.j0 k a2 a3 (!t951))) else (spec_l12Ask.j0 k a2 a3 true))
theorem spec_l12Ask.mono_l : ∀ k, (∀ y0 y1 y2, LeO (spec_l12Ask.j0 k y0 y1 y2) (spec_l12Ask.j0 (k + 1) y0 y1 y2))
  | 0 => fun _ _ _ r h => by simp [spec_l12Ask.j0] at h
  | k + 1 => by
    have ih0 := spec_l12Ask.mono_l k
    · intro y0 y1 y2
      unfold spec_l12Ask.j0
      repeat' first
      | (with_reducible exact ih0 _ _ _)
      | (with_reducible exact spec_l05Pitches.mono _ _)
      | (with_reducible exact LeO.refl _)
      | (with_reducible exact LeO.none _)
      | (with_reducible refine LeO.ite ?_ ?_)
      | (with_reducible refine LeO.bind ?_ (fun _ => ?_))
      | exact ih0 _ _ _
      | exact spec_l05Pitches.mono _ _
      | exact LeO.none _
      | refine LeO.ite ?_ ?_
      | refine LeO.bind ?_ (fun _ => ?_)
theorem spec_l12Ask.mono : ∀ a0 a1 a2 a3 k, LeO (spec_l12Ask.f k a0 a1 a2 a3) (spec_l12Ask.f (k + 1) a0 a1 a2 a3) := by
  intro a0 a1 a2 a3 k
  have ih0 := spec_l12Ask.mono_l k
  unfold spec_l12Ask.f
  repeat' first
      | (with_reducible exact ih0 _ _ _)
      | (with_reducible exact spec_l05Pitches.mono _ _)
      | (with_reducible exact LeO.refl _)
      | (with_reducible exact LeO.none _)
      | (with_reducible refine LeO.ite ?_ ?_)
      | (with_reducible refine LeO.bind ?_ (fun _ => ?_))
      | exact ih0 _ _ _
      | exact spec_l05Pitches.mono _ _
      | exact LeO.none _
      | refine LeO.ite ?_ ?_
      | refine LeO.bind ?_ (fun _ => ?_)
set_option maxHeartbeats 8000000 in
set_option maxRecDepth 100000 in
theorem spec_l12Ask.calls (k : Nat) (A0 : Option Addr) (c0 : Nat) (l0 : List Int) (A1 : Option Addr) (c1 : Nat) (l1 : List Int) (a2 : Int) (a3 : Int) (r : Int) (w : World) (hr0 : Kd.C (Kd.int .i64) w A0 l0.length l0) (hc0 : l0.length ≤ c0) (hr1 : Kd.C (Kd.int .i64) w A1 l1.length l1) (hc1 : l1.length ≤ c1) (h : spec_l12Ask.f k l0 l1 a2 a3 = some r) :
    Calls Try.prog 75 #[.slice A0 l0.length c0, .slice A1 l1.length c1, .int .i64 a2, .int .i64 a3] w fun e w' => e = .returned (.int .i64 r) ∧ Drawn0 w w' := by
  have HR0 := Aside0.mk hr0
  have HC0 := Aside0.mk hc0
  clear hr0 hc0
  have HR1 := Aside0.mk hr1
  have HC1 := Aside0.mk hc1
  clear hr1 hc1
  have H : ((spec_l05Pitches.f k l0).bind fun t950 => (if t950 = true then ((spec_l05Pitches.f k l1).bind fun t951 => (spec_l12Ask.j0 k a2 a3 (!t951))) else (spec_l12Ask.j0 k a2 a3 true))) = some r := h
  clear h
  have HC5 := Aside0.mk H
  clear H
  go_enter Try.func75, Try.ntmps75
  go_upto_region 1 with (fail)
  go_cut [16] (fun v16 wc => ∃ (kq : Nat) (x16_4 : Bool), v16 = .bool x16_4 ∧ Aside0 (spec_l12Ask.j0 kq a2 a3 x16_4 = some r) ∧ Aside0 (kq ≤ k) ∧ Drawn0 w wc)
  case first =>
    have H := HC5.out
    clear HC5
    replace H := Option.bind_eq_some_iff.mp H
    obtain ⟨t950, A60, H⟩ := H
    replace H : (if t950 = true then ((spec_l05Pitches.f k l1).bind fun t951 => (spec_l12Ask.j0 k a2 a3 (!t951))) else (spec_l12Ask.j0 k a2 a3 true)) = some r := H
    have A6 := Aside0.mk A60
    clear A60
    by_cases c7 : t950 = true
    · subst c7
      have H1 : ((spec_l05Pitches.f k l1).bind fun t951 => (spec_l12Ask.j0 k a2 a3 (!t951))) = some r := by rw [if_pos rfl] at H; exact H
      clear H
      have H := H1
      clear H1
      replace H := Option.bind_eq_some_iff.mp H
      obtain ⟨t951, A80, H⟩ := H
      replace H : (spec_l12Ask.j0 k a2 a3 (!t951)) = some r := H
      have A8 := Aside0.mk A80
      clear A80
      have H' := Aside0.mk H
      clear H
      go_wp2_with (first | ((with_reducible refine gate_callee (f := 65) rfl ?_); refine goesL_ (some 10) rfl rfl Try.func65 (by kernel_rfl) rfl #[.slice A0 l0.length c0] rfl (by (try simp only [List.map_toArray, List.map_cons, List.map_nil]); first | done | rfl | (simp only [List.length_drop, List.length_take]; rfl)) ?_; (with_reducible refine (spec_l05Pitches.calls k _ _ l0 true _ ?side1 ?side2 A6.out).mono ?_); (case side1 => repeat (first | exact HR0.out | (with_reducible refine Kd.C_alloc ?_ _) | (with_reducible refine Kd.C_drewN ?_ _) | (with_reducible refine Kd.C_drew ?_))); (case side2 => exact HC0.out); rintro e w' ⟨rfl, ⟨nd, rfl⟩⟩; refine ⟨_, rfl, ?_⟩) | (go_at_call 65; (with_reducible refine (spec_l05Pitches.calls k _ _ l1 t951 _ ?side1 ?side2 A8.out).mono ?_); (case side1 => repeat (first | exact HR1.out | (with_reducible refine Kd.C_alloc ?_ _) | (with_reducible refine Kd.C_drewN ?_ _) | (with_reducible refine Kd.C_drew ?_))); (case side2 => exact HC1.out); rintro e w' ⟨rfl, ⟨nd, rfl⟩⟩))
      go_meet
      case rel => exact ⟨_, (!t951), (by first | rfl | (simp; done) | (simp [*]; done)), H', ⟨by first | omega | exact Nat.le_refl _⟩, by repeat (first | exact Drawn0.refl _ | apply Drawn0.step)⟩
    · replace c7 := Bool.eq_false_iff.mpr c7
      subst c7
      have H1 : (spec_l12Ask.j0 k a2 a3 true) = some r := by rw [if_neg (show ¬ (false = true) by decide)] at H; exact H
      clear H
      have H := H1
      clear H1
      have H' := Aside0.mk H
      clear H
      go_wp2_with (first | ((with_reducible refine gate_callee (f := 65) rfl ?_); refine goesL_ (some 10) rfl rfl Try.func65 (by kernel_rfl) rfl #[.slice A0 l0.length c0] rfl (by (try simp only [List.map_toArray, List.map_cons, List.map_nil]); first | done | rfl | (simp only [List.length_drop, List.length_take]; rfl)) ?_; (with_reducible refine (spec_l05Pitches.calls k _ _ l0 false _ ?side1 ?side2 A6.out).mono ?_); (case side1 => repeat (first | exact HR0.out | (with_reducible refine Kd.C_alloc ?_ _) | (with_reducible refine Kd.C_drewN ?_ _) | (with_reducible refine Kd.C_drew ?_))); (case side2 => exact HC0.out); rintro e w' ⟨rfl, ⟨nd, rfl⟩⟩; refine ⟨_, rfl, ?_⟩))
      go_meet
      case rel => exact ⟨_, (true), (by first | rfl | (simp; done) | (simp [*]; done)), H', ⟨by first | omega | exact Nat.le_refl _⟩, by repeat (first | exact Drawn0.refl _ | apply Drawn0.step)⟩
  case rest =>
    clear HC5
    try clear c1
    try clear p2
    try clear c6
    try clear c7
    obtain ⟨kq, x16_4, rfl, HA, HJ4, ⟨mc4, rfl⟩⟩ := hcut
    cases kq with
    | zero => exact absurd HA.out (by simp [spec_l12Ask.j0])
    | succ kj4 =>
      have H := HA.out
      clear HA
      simp only [spec_l12Ask.j0] at H
      by_cases c9 : x16_4 = true
      · subst c9
        have H1 : (some 7) = some r := by rw [if_pos rfl] at H; exact H
        clear H
        have H := H1
        clear H1
        obtain rfl := Option.some.inj H
        go_wp2
        go_ret
        exact ⟨by first | rfl | (simp; done) | (simp [*]; done), by repeat (first | exact Drawn0.refl _ | apply Drawn0.step)⟩
      · replace c9 := Bool.eq_false_iff.mpr c9
        subst c9
        have H1 : ((spec_l00In.f a2 0 100).bind fun t952 => (if t952 = true then ((spec_l00In.f a3 0 100).bind fun t953 => (if t953 = true then (some 0) else (some 2))) else (some 2))) = some r := by rw [if_neg (show ¬ (false = true) by decide)] at H; exact H
        clear H
        have H := H1
        clear H1
        replace H := Option.bind_eq_some_iff.mp H
        obtain ⟨t952, A100, H⟩ := H
        replace H : (if t952 = true then ((spec_l00In.f a3 0 100).bind fun t953 => (if t953 = true then (some 0) else (some 2))) else (some 2)) = some r := H
        have A10 := Aside0.mk A100
        clear A100
        by_cases c11 : t952 = true
        · subst c11
          have H1 : ((spec_l00In.f a3 0 100).bind fun t953 => (if t953 = true then (some 0) else (some 2))) = some r := by rw [if_pos rfl] at H; exact H
          clear H
          have H := H1
          clear H1
          replace H := Option.bind_eq_some_iff.mp H
          obtain ⟨t953, A120, H⟩ := H
          replace H : (if t953 = true then (some 0) else (some 2)) = some r := H
          have A12 := Aside0.mk A120
          clear A120
          by_cases c13 : t953 = true
          · subst c13
            have H1 : (some 0) = some r := by rw [if_pos rfl] at H; exact H
            clear H
            have H := H1
            clear H1
            obtain rfl := Option.some.inj H
            go_wp2_with (first | ((with_reducible refine gate_callee (f := 50) rfl ?_); refine goesL_ (some 18) rfl rfl Try.func50 (by kernel_rfl) rfl #[.int .i64 a2, .int .i64 0, .int .i64 100] rfl (by (try simp only [List.map_toArray, List.map_cons, List.map_nil]); first | done | rfl | (simp only [List.length_drop, List.length_take]; rfl)) ?_; (with_reducible refine (spec_l00In.calls a2 0 100 true _ A10.out).mono ?_); rintro e w' ⟨rfl, ⟨nd, rfl⟩⟩; refine ⟨_, rfl, ?_⟩) | (go_at_call 50; (with_reducible refine (spec_l00In.calls a3 0 100 true _ A12.out).mono ?_); rintro e w' ⟨rfl, ⟨nd, rfl⟩⟩))
            go_ret
            exact ⟨by first | rfl | (simp; done) | (simp [*]; done), by repeat (first | exact Drawn0.refl _ | apply Drawn0.step)⟩
          · replace c13 := Bool.eq_false_iff.mpr c13
            subst c13
            have H1 : (some 2) = some r := by rw [if_neg (show ¬ (false = true) by decide)] at H; exact H
            clear H
            have H := H1
            clear H1
            obtain rfl := Option.some.inj H
            go_wp2_with (first | ((with_reducible refine gate_callee (f := 50) rfl ?_); refine goesL_ (some 18) rfl rfl Try.func50 (by kernel_rfl) rfl #[.int .i64 a2, .int .i64 0, .int .i64 100] rfl (by (try simp only [List.map_toArray, List.map_cons, List.map_nil]); first | done | rfl | (simp only [List.length_drop, List.length_take]; rfl)) ?_; (with_reducible refine (spec_l00In.calls a2 0 100 true _ A10.out).mono ?_); rintro e w' ⟨rfl, ⟨nd, rfl⟩⟩; refine ⟨_, rfl, ?_⟩) | (go_at_call 50; (with_reducible refine (spec_l00In.calls a3 0 100 false _ A12.out).mono ?_); rintro e w' ⟨rfl, ⟨nd, rfl⟩⟩))
            go_ret
            exact ⟨by first | rfl | (simp; done) | (simp [*]; done), by repeat (first | exact Drawn0.refl _ | apply Drawn0.step)⟩
        · replace c11 := Bool.eq_false_iff.mpr c11
          subst c11
          have H1 : (some 2) = some r := by rw [if_neg (show ¬ (false = true) by decide)] at H; exact H
          clear H
          have H := H1
          clear H1
          obtain rfl := Option.some.inj H
          go_wp2_with (first | ((with_reducible refine gate_callee (f := 50) rfl ?_); refine goesL_ (some 18) rfl rfl Try.func50 (by kernel_rfl) rfl #[.int .i64 a2, .int .i64 0, .int .i64 100] rfl (by (try simp only [List.map_toArray, List.map_cons, List.map_nil]); first | done | rfl | (simp only [List.length_drop, List.length_take]; rfl)) ?_; (with_reducible refine (spec_l00In.calls a2 0 100 false _ A10.out).mono ?_); rintro e w' ⟨rfl, ⟨nd, rfl⟩⟩; refine ⟨_, rfl, ?_⟩))
          go_ret
          exact ⟨by first | rfl | (simp; done) | (simp [*]; done), by repeat (first | exact Drawn0.refl _ | apply Drawn0.step)⟩

end Go.Proofs.Ytddhommmokdlnaa.P
end
