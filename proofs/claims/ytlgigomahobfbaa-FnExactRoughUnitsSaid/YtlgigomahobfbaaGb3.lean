/- Texts of this seat, merged: QSpecL16Units, QSpecResonancecurve, LAbs, LDiv, LNoteCopy, LMel, LIMelOk, QImplDroneok, LIUnits, LNoteMark, QSpecL16Drone, LSUnits, QImplConsonance, QImplConsonances, QImplRoughunits, QSpecL00Max, QSpecL04Abs, QSpecL16Consonance. -/
import Derived.Test.YtlgigomahobfbaaGb1
import Derived.Test.YtlgigomahobfbaaGb2
section
namespace Go.Proofs.Ytlgigomahobfbaa.P
open Go.RowKit Go.Proofs.YtlgigomahobfbaaW.PrintWords Go.Proofs.YtlgigomahobfbaaW.PrintLast Go.Proofs.YtlgigomahobfbaaW.PrintMore
attribute [local go_sem] max2_int min2_int max_two min_two max_three min_three max_four min_four   -- for this text's walks alone
set_option linter.unusedVariables false
set_option linter.unusedSimpArgs false

/-! ### spec_l16Units: function 60 -/
mutual
def spec_l16Units.l0 : Nat → List (S75) → List Int → Int → Option (List Int)
  | 0, _, _, _ => none
  | k + 1, x0, x3, x4 => if x4 < (x0.length : Int) then (spec_l16Units.l1 k x0 x3 x4 0) else (some x3)
def spec_l16Units.l1 : Nat → List (S75) → List Int → Int → Int → Option (List Int)
  | 0, _, _, _, _ => none
  | k + 1, x0, x3, x4, x5 => if 0 ≤ x4 then (if x4 < (x0.length : Int) then (if x5 < ((rd_T75 x0 x4).f1) then (if x3.length < 17592186044416 then (spec_l16Units.l1 k x0 (x3 ++ [(rd_T75 x0 x4).f0]) x4 (wrap64 (x5 + 1))) else (none)) else (spec_l16Units.l0 k x0 x3 (wrap64 (x4 + 1)))) else (none)) else (none)
end
def spec_l16Units.f (k : Nat) (l0 : List (S75)) : Option (List Int) := spec_l16Units.l0 k l0 (([] : List Int)) 0
theorem spec_l16Units.mono_l : ∀ k, (∀ y0 y1 y2, LeO (spec_l16Units.l0 k y0 y1 y2) (spec_l16Units.l0 (k + 1) y0 y1 y2)) ∧ (∀ y0 y1 y2 y3, LeO (spec_l16Units.l1 k y0 y1 y2 y3) (spec_l16Units.l1 (k + 1) y0 y1 y2 y3))
  | 0 => ⟨fun _ _ _ r h => by simp [spec_l16Units.l0] at h, fun _ _ _ _ r h => by simp [spec_l16Units.l1] at h⟩
  | k + 1 => by
    obtain ⟨ih0, ih1⟩ := spec_l16Units.mono_l k
    refine ⟨?_, ?_⟩
    · intro y0 y1 y2
      unfold spec_l16Units.l0
      repeat' first
      | (with_reducible exact ih0 _ _ _)
      | (with_reducible exact ih1 _ _ _ _)
      | (with_reducible exact LeO.refl _)
      | (with_reducible exact LeO.none _)
      | (with_reducible refine LeO.ite ?_ ?_)
      | (with_reducible refine LeO.bind ?_ (fun _ => ?_))
      | exact ih0 _ _ _
      | exact ih1 _ _ _ _
      | exact LeO.none _
      | refine LeO.ite ?_ ?_
      | refine LeO.bind ?_ (fun _ => ?_)
    · intro y0 y1 y2 y3
      unfold spec_l16Units.l1
      repeat' first
      | (with_reducible exact ih0 _ _ _)
      | (with_reducible exact ih1 _ _ _ _)
      | (with_reducible exact LeO.refl _)
      | (with_reducible exact LeO.none _)
      | (with_reducible refine LeO.ite ?_ ?_)
      | (with_reducible refine LeO.bind ?_ (fun _ => ?_))
      | exact ih0 _ _ _
      | exact ih1 _ _ _ _
      | exact LeO.none _
      | refine LeO.ite ?_ ?_
      | refine LeO.bind ?_ (fun _ => ?_)
theorem spec_l16Units.mono : ∀ a0 k, LeO (spec_l16Units.f k a0) (spec_l16Units.f (k + 1) a0) := by
  intro a0 k
  obtain ⟨ih0, ih1⟩ := spec_l16Units.mono_l k
  unfold spec_l16Units.f
  repeat' first
      | (with_reducible exact ih0 _ _ _)
      | (with_reducible exact ih1 _ _ _ _)
      | (with_reducible exact LeO.refl _)
      | (with_reducible exact LeO.none _)
      | (with_reducible refine LeO.ite ?_ ?_)
      | (with_reducible refine LeO.bind ?_ (fun _ => ?_))
      | exact ih0 _ _ _
      | exact ih1 _ _ _ _
      | exact LeO.none _
      | refine LeO.ite ?_ ?_
      | refine LeO.bind ?_ (fun _ => ?_)
set_option maxHeartbeats 8000000 in
set_option maxRecDepth 100000 in
theorem spec_l16Units.calls (k : Nat) (A0 : Option Addr) (c0 : Nat) (l0 : List (S75)) (r : List Int) (w : World) (hr0 : Kd.C k75 w A0 l0.length l0) (hc0 : l0.length ≤ c0) (h : spec_l16Units.f k l0 = some r) :
    Calls Try.prog 60 #[.slice A0 l0.length c0] w fun e w' => ∃ v0_ : Value, e = .returned (v0_) ∧ Kd.R (Kd.int .i64) 2 w' w.heap.size (fun _ => True) v0_ r ∧ Below w.heap.size w w' := by
  have HR0 := Aside0.mk hr0
  have HC0 := Aside0.mk hc0
  clear hr0 hc0
  have HB := Aside0.mk (Below.refl w.heap.size w)
  have H : (spec_l16Units.l0 k l0 (([] : List Int)) 0) = some r := h
  clear h
  obtain ⟨y108, hy108⟩ : ∃ y_ : List Int, y_ = (([] : List Int)) := ⟨_, rfl⟩
  replace H : (spec_l16Units.l0 k l0 y108 0) = some r := by first | (rw [hy108]; with_reducible exact H) | (have H2_ := (Option.bind_some _ _).symm.trans H; rw [hy108]; with_reducible exact H2_) | (have H2_ := (Option.bind_some _ _).symm.trans H; with_reducible exact H2_) | with_reducible exact H | (rw [hy108]; exact H) | exact H
  have Ny108 := Aside0.mk hy108
  clear hy108
  have H' := Aside0.mk H
  clear H
  go_enter Try.func60, Try.ntmps60
  go_wp2_with (first | ((with_reducible refine gate_dst (N := 6) rfl ?_); refine Kd.R_lit (Kd.int .i64) _ 2 ?hg (N := 6) ?hd (xs := ([] : List Int)) (inner := []) (ok := fun _ => True) (okp := fun _ => True) ?hr ?hp (fun _ hk => hk) trivial (Below.refl _ _) (Nat.le_refl _) (by simp) ?_; (case hd => rfl); (case hg => rfl); (case hr => first | (go_simp; done) | (go_simp; rfl)); (case hp => exact (Reps.none _ _)); intro v109 w2 ho3 hb hg_ hnew_; clear hg_ hnew_; (first | rw [← Ny108.out] at ho3 | (simp only [Int.reduceToNat] at ho3; rw [← Ny108.out] at ho3)); have n0_ := Aside0.mk (Kd.R_lower ho3 (below_size (by repeat (first | (with_reducible first | exact HB.out | apply below_alloc | apply pw_below_drewN | apply below_drew1) | exact HB.out)))); have n1_ := Aside0.mk (below_step (by repeat (first | (with_reducible first | exact HB.out | apply below_alloc | apply pw_below_drewN | apply below_drew1) | exact HB.out)) hb); clear HB; have HO110 := n0_; have HB := n1_; clear n0_ n1_; clear hb ho3))
  go_loopg [3, 4] k (fun kq v3 v4 w' => ∃ (x3_1 : List Int) (x4_1 : Int), v4 = .int .i64 x4_1 ∧ Aside0 (spec_l16Units.l0 kq l0 x3_1 x4_1 = some r) ∧ Aside0 (kq ≤ k) ∧ Aside0 (Kd.R (Kd.int .i64) 2 w' w.heap.size (fun _ => True) v3 x3_1) ∧ Aside0 (Below w.heap.size w w'))
  case atStart => exact ⟨(y108), (0), (by first | rfl | (simp; done) | (simp [*]; done)), H', ⟨Nat.le_refl _⟩, ⟨by (with_reducible repeat (first | apply Kd.R_alloc | apply Kd.R_drewN | apply Kd.R_drew)); exact HO110.out⟩, ⟨by repeat (first | (with_reducible first | exact HB.out | apply below_alloc | apply pw_below_drewN | apply below_drew1) | exact HB.out)⟩⟩
  case round =>
    clear H'
    try clear p2
    obtain ⟨x3_1, x4_1, rfl, HA, HK1, HO_3, HB⟩ := hrel
    cases gk with
    | zero => exact absurd HA.out (by simp [spec_l16Units.l0])
    | succ k1 =>
      have H := HA.out
      clear HA
      simp only [spec_l16Units.l0] at H
      by_cases c4 : x4_1 < (l0.length : Int)
      · rw [if_pos c4] at H
        have c4b0 : decide (x4_1 < (l0.length : Int)) = true := decide_eq_true c4
        clear c4
        have H' := Aside0.mk H
        clear H
        go_wp2
        go_loopg [3, 5] k1 (fun kq v3 v5 w' => ∃ (x3_2 : List Int) (x5_2 : Int), v5 = .int .i64 x5_2 ∧ Aside0 (spec_l16Units.l1 kq l0 x3_2 x4_1 x5_2 = some r) ∧ Aside0 (kq ≤ k1) ∧ Aside0 (Kd.R (Kd.int .i64) 2 w' w.heap.size (fun _ => True) v3 x3_2) ∧ Aside0 (Below w.heap.size w w'))
        case atStart => exact ⟨(x3_1), (0), (by first | rfl | (simp; done) | (simp [*]; done)), H', ⟨Nat.le_refl _⟩, ⟨by (with_reducible repeat (first | apply Kd.R_alloc | apply Kd.R_drewN | apply Kd.R_drew)); exact HO_3.out⟩, ⟨by repeat (first | (with_reducible first | exact HB.out | apply below_alloc | apply pw_below_drewN | apply below_drew1) | exact HB.out)⟩⟩
        case round =>
          clear H'
          try clear p2
          try clear c4
          try clear c4b0
          try clear p2
          obtain ⟨x3_2, x5_2, rfl, HA, HK2, HO_3, HB⟩ := hrel
          cases gk with
          | zero => exact absurd HA.out (by simp [spec_l16Units.l1])
          | succ k2 =>
            have H := HA.out
            clear HA
            simp only [spec_l16Units.l1] at H
            by_cases c5 : 0 ≤ x4_1
            · rw [if_pos c5] at H
              have c5b0 : decide (0 ≤ x4_1) = true := decide_eq_true c5
              clear c5
              by_cases c6 : x4_1 < (l0.length : Int)
              · rw [if_pos c6] at H
                have c6b0 : decide (x4_1 < (l0.length : Int)) = true := decide_eq_true c6
                clear c6
                by_cases c7 : x5_2 < ((rd_T75 l0 x4_1).f1)
                · rw [if_pos c7] at H
                  have c7b0 : decide (x5_2 < ((rd_T75 l0 x4_1).f1)) = true := decide_eq_true c7
                  clear c7
                  by_cases c8 : x3_2.length < 17592186044416
                  · rw [if_pos c8] at H
                    have LMc8 := Aside0.mk c8
                    clear c8
                    obtain ⟨y113, hy113⟩ : ∃ y_ : List Int, y_ = (x3_2 ++ [(rd_T75 l0 x4_1).f0]) := ⟨_, rfl⟩
                    replace H : (spec_l16Units.l1 k2 l0 y113 x4_1 (wrap64 (x5_2 + 1))) = some r := by first | (rw [hy113]; with_reducible exact H) | (have H2_ := (Option.bind_some _ _).symm.trans H; rw [hy113]; with_reducible exact H2_) | (have H2_ := (Option.bind_some _ _).symm.trans H; with_reducible exact H2_) | with_reducible exact H | (rw [hy113]; exact H) | exact H
                    have Ny113 := Aside0.mk hy113
                    clear hy113
                    have H' := Aside0.mk H
                    clear H
                    have p111 : 0 ≤ (x4_1 : Int) := of_decide_eq_true (by first | (with_reducible assumption) | assumption)
                    have q111 : x4_1 < (l0.length : Int) := of_decide_eq_true (by first | (with_reducible assumption) | assumption)
                    obtain ⟨ad111, e111, hx111_0, hx111_1⟩ := at_T75 HR0.out x4_1 p111 q111
                    cases e111
                    replace hx111_0 := (HB.out.cell (World.block_lt_of_cell? w _ hx111_0)).trans hx111_0
                    replace hx111_1 := (HB.out.cell (World.block_lt_of_cell? w _ hx111_1)).trans hx111_1
                    replace p111 := eq_true p111
                    replace q111 := eq_true q111
                    have p112 : 0 ≤ (x4_1 : Int) := of_decide_eq_true (by first | (with_reducible assumption) | assumption)
                    have q112 : x4_1 < (l0.length : Int) := of_decide_eq_true (by first | (with_reducible assumption) | assumption)
                    obtain ⟨ad112, e112, hx112_0, hx112_1⟩ := at_T75 HR0.out x4_1 p112 q112
                    obtain rfl : ad111 = ad112 := (by injection e112)
                    replace hx112_0 := (HB.out.cell (World.block_lt_of_cell? w _ hx112_0)).trans hx112_0
                    replace hx112_1 := (HB.out.cell (World.block_lt_of_cell? w _ hx112_1)).trans hx112_1
                    replace p112 := eq_true p112
                    replace q112 := eq_true q112
                    go_wp2_with (first | ((with_reducible refine gate_builtin (b := .append) (xs := #[.tmp 22, .tmp 28]) rfl ?_); at_builtin; refine Kd.R_append (Kd.int .i64) (w0 := w) w.heap.size rfl (.tmp 22) (.tmp 28) 30 2 (.int .i64 0) 8 rfl Try.underlying30 info2 rfl (by decide) (by omega) u3 x3_2 ((rd_T75 l0 x4_1).f0) [.int .i64 ((rd_T75 l0 x4_1).f0)] (fun _ => True) (fun _ => False) rfl rfl ?aP (fun _ hk => hk.elim) ?aF ?aO ?aB ?aS ?aL ?_; (case aP => exact rfl); (case aB => exact (by repeat (first | (with_reducible first | exact HB.out | apply below_alloc | apply pw_below_drewN | apply below_drew1) | exact HB.out))); (case aF => exact (fun _ _ => trivial)); (case aO => exact (by (with_reducible repeat (first | apply Kd.R_alloc | apply Kd.R_drewN | apply Kd.R_drew)); exact HO_3.out)); (case aS => exact (below_size (by repeat (first | (with_reducible first | exact HB.out | apply below_alloc | apply pw_below_drewN | apply below_drew1) | exact HB.out)))); (case aL => have := LMc8.out; omega); intro v114 w9 ho hb hg hat; rw [← Ny113.out] at ho; have n0_ := Aside0.mk (hb); have n1_ := Aside0.mk (ho); clear HB; clear HO_3; have HB := n0_; have HO115 := n1_; clear n0_ n1_; clear ho hb hg hat))
                    go_roundg k2
                    case measure => have := HK1.out; have := HK2.out; omega
                    case rel => exact ⟨(y113), (wrap64 (x5_2 + 1)), (by first | rfl | (simp; done) | (simp [*]; done)), H', ⟨by have := HK1.out; have := HK2.out; omega⟩, ⟨by (with_reducible repeat (first | apply Kd.R_alloc | apply Kd.R_drewN | apply Kd.R_drew)); exact HO115.out⟩, ⟨by repeat (first | (with_reducible first | exact HB.out | apply below_alloc | apply pw_below_drewN | apply below_drew1) | exact HB.out)⟩⟩
                  · rw [if_neg c8] at H
                    exact absurd H (by simp)
                · rw [if_neg c7] at H
                  have c7b0 : decide (x5_2 < ((rd_T75 l0 x4_1).f1)) = false := decide_eq_false c7
                  clear c7
                  have H' := Aside0.mk H
                  clear H
                  have p111 : 0 ≤ (x4_1 : Int) := of_decide_eq_true (by first | (with_reducible assumption) | assumption)
                  have q111 : x4_1 < (l0.length : Int) := of_decide_eq_true (by first | (with_reducible assumption) | assumption)
                  obtain ⟨ad111, e111, hx111_0, hx111_1⟩ := at_T75 HR0.out x4_1 p111 q111
                  cases e111
                  replace hx111_0 := (HB.out.cell (World.block_lt_of_cell? w _ hx111_0)).trans hx111_0
                  replace hx111_1 := (HB.out.cell (World.block_lt_of_cell? w _ hx111_1)).trans hx111_1
                  replace p111 := eq_true p111
                  replace q111 := eq_true q111
                  go_wp2
                  go_roundg k2
                  case measure => have := HK1.out; have := HK2.out; omega
                  case rel => exact ⟨(x3_2), (wrap64 (x4_1 + 1)), (by first | rfl | (simp; done) | (simp [*]; done)), H', ⟨by have := HK1.out; have := HK2.out; omega⟩, ⟨by (with_reducible repeat (first | apply Kd.R_alloc | apply Kd.R_drewN | apply Kd.R_drew)); exact HO_3.out⟩, ⟨by repeat (first | (with_reducible first | exact HB.out | apply below_alloc | apply pw_below_drewN | apply below_drew1) | exact HB.out)⟩⟩
              · rw [if_neg c6] at H
                exact absurd H (by simp)
            · rw [if_neg c5] at H
              exact absurd H (by simp)
      · rw [if_neg c4] at H
        have c4b0 : decide (x4_1 < (l0.length : Int)) = false := decide_eq_false c4
        clear c4
        obtain rfl := Option.some.inj H
        go_wp2
        go_ret
        exact ⟨_, by first | rfl | (simp [errW_none, errW_some] <;> rfl) | (simp [*, errW_none, errW_some] <;> rfl), by (with_reducible repeat (first | apply Kd.R_alloc | apply Kd.R_drewN | apply Kd.R_drew)); exact HO_3.out, by repeat (first | (with_reducible first | exact HB.out | apply below_alloc | apply pw_below_drewN | apply below_drew1) | exact HB.out)⟩

end Go.Proofs.Ytlgigomahobfbaa.P
end

section
namespace Go.Proofs.Ytlgigomahobfbaa.P
open Go.RowKit Go.Proofs.YtlgigomahobfbaaW.PrintWords Go.Proofs.YtlgigomahobfbaaW.PrintLast Go.Proofs.YtlgigomahobfbaaW.PrintMore
attribute [local go_sem] max2_int min2_int max_two min_two max_three min_three max_four min_four   -- for this text's walks alone
set_option linter.unusedVariables false
set_option linter.unusedSimpArgs false

/-! ### spec_ResonanceCurve: function 40 -/
mutual
def spec_ResonanceCurve.j0 : Nat → List Int → List (S75) → Int → Bool → Option (List Int × Int)
  | 0, _, _, _, _ => none
  | k + 1, x0, x1, x2, x19 => if x19 = true then (some (([] : List Int), 1)) else ((spec_l00In.f x2 0 1000).bind fun t501 => (if t501 = true then ((spec_l16Units.f k x1).bind fun t502 => (spec_ResonanceCurve.l0 k x0 x2 t502 (([] : List Int)) 0 0)) else (some (([] : List Int), 2))))
def spec_ResonanceCurve.l0 : Nat → List Int → Int → List Int → List Int → Int → Int → Option (List Int × Int)
  | 0, _, _, _, _, _, _ => none
  | k + 1, x0, x2, x8, x9, x10, x11 => if x11 < (x8.length : Int) then ((spec_l01Div.f (wrap64 (x10 * x2)) 1000).bind fun t508 => (if 0 ≤ x11 then ((spec_l16Resonance.f k x0 (rd x8 x11)).bind fun t510 => (if x9.length < 17592186044416 then (spec_ResonanceCurve.l0 k x0 x2 x8 (x9 ++ [wrap64 ((wrap64 (x10 - t508)) + (wrap64 (10 * t510)))]) (wrap64 ((wrap64 (x10 - t508)) + (wrap64 (10 * t510)))) (wrap64 (x11 + 1))) else (none))) else (none))) else (some (x9, 0))
end
def spec_ResonanceCurve.f (k : Nat) (l0 : List Int) (l1 : List (S75)) (a2 : Int) : Option (List Int × Int) := (spec_l16Strings.f k l0).bind fun t499 => (if t499 = true then ((spec_l09Ok.f k l1).bind fun t500 => (spec_ResonanceCurve.j0 k l0 l1 a2 (!t500))) else (spec_ResonanceCurve.j0 k l0 l1 a2 true))
theorem spec_ResonanceCurve.mono_l : ∀ k, (∀ y0 y1 y2 y3, LeO (spec_ResonanceCurve.j0 k y0 y1 y2 y3) (spec_ResonanceCurve.j0 (k + 1) y0 y1 y2 y3)) ∧ (∀ y0 y1 y2 y3 y4 y5, LeO (spec_ResonanceCurve.l0 k y0 y1 y2 y3 y4 y5) (spec_ResonanceCurve.l0 (k + 1) y0 y1 y2 y3 y4 y5))
  | 0 => ⟨fun _ _ _ _ r h => by simp [spec_ResonanceCurve.j0] at h, fun _ _ _ _ _ _ r h => by simp [spec_ResonanceCurve.l0] at h⟩
  | k + 1 => by
    obtain ⟨ih0, ih1⟩ := spec_ResonanceCurve.mono_l k
    refine ⟨?_, ?_⟩
    · intro y0 y1 y2 y3
      unfold spec_ResonanceCurve.j0
      repeat' first
      | (with_reducible exact ih0 _ _ _ _)
      | (with_reducible exact ih1 _ _ _ _ _ _)
      | (with_reducible exact spec_l09Ok.mono _ _)
      | (with_reducible exact spec_l16Resonance.mono _ _ _)
      | (with_reducible exact spec_l16Strings.mono _ _)
      | (with_reducible exact spec_l16Units.mono _ _)
      | (with_reducible exact LeO.refl _)
      | (with_reducible exact LeO.none _)
      | (with_reducible refine LeO.ite ?_ ?_)
      | (with_reducible refine LeO.bind ?_ (fun _ => ?_))
      | exact ih0 _ _ _ _
      | exact ih1 _ _ _ _ _ _
      | exact spec_l09Ok.mono _ _
      | exact spec_l16Resonance.mono _ _ _
      | exact spec_l16Strings.mono _ _
      | exact spec_l16Units.mono _ _
      | exact LeO.none _
      | refine LeO.ite ?_ ?_
      | refine LeO.bind ?_ (fun _ => ?_)
    · intro y0 y1 y2 y3 y4 y5
      unfold spec_ResonanceCurve.l0
      repeat' first
      | (with_reducible exact ih0 _ _ _ _)
      | (with_reducible exact ih1 _ _ _ _ _ _)
      | (with_reducible exact spec_l09Ok.mono _ _)
      | (with_reducible exact spec_l16Resonance.mono _ _ _)
      | (with_reducible exact spec_l16Strings.mono _ _)
      | (with_reducible exact spec_l16Units.mono _ _)
      | (with_reducible exact LeO.refl _)
      | (with_reducible exact LeO.none _)
      | (with_reducible refine LeO.ite ?_ ?_)
      | (with_reducible refine LeO.bind ?_ (fun _ => ?_))
      | exact ih0 _ _ _ _
      | exact ih1 _ _ _ _ _ _
      | exact spec_l09Ok.mono _ _
      | exact spec_l16Resonance.mono _ _ _
      | exact spec_l16Strings.mono _ _
      | exact spec_l16Units.mono _ _
      | exact LeO.none _
      | refine LeO.ite ?_ ?_
      | refine LeO.bind ?_ (fun _ => ?_)
theorem spec_ResonanceCurve.mono : ∀ a0 a1 a2 k, LeO (spec_ResonanceCurve.f k a0 a1 a2) (spec_ResonanceCurve.f (k + 1) a0 a1 a2) := by
  intro a0 a1 a2 k
  obtain ⟨ih0, ih1⟩ := spec_ResonanceCurve.mono_l k
  unfold spec_ResonanceCurve.f
  repeat' first
      | (with_reducible exact ih0 _ _ _ _)
      | (with_reducible exact ih1 _ _ _ _ _ _)
      | (with_reducible exact spec_l09Ok.mono _ _)
      | (with_reducible exact spec_l16Resonance.mono _ _ _)
      | (with_reducible exact spec_l16Strings.mono _ _)
      | (with_reducible exact spec_l16Units.mono _ _)
      | (with_reducible exact LeO.refl _)
      | (with_reducible exact LeO.none _)
      | (with_reducible refine LeO.ite ?_ ?_)
      | (with_reducible refine LeO.bind ?_ (fun _ => ?_))
      | exact ih0 _ _ _ _
      | exact ih1 _ _ _ _ _ _
      | exact spec_l09Ok.mono _ _
      | exact spec_l16Resonance.mono _ _ _
      | exact spec_l16Strings.mono _ _
      | exact spec_l16Units.mono _ _
      | exact LeO.none _
      | refine LeO.ite ?_ ?_
      | refine LeO.bind ?_ (fun _ => ?_)
def spec_ResonanceCurve.T11 : Bool × List (List Nat × List Nat) := (true, [([], []), ([], []), ([], []), ([1, 2], [1, 2]), ([3], [3]), ([0, 4], [0, 4]), ([], []), ([], []), ([], []), ([7, 8], [7, 8]), ([9], [9]), ([6, 10, 4], [6, 10]), ([11], [11]), ([5, 12], [5, 12]), ([13, 11, 0, 1, 2, 3, 4, 5, 6, 7, 8, 9, 10, 11, 12, 13], [0, 1, 13])])
def spec_ResonanceCurve.B11 : List Nat := [0, 0, 0, 6, 14, 31, 0, 0, 0, 384, 896, 2014, 4062, 8191, 16383]
theorem spec_ResonanceCurve.tab11 : rtab .any (opsOf Try.f40 11) = spec_ResonanceCurve.T11 := by kernel_rfl
theorem spec_ResonanceCurve.bits11 : waitsOk spec_ResonanceCurve.T11.2 spec_ResonanceCurve.B11 = true := by kernel_rfl
set_option maxHeartbeats 8000000 in
set_option maxRecDepth 100000 in
theorem spec_ResonanceCurve.calls (k : Nat) (A0 : Option Addr) (c0 : Nat) (l0 : List Int) (A1 : Option Addr) (c1 : Nat) (l1 : List (S75)) (a2 : Int) (r1 : List Int) (r2 : Int) (w : World) (hr0 : Kd.C (Kd.int .i64) w A0 l0.length l0) (hc0 : l0.length ≤ c0) (hr1 : Kd.C k75 w A1 l1.length l1) (hc1 : l1.length ≤ c1) (h : spec_ResonanceCurve.f k l0 l1 a2 = some (r1, r2)) :
    Calls Try.prog 40 #[.slice A0 l0.length c0, .slice A1 l1.length c1, .int .i64 a2] w fun e w' => ∃ v0_ : Value, e = .returned (.tuple #[v0_, .int .i64 r2]) ∧ Kd.R (Kd.int .i64) 2 w' w.heap.size (fun _ => True) v0_ r1 ∧ Below w.heap.size w w' := by
  have HR0 := Aside0.mk hr0
  have HC0 := Aside0.mk hc0
  clear hr0 hc0
  have HR1 := Aside0.mk hr1
  have HC1 := Aside0.mk hc1
  clear hr1 hc1
  have HB := Aside0.mk (Below.refl w.heap.size w)
  have H : ((spec_l16Strings.f k l0).bind fun t499 => (if t499 = true then ((spec_l09Ok.f k l1).bind fun t500 => (spec_ResonanceCurve.j0 k l0 l1 a2 (!t500))) else (spec_ResonanceCurve.j0 k l0 l1 a2 true))) = some (r1, r2) := h
  clear h
  have HC4 := Aside0.mk H
  clear H
  go_enter Try.func40, Try.ntmps40
  go_upto_region 1 with (fail)
  go_cut [19] (fun v19 wc => ∃ (kq : Nat) (x19_3 : Bool), v19 = .bool x19_3 ∧ Aside0 (spec_ResonanceCurve.j0 kq l0 l1 a2 x19_3 = some (r1, r2)) ∧ Aside0 (kq ≤ k) ∧ Aside0 (Below w.heap.size w wc))
  case first =>
    have H := HC4.out
    clear HC4
    replace H := Option.bind_eq_some_iff.mp H
    obtain ⟨t499, A50, H⟩ := H
    replace H : (if t499 = true then ((spec_l09Ok.f k l1).bind fun t500 => (spec_ResonanceCurve.j0 k l0 l1 a2 (!t500))) else (spec_ResonanceCurve.j0 k l0 l1 a2 true)) = some (r1, r2) := H
    have A5 := Aside0.mk A50
    clear A50
    by_cases c6 : t499 = true
    · subst c6
      have H1 : ((spec_l09Ok.f k l1).bind fun t500 => (spec_ResonanceCurve.j0 k l0 l1 a2 (!t500))) = some (r1, r2) := by rw [if_pos rfl] at H; exact H
      clear H
      have H := H1
      clear H1
      replace H := Option.bind_eq_some_iff.mp H
      obtain ⟨t500, A70, H⟩ := H
      replace H : (spec_ResonanceCurve.j0 k l0 l1 a2 (!t500)) = some (r1, r2) := H
      have A7 := Aside0.mk A70
      clear A70
      have H' := Aside0.mk H
      clear H
      go_wp2_with (first | ((with_reducible refine gate_callee (f := 66) rfl ?_); refine goesL_ (some 13) rfl rfl Try.func66 (by kernel_rfl) rfl #[.slice A0 l0.length c0] rfl (by (try simp only [List.map_toArray, List.map_cons, List.map_nil]); first | done | rfl | (simp only [List.length_drop, List.length_take]; rfl)) ?_; (with_reducible refine (spec_l16Strings.calls k _ _ l0 true _ ?side1 ?side2 A5.out).mono ?_); (case side1 => repeat (first | exact (Kd.C_below HR0.out HB.out) | (with_reducible refine Kd.C_alloc ?_ _) | (with_reducible refine Kd.C_drewN ?_ _) | (with_reducible refine Kd.C_drew ?_))); (case side2 => exact HC0.out); rintro e w' ⟨rfl, ⟨nd, rfl⟩⟩; refine ⟨_, rfl, ?_⟩) | (go_at_call 72; (with_reducible refine (spec_l09Ok.calls k _ _ l1 t500 _ ?side1 ?side2 A7.out).mono ?_); (case side1 => repeat (first | exact (Kd.C_below HR1.out (by repeat (first | (with_reducible first | exact HB.out | apply below_alloc | apply pw_below_drewN | apply below_drew1) | exact HB.out))) | (with_reducible refine Kd.C_alloc ?_ _) | (with_reducible refine Kd.C_drewN ?_ _) | (with_reducible refine Kd.C_drew ?_))); (case side2 => exact HC1.out); rintro e w' ⟨rfl, ⟨nd, rfl⟩⟩))
      go_meet
      case rel => exact ⟨_, (!t500), (by first | rfl | (simp; done) | (simp [*]; done)), H', ⟨by first | omega | exact Nat.le_refl _⟩, ⟨by repeat (first | (with_reducible first | exact HB.out | apply below_alloc | apply pw_below_drewN | apply below_drew1) | exact HB.out)⟩⟩
    · replace c6 := Bool.eq_false_iff.mpr c6
      subst c6
      have H1 : (spec_ResonanceCurve.j0 k l0 l1 a2 true) = some (r1, r2) := by rw [if_neg (show ¬ (false = true) by decide)] at H; exact H
      clear H
      have H := H1
      clear H1
      have H' := Aside0.mk H
      clear H
      go_wp2_with (first | ((with_reducible refine gate_callee (f := 66) rfl ?_); refine goesL_ (some 13) rfl rfl Try.func66 (by kernel_rfl) rfl #[.slice A0 l0.length c0] rfl (by (try simp only [List.map_toArray, List.map_cons, List.map_nil]); first | done | rfl | (simp only [List.length_drop, List.length_take]; rfl)) ?_; (with_reducible refine (spec_l16Strings.calls k _ _ l0 false _ ?side1 ?side2 A5.out).mono ?_); (case side1 => repeat (first | exact (Kd.C_below HR0.out HB.out) | (with_reducible refine Kd.C_alloc ?_ _) | (with_reducible refine Kd.C_drewN ?_ _) | (with_reducible refine Kd.C_drew ?_))); (case side2 => exact HC0.out); rintro e w' ⟨rfl, ⟨nd, rfl⟩⟩; refine ⟨_, rfl, ?_⟩))
      go_meet
      case rel => exact ⟨_, (true), (by first | rfl | (simp; done) | (simp [*]; done)), H', ⟨by first | omega | exact Nat.le_refl _⟩, ⟨by repeat (first | (with_reducible first | exact HB.out | apply below_alloc | apply pw_below_drewN | apply below_drew1) | exact HB.out)⟩⟩
  case rest =>
    clear HC4
    try clear c1
    try clear p2
    try clear c4
    try clear c6
    obtain ⟨kq, x19_3, rfl, HA, HJ3, HB⟩ := hcut
    cases kq with
    | zero => exact absurd HA.out (by simp [spec_ResonanceCurve.j0])
    | succ kj3 =>
      have H := HA.out
      clear HA
      simp only [spec_ResonanceCurve.j0] at H
      by_cases c8 : x19_3 = true
      · subst c8
        have H1 : (some (([] : List Int), 1)) = some (r1, r2) := by rw [if_pos rfl] at H; exact H
        clear H
        have H := H1
        clear H1
        simp only [Option.some.injEq, Prod.mk.injEq] at H
        obtain ⟨rfl, rfl⟩ := H
        go_wp2
        go_ret2
        exact ⟨_, by first | rfl | (simp [errW_none, errW_some] <;> rfl) | (simp [*, errW_none, errW_some] <;> rfl), by first | exact Kd.R_nil _ _ _ _ _ | exact Kd.N_nil _ _ _ _ _ | exact Kd.V_nil _ _ _ _ _ | exact Kd.Q_nil _ _ _ _ _ | exact Kd.S_nil _ _ _ _ _, by repeat (first | (with_reducible first | exact HB.out | apply below_alloc | apply pw_below_drewN | apply below_drew1) | exact HB.out)⟩
      · replace c8 := Bool.eq_false_iff.mpr c8
        subst c8
        have H1 : ((spec_l00In.f a2 0 1000).bind fun t501 => (if t501 = true then ((spec_l16Units.f kj3 l1).bind fun t502 => (spec_ResonanceCurve.l0 kj3 l0 a2 t502 (([] : List Int)) 0 0)) else (some (([] : List Int), 2)))) = some (r1, r2) := by rw [if_neg (show ¬ (false = true) by decide)] at H; exact H
        clear H
        have H := H1
        clear H1
        replace H := Option.bind_eq_some_iff.mp H
        obtain ⟨t501, A90, H⟩ := H
        replace H : (if t501 = true then ((spec_l16Units.f kj3 l1).bind fun t502 => (spec_ResonanceCurve.l0 kj3 l0 a2 t502 (([] : List Int)) 0 0)) else (some (([] : List Int), 2))) = some (r1, r2) := H
        have A9 := Aside0.mk A90
        clear A90
        by_cases c10 : t501 = true
        · subst c10
          have H1 : ((spec_l16Units.f kj3 l1).bind fun t502 => (spec_ResonanceCurve.l0 kj3 l0 a2 t502 (([] : List Int)) 0 0)) = some (r1, r2) := by rw [if_pos rfl] at H; exact H
          clear H
          have H := H1
          clear H1
          replace H := Option.bind_eq_some_iff.mp H
          obtain ⟨t502, A110, H⟩ := H
          replace H : (spec_ResonanceCurve.l0 kj3 l0 a2 t502 (([] : List Int)) 0 0) = some (r1, r2) := H
          have A11 := Aside0.mk A110
          clear A110
          obtain ⟨y505, hy505⟩ : ∃ y_ : List Int, y_ = (([] : List Int)) := ⟨_, rfl⟩
          replace H : (spec_ResonanceCurve.l0 kj3 l0 a2 t502 y505 0 0) = some (r1, r2) := by first | (rw [hy505]; with_reducible exact H) | (have H2_ := (Option.bind_some _ _).symm.trans H; rw [hy505]; with_reducible exact H2_) | (have H2_ := (Option.bind_some _ _).symm.trans H; with_reducible exact H2_) | with_reducible exact H | (rw [hy505]; exact H) | exact H
          have Ny505 := Aside0.mk hy505
          clear hy505
          have H' := Aside0.mk H
          clear H
          go_wp2_with (first | ((with_reducible refine gate_callee (f := 59) rfl ?_); refine goesL_ (some 21) rfl rfl Try.func59 (by kernel_rfl) rfl #[.int .i64 a2, .int .i64 0, .int .i64 1000] rfl (by (try simp only [List.map_toArray, List.map_cons, List.map_nil]); first | done | rfl | (simp only [List.length_drop, List.length_take]; rfl)) ?_; (with_reducible refine (spec_l00In.calls a2 0 1000 true _ A9.out).mono ?_); rintro e w' ⟨rfl, ⟨nd, rfl⟩⟩; refine ⟨_, rfl, ?_⟩) | ((with_reducible refine gate_callee (f := 60) rfl ?_); refine goesL_ (some 24) rfl rfl Try.func60 (by kernel_rfl) rfl #[.slice A1 l1.length c1] rfl (by (try simp only [List.map_toArray, List.map_cons, List.map_nil]); first | done | rfl | (simp only [List.length_drop, List.length_take]; rfl)) ?_; (with_reducible refine (spec_l16Units.calls kj3 _ _ l1 t502 _ ?side1 ?side2 A11.out).mono ?_); (case side1 => repeat (first | exact (Kd.C_below HR1.out (by repeat (first | (with_reducible first | exact HB.out | apply below_alloc | apply pw_below_drewN | apply below_drew1) | exact HB.out))) | (with_reducible refine Kd.C_alloc ?_ _) | (with_reducible refine Kd.C_drewN ?_ _) | (with_reducible refine Kd.C_drew ?_))); (case side2 => exact HC1.out); rintro e w12 ⟨v503, rfl, ho0, hb⟩; refine ⟨_, rfl, ?_⟩; have n0_ := Aside0.mk (Kd.R_lower ho0 (below_size (by repeat (first | (with_reducible first | exact HB.out | apply below_alloc | apply pw_below_drewN | apply below_drew1) | exact HB.out)))); have n1_ := Aside0.mk (below_step (by repeat (first | (with_reducible first | exact HB.out | apply below_alloc | apply pw_below_drewN | apply below_drew1) | exact HB.out)) hb); clear HB; have HO504 := n0_; have HB := n1_; clear n0_ n1_; (try clear hb); (try clear hb2); (try clear hk); (try clear hi); (try clear ho0)) | ((with_reducible refine gate_dst (N := 25) rfl ?_); refine Kd.R_lit (Kd.int .i64) _ 2 ?hg (N := 25) ?hd (xs := ([] : List Int)) (inner := []) (ok := fun _ => True) (okp := fun _ => True) ?hr ?hp (fun _ hk => hk) trivial (Below.refl _ _) (Nat.le_refl _) (by simp) ?_; (case hd => rfl); (case hg => rfl); (case hr => first | (go_simp; done) | (go_simp; rfl)); (case hp => exact (Reps.none _ _)); intro v506 w13 ho14 hb hg_ hnew_; clear hg_ hnew_; (first | rw [← Ny505.out] at ho14 | (simp only [Int.reduceToNat] at ho14; rw [← Ny505.out] at ho14)); have n0_ := Aside0.mk (Kd.R_elder' (by (with_reducible repeat (first | apply Kd.R_alloc | apply Kd.R_drewN | apply Kd.R_drew)); exact HO504.out) (Kd.R_base ho14) hb); have n1_ := Aside0.mk (Kd.R_lower (Kd.R_new' ho14 (Kd.R_lt (by (with_reducible repeat (first | apply Kd.R_alloc | apply Kd.R_drewN | apply Kd.R_drew)); exact HO504.out))) (below_size (by repeat (first | (with_reducible first | exact HB.out | apply below_alloc | apply pw_below_drewN | apply below_drew1) | exact HB.out)))); have n2_ := Aside0.mk (below_step (by repeat (first | (with_reducible first | exact HB.out | apply below_alloc | apply pw_below_drewN | apply below_drew1) | exact HB.out)) hb); clear HO504; clear HB; have HO504 := n0_; have HO507 := n1_; have HB := n2_; clear n0_ n1_ n2_; clear hb ho14))
          go_loopg [9, 10, 11] kj3 (fun kq v9 v10 v11 w' => ∃ (x9_2 : List Int) (x10_2 : Int) (x11_2 : Int), v10 = .int .i64 x10_2 ∧ v11 = .int .i64 x11_2 ∧ Aside0 (spec_ResonanceCurve.l0 kq l0 a2 t502 x9_2 x10_2 x11_2 = some (r1, r2)) ∧ Aside0 (kq ≤ kj3) ∧ Aside0 (Kd.R (Kd.int .i64) 2 w' w.heap.size (fun k_ => some k_ ≠ (v9 : Value).ownBlock) v503 t502) ∧ Aside0 (Kd.R (Kd.int .i64) 2 w' w.heap.size (fun k_ => some k_ ≠ (v503 : Value).ownBlock) v9 x9_2) ∧ Aside0 (Below w.heap.size w w'))
          case atStart => exact ⟨(y505), (0), (0), (by first | rfl | (simp; done) | (simp [*]; done)), (by first | rfl | (simp; done) | (simp [*]; done)), H', ⟨Nat.le_refl _⟩, ⟨by (with_reducible repeat (first | apply Kd.R_alloc | apply Kd.R_drewN | apply Kd.R_drew)); exact Kd.R_mono HO504.out (fun _ hk => hk.2)⟩, ⟨by (with_reducible repeat (first | apply Kd.R_alloc | apply Kd.R_drewN | apply Kd.R_drew)); exact Kd.R_mono HO507.out (fun _ hk => hk.2)⟩, ⟨by repeat (first | (with_reducible first | exact HB.out | apply below_alloc | apply pw_below_drewN | apply below_drew1) | exact HB.out)⟩⟩
          case round =>
            clear H'
            try clear c1
            try clear p2
            try clear c4
            try clear c5
            try clear c6
            try clear c8
            try clear c10
            try clear p2
            obtain ⟨x9_2, x10_2, x11_2, rfl, rfl, HA, HK2, HO_8, HO_9, HB⟩ := hrel
            cases gk with
            | zero => exact absurd HA.out (by simp [spec_ResonanceCurve.l0])
            | succ k2 =>
              have H := HA.out
              clear HA
              simp only [spec_ResonanceCurve.l0] at H
              by_cases c15 : x11_2 < (t502.length : Int)
              · rw [if_pos c15] at H
                have c15b0 : decide (x11_2 < (t502.length : Int)) = true := decide_eq_true c15
                clear c15
                replace H := Option.bind_eq_some_iff.mp H
                obtain ⟨t508, A160, H⟩ := H
                replace H : (if 0 ≤ x11_2 then ((spec_l16Resonance.f k2 l0 (rd t502 x11_2)).bind fun t510 => (if x9_2.length < 17592186044416 then (spec_ResonanceCurve.l0 k2 l0 a2 t502 (x9_2 ++ [wrap64 ((wrap64 (x10_2 - t508)) + (wrap64 (10 * t510)))]) (wrap64 ((wrap64 (x10_2 - t508)) + (wrap64 (10 * t510)))) (wrap64 (x11_2 + 1))) else (none))) else (none)) = some (r1, r2) := H
                have A16 := Aside0.mk A160
                clear A160
                by_cases c17 : 0 ≤ x11_2
                · rw [if_pos c17] at H
                  have c17b0 : decide (0 ≤ x11_2) = true := decide_eq_true c17
                  clear c17
                  replace H := Option.bind_eq_some_iff.mp H
                  obtain ⟨t510, A180, H⟩ := H
                  replace H : (if x9_2.length < 17592186044416 then (spec_ResonanceCurve.l0 k2 l0 a2 t502 (x9_2 ++ [wrap64 ((wrap64 (x10_2 - t508)) + (wrap64 (10 * t510)))]) (wrap64 ((wrap64 (x10_2 - t508)) + (wrap64 (10 * t510)))) (wrap64 (x11_2 + 1))) else (none)) = some (r1, r2) := H
                  have A18 := Aside0.mk A180
                  clear A180
                  by_cases c19 : x9_2.length < 17592186044416
                  · rw [if_pos c19] at H
                    have LMc19 := Aside0.mk c19
                    clear c19
                    obtain ⟨y511, hy511⟩ : ∃ y_ : List Int, y_ = (x9_2 ++ [wrap64 ((wrap64 (x10_2 - t508)) + (wrap64 (10 * t510)))]) := ⟨_, rfl⟩
                    replace H : (spec_ResonanceCurve.l0 k2 l0 a2 t502 y511 (wrap64 ((wrap64 (x10_2 - t508)) + (wrap64 (10 * t510)))) (wrap64 (x11_2 + 1))) = some (r1, r2) := by first | (rw [hy511]; with_reducible exact H) | (have H2_ := (Option.bind_some _ _).symm.trans H; rw [hy511]; with_reducible exact H2_) | (have H2_ := (Option.bind_some _ _).symm.trans H; with_reducible exact H2_) | with_reducible exact H | (rw [hy511]; exact H) | exact H
                    have Ny511 := Aside0.mk hy511
                    clear hy511
                    have H' := Aside0.mk H
                    clear H
                    obtain ⟨Ao20, co20, eo20⟩ := Kd.R_slice HO_8.out
                    subst eo20
                    try go_wp2
                    have n0_ := Aside0.mk (Kd.R_drew HO_8.out)
                    have n1_ := Aside0.mk (Kd.R_drew HO_9.out)
                    have n2_ := Aside0.mk (below_drew1 HB.out)
                    clear HO_8
                    clear HO_9
                    clear HB
                    have HO_8 := n0_
                    have HO_9 := n1_
                    have HB := n2_
                    clear n0_ n1_ n2_
                    have p509 : 0 ≤ (x11_2 : Int) := of_decide_eq_true (by first | (with_reducible assumption) | assumption)
                    have q509 : x11_2 < (t502.length : Int) := of_decide_eq_true (by first | (with_reducible assumption) | assumption)
                    obtain ⟨ad509, e509, hx509_0⟩ := Kd.at_int (Kd.R_reads' HO_8.out).2.2 x11_2 p509 q509
                    cases e509
                    replace p509 := eq_true p509
                    replace q509 := eq_true q509
                    refine start_ (n := 15) (S := fun w' => w'.cell? (ad509.add (x11_2).toNat) = some (.int .i64 (rd t502 x11_2))) (ds := []) #[false, false, false, false, false, false, false, false, false, false, false, false, false, false, false] (by kernel_rfl) rfl rfl (hx509_0) (fun hHeld => ?_); refine with_tabW spec_ResonanceCurve.tab11 spec_ResonanceCurve.bits11 (fun HT_ HW_ => ?_)
                    generalize wr.drew = w21 at HO_8 HO_9 HB hx509_0 hHeld ⊢
                    refine pure_ (i := 0) (N := some 32) (v := ?_) (a' := ?_) #[true, false, false, false, false, false, false, false, false, false, false, false, false, false, false] rfl rfl (any_of HT_.out (by kernel_rfl)) (fun _ _ _ h => h) (Or.inl ⟨by rfl, ?_⟩) ?_ ?_
                    rotate_left
                    · intro w'
                      go_simp
                      with_reducible rfl
                    rotate_left
                    · simp only [Act.put, List.setIfInBounds_toArray, List.set_cons_zero, List.set_cons_succ, i64_w, i32_w]
                      rfl
                    refine pure_ (i := 1) (N := some 33) (v := ?_) (a' := ?_) #[true, true, false, false, false, false, false, false, false, false, false, false, false, false, false] rfl rfl (any_of HT_.out (by kernel_rfl)) (fun _ _ _ h => h) (Or.inl ⟨by rfl, ?_⟩) ?_ ?_
                    rotate_left
                    · intro w'
                      go_simp
                      with_reducible rfl
                    rotate_left
                    · simp only [Act.put, List.setIfInBounds_toArray, List.set_cons_zero, List.set_cons_succ, i64_w, i32_w]
                      rfl
                    refine pure_ (i := 2) (N := some 34) (v := ?_) (a' := ?_) #[true, true, true, false, false, false, false, false, false, false, false, false, false, false, false] rfl rfl (any_of HT_.out (by kernel_rfl)) (fun _ _ _ h => h) (Or.inl ⟨by rfl, ?_⟩) ?_ ?_
                    rotate_left
                    · intro w'
                      go_simp
                      with_reducible rfl
                    rotate_left
                    · simp only [Act.put, List.setIfInBounds_toArray, List.set_cons_zero, List.set_cons_succ, i64_w, i32_w]
                      rfl
                    refine pure_ (i := 3) (N := some 35) (v := ?_) (a' := ?_) #[true, true, true, true, false, false, false, false, false, false, false, false, false, false, false] rfl rfl (any_of HT_.out (by kernel_rfl)) (fun _ _ _ h => h) (Or.inl ⟨by rfl, ?_⟩) ?_ ?_
                    rotate_left
                    · intro w'
                      go_simp
                      with_reducible rfl
                    rotate_left
                    · simp only [Act.put, List.setIfInBounds_toArray, List.set_cons_zero, List.set_cons_succ, i64_w, i32_w]
                      rfl
                    refine pure_ (i := 6) (N := some 38) (v := ?_) (a' := ?_) #[true, true, true, true, false, false, true, false, false, false, false, false, false, false, false] rfl rfl (any_of HT_.out (by kernel_rfl)) (fun _ _ _ h => h) (Or.inl ⟨by rfl, ?_⟩) ?_ ?_
                    rotate_left
                    · intro w'
                      go_simp
                      with_reducible rfl
                    rotate_left
                    · simp only [Act.put, List.setIfInBounds_toArray, List.set_cons_zero, List.set_cons_succ, i64_w, i32_w]
                      rfl
                    refine pure_ (i := 7) (N := some 39) (v := ?_) (a' := ?_) #[true, true, true, true, false, false, true, true, false, false, false, false, false, false, false] rfl rfl (any_of HT_.out (by kernel_rfl)) (fun _ _ _ h => h) (Or.inl ⟨by rfl, ?_⟩) ?_ ?_
                    rotate_left
                    · intro w'
                      go_simp
                      with_reducible rfl
                    rotate_left
                    · simp only [Act.put, List.setIfInBounds_toArray, List.set_cons_zero, List.set_cons_succ, i64_w, i32_w]
                      rfl
                    refine pure_ (i := 8) (N := some 40) (v := ?_) (a' := ?_) #[true, true, true, true, false, false, true, true, true, false, false, false, false, false, false] rfl rfl (any_of HT_.out (by kernel_rfl)) (fun _ _ _ h => h) (Or.inl ⟨by rfl, ?_⟩) ?_ ?_
                    rotate_left
                    · intro w'
                      go_simp
                      with_reducible rfl
                    rotate_left
                    · simp only [Act.put, List.setIfInBounds_toArray, List.set_cons_zero, List.set_cons_succ, i64_w, i32_w]
                      rfl
                    refine pure_ (i := 9) (N := some 41) (v := ?_) (a' := ?_) #[true, true, true, true, false, false, true, true, true, true, false, false, false, false, false] rfl rfl (any_of HT_.out (by kernel_rfl)) (fun _ _ _ h => h) (Or.inl ⟨by rfl, ?_⟩) ?_ ?_
                    rotate_left
                    · intro w'
                      go_simp
                      with_reducible rfl
                    rotate_left
                    · simp only [Act.put, List.setIfInBounds_toArray, List.set_cons_zero, List.set_cons_succ, i64_w, i32_w]
                      rfl
                    refine take_ (i := 10) (N := some 42) (v := ?_) (a' := ?_) #[true, true, true, true, false, false, true, true, true, true, true, false, false, false, false] rfl rfl (take_ofW HT_.out HW_.out (by kernel_rfl)) (fun _ _ _ h => h) (Or.inl ⟨by rfl, ?_⟩) hHeld ?_ ?_
                    rotate_left
                    · intro w' s0
                      go_simp
                      with_reducible rfl
                    rotate_left
                    · simp only [Act.put, List.setIfInBounds_toArray, List.set_cons_zero, List.set_cons_succ, i64_w, i32_w]
                      rfl
                    refine one_ (i := 4) (N := some 36) #[true, true, true, true, true, false, true, true, true, true, true, false, false, false, false] rfl rfl (one_of HT_.out (by kernel_rfl)) (by decide) (fun K hK => ?_)
                    refine goes_ Try.func78 (by kernel_rfl) rfl #[.int .i64 (wrap64 (x10_2 * a2)), .int .i64 1000] (by rfl) rfl rfl (by (try simp only [List.map_toArray, List.map_cons, List.map_nil]); first | done | rfl | (simp only [List.length_drop, List.length_take]; rfl)) ?_
                    with_reducible refine (spec_l01Div.calls (wrap64 (x10_2 * a2)) 1000 t508 _ A16.out).mono ?_
                    rintro e w' ⟨rfl, ⟨nd, rfl⟩⟩
                    refine ⟨_, rfl, ?_⟩
                    refine hK.out _ _ (hHeld) (fun hHeld => ?_)
                    clear hK K
                    refine norm_ (a' := ?_) ?_ ?_
                    rotate_left
                    · show Act.put _ (some 36) _ = _
                      simp only [Act.put, List.setIfInBounds_toArray, List.set_cons_zero, List.set_cons_succ, i64_w, i32_w]
                      rfl
                    refine pure_ (i := 5) (N := some 37) (v := ?_) (a' := ?_) #[true, true, true, true, true, true, true, true, true, true, true, false, false, false, false] rfl rfl (any_of HT_.out (by kernel_rfl)) (fun _ _ _ h => h) (Or.inl ⟨by rfl, ?_⟩) ?_ ?_
                    rotate_left
                    · intro w'
                      go_simp
                      with_reducible rfl
                    rotate_left
                    · simp only [Act.put, List.setIfInBounds_toArray, List.set_cons_zero, List.set_cons_succ, i64_w, i32_w]
                      rfl
                    refine one_ (i := 11) (N := some 43) #[true, true, true, true, true, true, true, true, true, true, true, true, false, false, false] rfl rfl (one_of HT_.out (by kernel_rfl)) (by decide) (fun K hK => ?_)
                    refine goes_ Try.func68 (by kernel_rfl) rfl #[.slice A0 l0.length c0, .int .i64 (rd t502 x11_2)] (by rfl) rfl rfl (by (try simp only [List.map_toArray, List.map_cons, List.map_nil]); first | done | rfl | (simp only [List.length_drop, List.length_take]; rfl)) ?_
                    with_reducible refine (spec_l16Resonance.calls k2 _ _ l0 (rd t502 x11_2) t510 _ ?side1 ?side2 A18.out).mono ?_
                    (case side1 => repeat (first | exact (Kd.C_below HR0.out (by repeat (first | (with_reducible first | exact HB.out | apply below_alloc | apply pw_below_drewN | apply below_drew1) | exact HB.out))) | (with_reducible refine Kd.C_alloc ?_ _) | (with_reducible refine Kd.C_drewN ?_ _) | (with_reducible refine Kd.C_drew ?_)))
                    (case side2 => exact HC0.out)
                    rintro e w22 ⟨rfl, hb⟩
                    have HS0_ := (hb.cell (World.block_lt_of_cell? _ _ (hHeld))).trans (hHeld)
                    refine ⟨_, rfl, ?_⟩
                    have n0_ := Aside0.mk (Kd.R_below (by (with_reducible repeat (first | apply Kd.R_alloc | apply Kd.R_drewN | apply Kd.R_drew)); exact HO_8.out) hb)
                    have n1_ := Aside0.mk (Kd.R_below (by (with_reducible repeat (first | apply Kd.R_alloc | apply Kd.R_drewN | apply Kd.R_drew)); exact HO_9.out) hb)
                    have n2_ := Aside0.mk (below_step (by repeat (first | (with_reducible first | exact HB.out | apply below_alloc | apply pw_below_drewN | apply below_drew1) | exact HB.out)) hb)
                    clear HO_8
                    clear HO_9
                    clear HB
                    have HO_8 := n0_
                    have HO_9 := n1_
                    have HB := n2_
                    clear n0_ n1_ n2_
                    (try clear hb)
                    (try clear hb2)
                    (try clear hk)
                    (try clear hi)
                    refine hK.out _ _ (HS0_) (fun hHeld => ?_)
                    clear hK K
                    refine norm_ (a' := ?_) ?_ ?_
                    rotate_left
                    · show Act.put _ (some 43) _ = _
                      simp only [Act.put, List.setIfInBounds_toArray, List.set_cons_zero, List.set_cons_succ, i64_w, i32_w]
                      rfl
                    refine pure_ (i := 12) (N := some 44) (v := ?_) (a' := ?_) #[true, true, true, true, true, true, true, true, true, true, true, true, true, false, false] rfl rfl (any_of HT_.out (by kernel_rfl)) (fun _ _ _ h => h) (Or.inl ⟨by rfl, ?_⟩) ?_ ?_
                    rotate_left
                    · intro w'
                      go_simp
                      with_reducible rfl
                    rotate_left
                    · simp only [Act.put, List.setIfInBounds_toArray, List.set_cons_zero, List.set_cons_succ, i64_w, i32_w]
                      rfl
                    refine pure_ (i := 13) (N := some 45) (v := ?_) (a' := ?_) #[true, true, true, true, true, true, true, true, true, true, true, true, true, true, false] rfl rfl (any_of HT_.out (by kernel_rfl)) (fun _ _ _ h => h) (Or.inl ⟨by rfl, ?_⟩) ?_ ?_
                    rotate_left
                    · intro w'
                      go_simp
                      with_reducible rfl
                    rotate_left
                    · simp only [Act.put, List.setIfInBounds_toArray, List.set_cons_zero, List.set_cons_succ, i64_w, i32_w]
                      rfl
                    refine pure_ (i := 14) (N := some 10) (v := ?_) (a' := ?_) #[true, true, true, true, true, true, true, true, true, true, true, true, true, true, true] rfl rfl (any_of HT_.out (by kernel_rfl)) (fun _ _ _ h => h) (Or.inl ⟨by rfl, ?_⟩) ?_ ?_
                    rotate_left
                    · intro w'
                      go_simp
                      with_reducible rfl
                    rotate_left
                    · simp only [Act.put, List.setIfInBounds_toArray, List.set_cons_zero, List.set_cons_succ, i64_w, i32_w]
                      rfl
                    refine done_ (done_of HT_.out (by kernel_rfl)) ?_
                    try go_wp2_with (first | ((with_reducible refine gate_builtin (b := .append) (xs := #[.tmp 46, .tmp 48]) rfl ?_); at_builtin; refine Kd.R_append (Kd.int .i64) (w0 := w) w.heap.size rfl (.tmp 46) (.tmp 48) 30 2 (.int .i64 0) 8 rfl Try.underlying30 info2 rfl (by decide) (by omega) u9 x9_2 (wrap64 ((wrap64 (x10_2 - t508)) + (wrap64 (10 * t510)))) [.int .i64 (wrap64 ((wrap64 (x10_2 - t508)) + (wrap64 (10 * t510))))] (fun k_ => some k_ ≠ (.slice (some ad509) t502.length co20 : Value).ownBlock) (fun _ => False) rfl rfl ?aP (fun _ hk => hk.elim) ?aF ?aO ?aB ?aS ?aL ?_; (case aP => exact rfl); (case aB => exact (by repeat (first | (with_reducible first | exact HB.out | apply below_alloc | apply pw_below_drewN | apply below_drew1) | exact HB.out))); (case aF => exact (fun k_ hk => Kd.fresh' (Kd.R_lt (by (with_reducible repeat (first | apply Kd.R_alloc | apply Kd.R_drewN | apply Kd.R_drew)); exact HO_8.out)) k_ hk)); (case aO => exact (by (with_reducible repeat (first | apply Kd.R_alloc | apply Kd.R_drewN | apply Kd.R_drew)); exact HO_9.out)); (case aS => exact (below_size (by repeat (first | (with_reducible first | exact HB.out | apply below_alloc | apply pw_below_drewN | apply below_drew1) | exact HB.out)))); (case aL => have := LMc19.out; omega); intro v512 w23 ho hb hg hat; rw [← Ny511.out] at ho; have n0_ := Aside0.mk (Kd.R_after (ok := (fun _ => True)) (by (with_reducible repeat (first | apply Kd.R_alloc | apply Kd.R_drewN | apply Kd.R_drew)); exact Kd.R_mono HO_8.out (fun _ hk => ⟨trivial, hk⟩)) hg hat); have n1_ := Aside0.mk (hb); have n2_ := Aside0.mk (ho); clear HO_8; clear HB; clear HO_9; have HO_8 := n0_; have HB := n1_; have HO513 := n2_; clear n0_ n1_ n2_; clear ho hb hg hat))
                    go_roundg k2
                    case measure => have := HJ3.out; have := HK2.out; omega
                    case rel => exact ⟨(y511), (wrap64 ((wrap64 (x10_2 - t508)) + (wrap64 (10 * t510)))), (wrap64 (x11_2 + 1)), (by first | rfl | (simp; done) | (simp [*]; done)), (by first | rfl | (simp; done) | (simp [*]; done)), H', ⟨by have := HJ3.out; have := HK2.out; omega⟩, ⟨by (with_reducible repeat (first | apply Kd.R_alloc | apply Kd.R_drewN | apply Kd.R_drew)); exact Kd.R_mono HO_8.out (fun _ hk => hk.2)⟩, ⟨by (with_reducible repeat (first | apply Kd.R_alloc | apply Kd.R_drewN | apply Kd.R_drew)); exact HO513.out⟩, ⟨by repeat (first | (with_reducible first | exact HB.out | apply below_alloc | apply pw_below_drewN | apply below_drew1) | exact HB.out)⟩⟩
                  · rw [if_neg c19] at H
                    exact absurd H (by simp)
                · rw [if_neg c17] at H
                  exact absurd H (by simp)
              · rw [if_neg c15] at H
                have c15b0 : decide (x11_2 < (t502.length : Int)) = false := decide_eq_false c15
                clear c15
                simp only [Option.some.injEq, Prod.mk.injEq] at H
                obtain ⟨rfl, rfl⟩ := H
                obtain ⟨Ao24, co24, eo24⟩ := Kd.R_slice HO_8.out
                subst eo24
                go_wp2
                go_ret2
                exact ⟨_, by first | rfl | (simp [errW_none, errW_some] <;> rfl) | (simp [*, errW_none, errW_some] <;> rfl), by (with_reducible repeat (first | apply Kd.R_alloc | apply Kd.R_drewN | apply Kd.R_drew)); exact Kd.R_mono HO_9.out (fun _ hk => trivial), by repeat (first | (with_reducible first | exact HB.out | apply below_alloc | apply pw_below_drewN | apply below_drew1) | exact HB.out)⟩
        · replace c10 := Bool.eq_false_iff.mpr c10
          subst c10
          have H1 : (some (([] : List Int), 2)) = some (r1, r2) := by rw [if_neg (show ¬ (false = true) by decide)] at H; exact H
          clear H
          have H := H1
          clear H1
          simp only [Option.some.injEq, Prod.mk.injEq] at H
          obtain ⟨rfl, rfl⟩ := H
          go_wp2_with (first | ((with_reducible refine gate_callee (f := 59) rfl ?_); refine goesL_ (some 21) rfl rfl Try.func59 (by kernel_rfl) rfl #[.int .i64 a2, .int .i64 0, .int .i64 1000] rfl (by (try simp only [List.map_toArray, List.map_cons, List.map_nil]); first | done | rfl | (simp only [List.length_drop, List.length_take]; rfl)) ?_; (with_reducible refine (spec_l00In.calls a2 0 1000 false _ A9.out).mono ?_); rintro e w' ⟨rfl, ⟨nd, rfl⟩⟩; refine ⟨_, rfl, ?_⟩))
          go_ret2
          exact ⟨_, by first | rfl | (simp [errW_none, errW_some] <;> rfl) | (simp [*, errW_none, errW_some] <;> rfl), by first | exact Kd.R_nil _ _ _ _ _ | exact Kd.N_nil _ _ _ _ _ | exact Kd.V_nil _ _ _ _ _ | exact Kd.Q_nil _ _ _ _ _ | exact Kd.S_nil _ _ _ _ _, by repeat (first | (with_reducible first | exact HB.out | apply below_alloc | apply pw_below_drewN | apply below_drew1) | exact HB.out)⟩

end Go.Proofs.Ytlgigomahobfbaa.P
end

section
/- The absolute value: the program's word. Plain Lean. -/
namespace Go.Proofs.Ytlgigomahobfbaa.P
open Go.RowKit Go.Proofs.Ytlgigomahobfbaa.P Go.Proofs.YtlgigomahobfbaaW.PrintWords Go.Proofs.YtlgigomahobfbaaW.PrintLast Go.Proofs.YtlgigomahobfbaaW.PrintMore
set_option linter.unusedVariables false
set_option linter.unusedSimpArgs false

theorem impl_abs_eq (a : Int) (h0 : -9223372036854775807 ≤ a) (h1 : a ≤ 9223372036854775807) : impl_abs.f a = some (max a (-a)) := by
  unfold impl_abs.f
  rw [w64 (x := -a) (by omega) (by omega), mx_eq]

end Go.Proofs.Ytlgigomahobfbaa.P
end

section
/- The nearest quotient: the program and the reference. Plain Lean. -/
namespace Go.Proofs.Ytlgigomahobfbaa.P
open Go.RowKit Go.Proofs.Ytlgigomahobfbaa.P Go.Proofs.YtlgigomahobfbaaW.PrintWords Go.Proofs.YtlgigomahobfbaaW.PrintLast Go.Proofs.YtlgigomahobfbaaW.PrintMore
set_option linter.unusedVariables false
set_option linter.unusedSimpArgs false

theorem tdiv_n (a b : Int) (h0 : 0 ≤ a) : Int.tdiv a b = a / b := Int.tdiv_eq_ediv_of_nonneg h0
theorem impl_divRound_eq (a b : Int) (a0 : 0 ≤ a) (a1 : a ≤ 1000000000000) (b0 : 0 < b) (b1 : b ≤ 1000000000000) : impl_divRound.f a b = some ((2 * a + b) / (2 * b)) := by
  have hd : b * (a / b) + a % b = a := Int.mul_ediv_add_emod a b
  have hr0 := Int.emod_nonneg a (show b ≠ 0 by omega)
  have hr1 := Int.emod_lt_of_pos a b0
  have hq0 : 0 ≤ a / b := Int.ediv_nonneg a0 (by omega)
  have hq1 : a / b ≤ a := Int.ediv_le_self _ a0
  have e : Int.tmod a b = a % b := Int.tmod_eq_emod_of_nonneg a0
  unfold impl_divRound.f
  rw [if_neg (by omega), e, impl_abs_eq _ (by omega) (by omega), impl_abs_eq _ (by omega) (by omega)]
  simp only [Option.bind_some]
  rw [show max (a % b) (-(a % b)) = a % b by omega, show max b (-b) = b by omega, w64 (x := b - a % b) (by omega) (by omega), tdiv_n a b a0]
  rw [w64 (x := a / b) (by omega) (by omega)]
  have e2 : 2 * a + b = (2 * (a % b) + b) + (2 * b) * (a / b) := by
    have : 2 * b * (a / b) = 2 * (b * (a / b)) := by rw [Int.mul_assoc]
    rw [this]
    omega
  rw [e2, Int.add_mul_ediv_left _ _ (show 2 * b ≠ 0 by omega)]
  by_cases h : a % b ≥ b - a % b
  · rw [if_pos h, if_pos (by simp; omega), w64 (x := a / b + 1) (by omega) (by omega)]
    have : (2 * (a % b) + b) / (2 * b) = 1 := by
      rw [show 2 * (a % b) + b = (2 * (a % b) - b) + 2 * b by omega, Int.add_ediv_of_dvd_right (Int.dvd_refl _), Int.ediv_self (by omega), Int.ediv_eq_zero_of_lt (by omega) (by omega)]
      rfl
    rw [this]
    congr 1
    omega
  · rw [if_neg h]
    have : (2 * (a % b) + b) / (2 * b) = 0 := Int.ediv_eq_zero_of_lt (by omega) (by omega)
    rw [this]
    congr 1
    omega
theorem spec_l01Div_eq (a b : Int) (a0 : 0 ≤ a) (a1 : a ≤ 1000000000000) (b0 : 0 < b) (b1 : b ≤ 1000000000000) : spec_l01Div.f a b = some ((2 * a + b) / (2 * b)) := by
  unfold spec_l01Div.f
  rw [if_neg (by omega), if_neg (by omega), w64 (x := 2 * b) (by omega) (by omega), if_neg (by omega), w64 (x := 2 * a) (by omega) (by omega), w64 (x := 2 * a + b) (by omega) (by omega), tdiv_n _ _ (by omega)]
  have : (2 * a + b) / (2 * b) ≤ 2 * a + b := Int.ediv_le_self _ (by omega)
  have h2 : 0 ≤ (2 * a + b) / (2 * b) := Int.ediv_nonneg (by omega) (by omega)
  rw [w64 (by omega) (by omega)]

end Go.Proofs.Ytlgigomahobfbaa.P
end

section
/- What the laws' own helpers tell of lists of notes. Plain Lean over the printed functions. -/
namespace Go.Proofs.Ytlgigomahobfbaa.P
open Go.RowKit Go.Proofs.Ytlgigomahobfbaa.P Go.Proofs.YtlgigomahobfbaaW.PrintWords Go.Proofs.YtlgigomahobfbaaW.PrintLast Go.Proofs.YtlgigomahobfbaaW.PrintMore
set_option linter.unusedVariables false
set_option linter.unusedSimpArgs false

def noteOf (x : S77) : S75 := ⟨x.f0, x.f1⟩
theorem setn_at {l : List S75} {i : Nat} {v : S75} {m : List S75} (h : i < l.length) (e : l.take i = m) : (l.set i v).take (i + 1) = m ++ [v] := by
  rw [List.take_succ_eq_append_getElem (by simpa using h)]
  simp [List.take_set_of_le, e]
theorem rdn_at {l : List S75} {i : Nat} (h : i < l.length) : rd_T75 l (i : Int) = l[i] := by simp [rd_T75, h]
theorem rdm_at {l : List S77} {i : Nat} (h : i < l.length) : rd_T77 l (i : Int) = l[i] := by simp [rd_T77, h]
theorem toNoteS_l0 (l : List S77) (hl : l.length ≤ 9223372036854775807) : ∀ (d i : Nat) (m : List S75), l.length - i = d → i ≤ l.length → m.length = l.length → m.take i = (l.map noteOf).take i → Ev (fun k => laws_toNoteS.l0 k l m i) (l.map noteOf) := by
  intro d
  induction d with
  | zero =>
    intro i m hd hi hm ht
    have : i = l.length := by omega
    subst this
    refine Ev.succ ?_
    simp only [laws_toNoteS.l0]
    refine Ev.ite_neg (by omega) ?_
    rw [List.take_of_length_le (by omega), List.take_of_length_le (by simp)] at ht
    rw [ht]
    exact Ev.now _
  | succ d ih =>
    intro i m hd hi hm ht
    refine Ev.succ ?_
    simp only [laws_toNoteS.l0]
    refine Ev.ite_pos (by omega) ?_
    refine Ev.ite_pos (by omega) ?_
    refine Ev.bindc (show laws_toNote.f _ _ = some (_, _) from rfl) ?_
    refine Ev.ite_pos (by omega) ?_
    rw [w64 (x := (i : Int) + 1) (by omega) (by omega), rdm_at (show i < l.length by omega), Int.toNat_natCast]
    have := ih (i + 1) (m.set i (noteOf l[i])) (by omega) (by omega) (by simpa using hm) (by
      rw [setn_at (by omega) ht, List.take_succ_eq_append_getElem (by simpa using (by omega : i < l.length))]
      simp)
    simpa [noteOf] using this
theorem toNoteS_ev (l : List S77) (h : l.length ≤ 1048576) : Ev (fun k => laws_toNoteS.f k l) (l.map noteOf) := by
  unfold laws_toNoteS.f
  refine Ev.ite_pos (by omega) ?_
  refine Ev.ite_pos (by omega) ?_
  exact toNoteS_l0 l (by omega) l.length 0 _ (by omega) (by omega) (by simp) (by simp)
theorem eqNoteS_l0 (a : List S75) (hl : a.length ≤ 9223372036854775807) : ∀ (d i : Nat), a.length - i = d → Ev (fun k => laws_eqNoteS.l0 k a a i) true := by
  intro d
  induction d with
  | zero =>
    intro i hd
    refine Ev.succ ?_
    simp only [laws_eqNoteS.l0]
    exact Ev.ite_neg (by omega) (Ev.now _)
  | succ d ih =>
    intro i hd
    refine Ev.succ ?_
    simp only [laws_eqNoteS.l0]
    refine Ev.ite_pos (by omega) ?_
    refine Ev.ite_pos (by omega) ?_
    refine Ev.ite_pos (by omega) ?_
    refine Ev.bindc (a := true) (by simp [laws_eqNote.f]) ?_
    refine Ev.ite_pos rfl ?_
    rw [w64 (x := (i : Int) + 1) (by omega) (by omega)]
    simpa using ih (i + 1) (by omega)
theorem eqNoteS_self (a : List S75) (hl : a.length ≤ 9223372036854775807) : Ev (fun k => laws_eqNoteS.f k a a) true := by
  unfold laws_eqNoteS.f
  refine Ev.ite_pos rfl ?_
  simpa using eqNoteS_l0 a hl a.length 0 (by omega)
theorem szNoteS_eq (l : List S77) (a : Int) (h0 : 0 ≤ a) (h1 : a ≤ 1048576) (hl : l.length ≤ 9223372036854775807) : laws_szNoteS.f l a = some (if a - l.length < 0 then -1 else a - l.length) := by
  unfold laws_szNoteS.f
  rw [w64 (x := a - l.length) (by omega) (by omega)]
  split <;> rfl

end Go.Proofs.Ytlgigomahobfbaa.P
end

section
/- Melodies: which are valid, and the pitches of their units. Plain Lean. -/
namespace Go.Proofs.Ytlgigomahobfbaa.P
open Go.RowKit Go.Proofs.Ytlgigomahobfbaa.P Go.Proofs.YtlgigomahobfbaaW.PrintWords Go.Proofs.YtlgigomahobfbaaW.PrintLast Go.Proofs.YtlgigomahobfbaaW.PrintMore
set_option linter.unusedVariables false
set_option linter.unusedSimpArgs false

def okN (x : S75) : Bool := inP x.f0 && (decide (1 ≤ x.f1) && decide (x.f1 ≤ 64))
def melB (l : List S75) : Bool := l.all okN && decide (l.length ≤ 48)
theorem alln_drop_at {l : List S75} {i : Nat} (q : S75 → Bool) (h : i < l.length) : (l.drop i).all q = (q (rd_T75 l i) && (l.drop (i + 1)).all q) := by
  rw [List.drop_eq_getElem_cons h, List.all_cons, rdn_at h]
def unitsM (l : List S75) : List Int := l.flatMap fun x => List.replicate x.f1.toNat x.f0
theorem unitsM_len (l : List S75) (h : l.all okN = true) : (unitsM l).length ≤ 64 * l.length ∧ l.length ≤ (unitsM l).length := by
  induction l with
  | nil => simp [unitsM]
  | cons x t ih =>
    simp only [List.all_cons, Bool.and_eq_true] at h
    have := ih h.2
    have hx := h.1
    simp [okN, inP] at hx
    simp only [unitsM, List.flatMap_cons, List.length_append, List.length_replicate, List.length_cons] at this ⊢
    omega
theorem unitsM_all (l : List S75) (h : l.all okN = true) : (unitsM l).all inP = true := by
  induction l with
  | nil => simp [unitsM]
  | cons x t ih =>
    simp only [List.all_cons, Bool.and_eq_true] at h
    have := ih h.2
    have hx := h.1
    simp only [okN, Bool.and_eq_true] at hx
    simp only [unitsM, List.flatMap_cons, List.all_append, Bool.and_eq_true] at this ⊢
    refine ⟨?_, this⟩
    rw [List.all_eq_true]
    intro y hy
    rw [List.eq_of_mem_replicate hy]
    exact hx.1
theorem unitsM_rd (l : List S75) (h : l.all okN = true) (i : Nat) (hi : i < (unitsM l).length) : inP (rd (unitsM l) i) = true := by
  rw [rd_at hi]
  exact List.all_eq_true.1 (unitsM_all l h) _ (List.getElem_mem _)
theorem unitsM_drop {l : List S75} {i : Nat} (h : i < l.length) : unitsM (l.drop i) = List.replicate (rd_T75 l i).f1.toNat (rd_T75 l i).f0 ++ unitsM (l.drop (i + 1)) := by
  rw [List.drop_eq_getElem_cons h, rdn_at h]
  simp only [unitsM, List.flatMap_cons]
theorem okN_rd {l : List S75} (h : l.all okN = true) {i : Nat} (hi : i < l.length) : inP (rd_T75 l i).f0 = true ∧ 1 ≤ (rd_T75 l i).f1 ∧ (rd_T75 l i).f1 ≤ 64 := by
  rw [rdn_at hi]
  have := List.all_eq_true.1 h _ (List.getElem_mem hi)
  simp only [okN, Bool.and_eq_true, decide_eq_true_eq] at this
  exact this
theorem melB_all {l : List S75} (h : melB l = true) : l.all okN = true ∧ l.length ≤ 48 := by
  simp only [melB, Bool.and_eq_true, decide_eq_true_eq] at h
  exact h

end Go.Proofs.Ytlgigomahobfbaa.P
end

section
/- Which melodies are valid: the program. Plain Lean. -/
namespace Go.Proofs.Ytlgigomahobfbaa.P
open Go.RowKit Go.Proofs.Ytlgigomahobfbaa.P Go.Proofs.YtlgigomahobfbaaW.PrintWords Go.Proofs.YtlgigomahobfbaaW.PrintLast Go.Proofs.YtlgigomahobfbaaW.PrintMore
set_option linter.unusedVariables false
set_option linter.unusedSimpArgs false

theorem impl_lengthOk_eq (n : Int) : impl_lengthOk.f n = some (decide (1 ≤ n) && decide (n ≤ 64)) := by
  unfold impl_lengthOk.f
  rw [impl_within_eq]
  rfl
theorem impl_ValidMelody_l0 (l : List S75) (hl : l.length ≤ 9223372036854775807) : ∀ (d i : Nat), l.length - i = d → Ev (fun k => impl_ValidMelody.l0 k l (l.length : Int) i) ((l.drop i).all okN) := by
  intro d
  induction d with
  | zero =>
    intro i hd
    refine Ev.succ ?_
    simp only [impl_ValidMelody.l0]
    refine Ev.ite_neg (by omega) ?_
    rw [List.drop_of_length_le (by omega)]
    exact Ev.now _
  | succ d ih =>
    intro i hd
    refine Ev.succ ?_
    simp only [impl_ValidMelody.l0]
    refine Ev.ite_pos (by omega) ?_
    refine Ev.ite_pos (by omega) ?_
    refine Ev.ite_pos (by omega) ?_
    refine Ev.bindc (impl_pitchOk_eq _) ?_
    rw [alln_drop_at okN (by omega)]
    cases hp : inP (rd_T75 l i).f0 with
    | false =>
      refine Ev.ite_neg (by decide) ?_
      refine Ev.cast (Ev.now false) ?_
      simp [okN, hp]
    | true =>
      refine Ev.ite_pos rfl ?_
      refine Ev.bindc (impl_lengthOk_eq _) ?_
      cases hq : (decide (1 ≤ (rd_T75 l i).f1) && decide ((rd_T75 l i).f1 ≤ 64)) with
      | false =>
        refine Ev.ite_neg (by decide) ?_
        refine Ev.cast (Ev.now false) ?_
        simp [okN, hq]
      | true =>
        refine Ev.ite_pos rfl ?_
        rw [w64 (x := (i : Int) + 1) (by omega) (by omega)]
        refine Ev.cast (by simpa using ih (i + 1) (by omega)) ?_
        simp [okN, hp, hq]
theorem impl_ValidMelody_ev (l : List S75) (hl : l.length ≤ 9223372036854775807) : Ev (fun k => impl_ValidMelody.f k l) (melB l) := by
  unfold impl_ValidMelody.f melB
  by_cases h : (l.length : Int) > 48
  · refine Ev.ite_pos h ?_
    refine Ev.cast (Ev.now false) ?_
    have : ¬ l.length ≤ 48 := by omega
    simp [this]
  · refine Ev.ite_neg h ?_
    refine Ev.cast (by simpa using impl_ValidMelody_l0 l hl l.length 0 (by omega)) ?_
    have : l.length ≤ 48 := by omega
    simp [this]

end Go.Proofs.Ytlgigomahobfbaa.P
end

section
namespace Go.Proofs.Ytlgigomahobfbaa.P
open Go.RowKit Go.Proofs.YtlgigomahobfbaaW.PrintWords Go.Proofs.YtlgigomahobfbaaW.PrintLast Go.Proofs.YtlgigomahobfbaaW.PrintMore
attribute [local go_sem] max2_int min2_int max_two min_two max_three min_three max_four min_four   -- for this text's walks alone
set_option linter.unusedVariables false
set_option linter.unusedSimpArgs false

/-! ### impl_droneOk: function 62 -/
def impl_droneOk.f (k : Nat) (l0 : List (S75)) : Option (Bool) := (impl_ValidMelody.f k l0).bind fun t138 => (if t138 = true then (some (decide ((l0.length : Int) > 0))) else (some false))
theorem impl_droneOk.mono : ∀ a0 k, LeO (impl_droneOk.f k a0) (impl_droneOk.f (k + 1) a0) := by
  intro a0 k
  unfold impl_droneOk.f
  repeat' first
      | (with_reducible exact impl_ValidMelody.mono _ _)
      | (with_reducible exact LeO.refl _)
      | (with_reducible exact LeO.none _)
      | (with_reducible refine LeO.ite ?_ ?_)
      | (with_reducible refine LeO.bind ?_ (fun _ => ?_))
      | exact impl_ValidMelody.mono _ _
      | exact LeO.none _
      | refine LeO.ite ?_ ?_
      | refine LeO.bind ?_ (fun _ => ?_)
set_option maxHeartbeats 8000000 in
set_option maxRecDepth 100000 in
theorem impl_droneOk.calls (k : Nat) (A0 : Option Addr) (c0 : Nat) (l0 : List (S75)) (r : Bool) (w : World) (hr0 : Kd.C k75 w A0 l0.length l0) (hc0 : l0.length ≤ c0) (h : impl_droneOk.f k l0 = some r) :
    Calls Try.prog 62 #[.slice A0 l0.length c0] w fun e w' => e = .returned (.bool r) ∧ Below w.heap.size w w' := by
  have HR0 := Aside0.mk hr0
  have HC0 := Aside0.mk hc0
  clear hr0 hc0
  have HB := Aside0.mk (Below.refl w.heap.size w)
  have H : ((impl_ValidMelody.f k l0).bind fun t138 => (if t138 = true then (some (decide ((l0.length : Int) > 0))) else (some false))) = some r := h
  clear h
  replace H := Option.bind_eq_some_iff.mp H
  obtain ⟨t138, A20, H⟩ := H
  replace H : (if t138 = true then (some (decide ((l0.length : Int) > 0))) else (some false)) = some r := H
  have A2 := Aside0.mk A20
  clear A20
  by_cases c3 : t138 = true
  · subst c3
    have H1 : (some (decide ((l0.length : Int) > 0))) = some r := by rw [if_pos rfl] at H; exact H
    clear H
    have H := H1
    clear H1
    obtain rfl := Option.some.inj H
    go_enter Try.func62, Try.ntmps62
    go_wp2_with (first | ((with_reducible refine gate_callee (f := 74) rfl ?_); refine goesL_ (some 4) rfl rfl Try.func74 (by kernel_rfl) rfl #[.slice A0 l0.length c0] rfl (by (try simp only [List.map_toArray, List.map_cons, List.map_nil]); first | done | rfl | (simp only [List.length_drop, List.length_take]; rfl)) ?_; (with_reducible refine (impl_ValidMelody.calls k _ _ l0 true _ ?side1 ?side2 A2.out).mono ?_); (case side1 => repeat (first | exact HR0.out | (with_reducible refine Kd.C_alloc ?_ _) | (with_reducible refine Kd.C_drewN ?_ _) | (with_reducible refine Kd.C_drew ?_))); (case side2 => exact HC0.out); rintro e w4 ⟨rfl, hb⟩; refine ⟨_, rfl, ?_⟩; have n0_ := Aside0.mk (below_step (by repeat (first | (with_reducible first | exact HB.out | apply below_alloc | apply pw_below_drewN | apply below_drew1) | exact HB.out)) hb); clear HB; have HB := n0_; clear n0_; (try clear hb); (try clear hb2); (try clear hk); (try clear hi)))
    go_ret
    exact ⟨by first | rfl | (simp [errW_none, errW_some] <;> rfl) | (simp [*, errW_none, errW_some] <;> rfl), by repeat (first | (with_reducible first | exact HB.out | apply below_alloc | apply pw_below_drewN | apply below_drew1) | exact HB.out)⟩
  · replace c3 := Bool.eq_false_iff.mpr c3
    subst c3
    have H1 : (some false) = some r := by rw [if_neg (show ¬ (false = true) by decide)] at H; exact H
    clear H
    have H := H1
    clear H1
    obtain rfl := Option.some.inj H
    go_enter Try.func62, Try.ntmps62
    go_wp2_with (first | ((with_reducible refine gate_callee (f := 74) rfl ?_); refine goesL_ (some 4) rfl rfl Try.func74 (by kernel_rfl) rfl #[.slice A0 l0.length c0] rfl (by (try simp only [List.map_toArray, List.map_cons, List.map_nil]); first | done | rfl | (simp only [List.length_drop, List.length_take]; rfl)) ?_; (with_reducible refine (impl_ValidMelody.calls k _ _ l0 false _ ?side1 ?side2 A2.out).mono ?_); (case side1 => repeat (first | exact HR0.out | (with_reducible refine Kd.C_alloc ?_ _) | (with_reducible refine Kd.C_drewN ?_ _) | (with_reducible refine Kd.C_drew ?_))); (case side2 => exact HC0.out); rintro e w5 ⟨rfl, hb⟩; refine ⟨_, rfl, ?_⟩; have n0_ := Aside0.mk (below_step (by repeat (first | (with_reducible first | exact HB.out | apply below_alloc | apply pw_below_drewN | apply below_drew1) | exact HB.out)) hb); clear HB; have HB := n0_; clear n0_; (try clear hb); (try clear hb2); (try clear hk); (try clear hi)))
    go_ret
    exact ⟨by first | rfl | (simp [errW_none, errW_some] <;> rfl) | (simp [*, errW_none, errW_some] <;> rfl), by repeat (first | (with_reducible first | exact HB.out | apply below_alloc | apply pw_below_drewN | apply below_drew1) | exact HB.out)⟩

end Go.Proofs.Ytlgigomahobfbaa.P
end

section
/- The units of a melody, its duration: the program. Plain Lean. -/
namespace Go.Proofs.Ytlgigomahobfbaa.P
open Go.RowKit Go.Proofs.Ytlgigomahobfbaa.P Go.Proofs.YtlgigomahobfbaaW.PrintWords Go.Proofs.YtlgigomahobfbaaW.PrintLast Go.Proofs.YtlgigomahobfbaaW.PrintMore
set_option linter.unusedVariables false
set_option linter.unusedSimpArgs false

theorem impl_droneOk_ev (l : List S75) (hl : l.length ≤ 9223372036854775807) : Ev (fun k => impl_droneOk.f k l) (melB l && decide (0 < l.length)) := by
  unfold impl_droneOk.f
  refine Ev.bind (impl_ValidMelody_ev l hl) ?_
  cases h : melB l with
  | true =>
    refine Ev.ite_pos rfl ?_
    refine Ev.cast (Ev.now _) ?_
    simp
  | false => exact Ev.ite_neg (by decide) (Ev.now _)
theorem impl_unitsOf_l1 (l : List S75) (i n p q : Int) (r : List Int) (hn : n ≤ 1048576) : ∀ (d : Nat) (u : Int) (acc : List Int), (n - u).toNat = d → 0 ≤ u → acc.length + d ≤ 1048576 →
    Ev (fun k => impl_unitsOf.l0 k (acc ++ List.replicate d p) l (l.length : Int) (wrap64 (i + 1))) r → Ev (fun k => impl_unitsOf.l1 k acc l (l.length : Int) i n u p q) r := by
  intro d
  induction d with
  | zero =>
    intro u acc hd h0 ha h
    refine Ev.succ ?_
    simp only [impl_unitsOf.l1]
    refine Ev.ite_neg (by omega) ?_
    simpa using h
  | succ d ih =>
    intro u acc hd h0 ha h
    refine Ev.succ ?_
    simp only [impl_unitsOf.l1]
    refine Ev.ite_pos (by omega) ?_
    refine Ev.ite_pos (by omega) ?_
    rw [w64 (x := u + 1) (by omega) (by omega)]
    refine ih (u + 1) (acc ++ [p]) (by omega) (by omega) (by simp; omega) ?_
    simpa [List.replicate_succ] using h
theorem impl_unitsOf_l0 (l : List S75) (hv : l.all okN = true) (hl : l.length ≤ 48) : ∀ (d i : Nat) (acc : List Int), l.length - i = d → acc.length ≤ 64 * i → Ev (fun k => impl_unitsOf.l0 k acc l (l.length : Int) i) (acc ++ unitsM (l.drop i)) := by
  intro d
  induction d with
  | zero =>
    intro i acc hd ha
    refine Ev.succ ?_
    simp only [impl_unitsOf.l0]
    refine Ev.ite_neg (by omega) ?_
    rw [List.drop_of_length_le (by omega)]
    simpa [unitsM] using Ev.now _
  | succ d ih =>
    intro i acc hd ha
    have hq := okN_rd hv (show i < l.length by omega)
    refine Ev.succ ?_
    simp only [impl_unitsOf.l0]
    refine Ev.ite_pos (by omega) ?_
    refine Ev.ite_pos (by omega) ?_
    refine Ev.ite_pos (by omega) ?_
    refine impl_unitsOf_l1 l i _ _ _ _ (by omega) ((rd_T75 l i).f1).toNat 0 acc (by omega) (by omega) (by omega) ?_
    rw [w64 (x := (i : Int) + 1) (by omega) (by omega), unitsM_drop (by omega), ← List.append_assoc]
    simpa using ih (i + 1) (acc ++ List.replicate ((rd_T75 l i).f1).toNat (rd_T75 l i).f0) (by omega) (by simp; omega)
theorem impl_unitsOf_ev (l : List S75) (h : melB l = true) : Ev (fun k => impl_unitsOf.f k l) (unitsM l) := by
  unfold impl_unitsOf.f
  simpa using impl_unitsOf_l0 l (melB_all h).1 (melB_all h).2 l.length 0 [] (by omega) (by simp)

end Go.Proofs.Ytlgigomahobfbaa.P
end

section
/- Marks in lists of notes. Plain Lean over the printed functions. -/
namespace Go.Proofs.Ytlgigomahobfbaa.P
open Go.RowKit Go.Proofs.Ytlgigomahobfbaa.P Go.Proofs.YtlgigomahobfbaaW.PrintWords Go.Proofs.YtlgigomahobfbaaW.PrintLast Go.Proofs.YtlgigomahobfbaaW.PrintMore
set_option linter.unusedVariables false
set_option linter.unusedSimpArgs false

theorem markNoteS_l0 : ∀ (d i : Nat) (l : List S75) (v : Int), l.length ≤ 1048576 → l.length - i = d → 0 ≤ v → v ≤ 1000000000 + 2 * i → ∃ m, Ev (fun k => laws_markNoteS.l0 k l v i) (v + 2 * d, m) := by
  intro d
  induction d with
  | zero =>
    intro i l v hl hd h0 h1
    refine ⟨l, Ev.succ ?_⟩
    simp only [laws_markNoteS.l0]
    refine Ev.ite_neg (by omega) ?_
    simpa using Ev.now _
  | succ d ih =>
    intro i l v hl hd h0 h1
    obtain ⟨m, hm⟩ := ih (i + 1) ((l.set i (⟨v, (rd_T75 l i).f1⟩ : S75)).set i (⟨(rd_T75 (l.set i (⟨v, (rd_T75 l i).f1⟩ : S75)) i).f0, v + 1⟩ : S75)) (v + 2) (by simpa using hl) (by simp; omega) (by omega) (by omega)
    refine ⟨m, Ev.succ ?_⟩
    simp only [laws_markNoteS.l0]
    refine Ev.ite_pos (by omega) ?_
    refine Ev.ite_pos (by omega) ?_
    refine Ev.bindc rfl ?_
    rw [w64 (x := (i : Int) + 1) (by omega) (by omega), w64 (x := v + 1) (by omega) (by omega), w64 (x := v + 1 + 1) (by omega) (by omega)]
    have e : v + 2 * ((d + 1 : Nat) : Int) = v + 2 + 2 * (d : Int) := by omega
    rw [e]
    have e2 : v + 1 + 1 = v + 2 := by omega
    rw [e2]
    simpa using hm
theorem markNoteS_ev (l : List S75) (v : Int) (hl : l.length ≤ 1048576) (h0 : 0 ≤ v) (h1 : v ≤ 1000000000) : ∃ m, Ev (fun k => laws_markNoteS.f k l v) (v + 2 * l.length, m) := by
  unfold laws_markNoteS.f
  simpa using markNoteS_l0 l.length 0 l v hl (by omega) h0 (by omega)

end Go.Proofs.Ytlgigomahobfbaa.P
end

section
namespace Go.Proofs.Ytlgigomahobfbaa.P
open Go.RowKit Go.Proofs.YtlgigomahobfbaaW.PrintWords Go.Proofs.YtlgigomahobfbaaW.PrintLast Go.Proofs.YtlgigomahobfbaaW.PrintMore
attribute [local go_sem] max2_int min2_int max_two min_two max_three min_three max_four min_four   -- for this text's walks alone
set_option linter.unusedVariables false
set_option linter.unusedSimpArgs false

/-! ### spec_l16Drone: function 58 -/
def spec_l16Drone.f (k : Nat) (l0 : List (S75)) : Option (Bool) := (spec_l09Ok.f k l0).bind fun t107 => (if t107 = true then (some (decide ((l0.length : Int) > 0))) else (some false))
theorem spec_l16Drone.mono : ∀ a0 k, LeO (spec_l16Drone.f k a0) (spec_l16Drone.f (k + 1) a0) := by
  intro a0 k
  unfold spec_l16Drone.f
  repeat' first
      | (with_reducible exact spec_l09Ok.mono _ _)
      | (with_reducible exact LeO.refl _)
      | (with_reducible exact LeO.none _)
      | (with_reducible refine LeO.ite ?_ ?_)
      | (with_reducible refine LeO.bind ?_ (fun _ => ?_))
      | exact spec_l09Ok.mono _ _
      | exact LeO.none _
      | refine LeO.ite ?_ ?_
      | refine LeO.bind ?_ (fun _ => ?_)
set_option maxHeartbeats 8000000 in
set_option maxRecDepth 100000 in
theorem spec_l16Drone.calls (k : Nat) (A0 : Option Addr) (c0 : Nat) (l0 : List (S75)) (r : Bool) (w : World) (hr0 : Kd.C k75 w A0 l0.length l0) (hc0 : l0.length ≤ c0) (h : spec_l16Drone.f k l0 = some r) :
    Calls Try.prog 58 #[.slice A0 l0.length c0] w fun e w' => e = .returned (.bool r) ∧ Drawn0 w w' := by
  have HR0 := Aside0.mk hr0
  have HC0 := Aside0.mk hc0
  clear hr0 hc0
  have H : ((spec_l09Ok.f k l0).bind fun t107 => (if t107 = true then (some (decide ((l0.length : Int) > 0))) else (some false))) = some r := h
  clear h
  replace H := Option.bind_eq_some_iff.mp H
  obtain ⟨t107, A20, H⟩ := H
  replace H : (if t107 = true then (some (decide ((l0.length : Int) > 0))) else (some false)) = some r := H
  have A2 := Aside0.mk A20
  clear A20
  by_cases c3 : t107 = true
  · subst c3
    have H1 : (some (decide ((l0.length : Int) > 0))) = some r := by rw [if_pos rfl] at H; exact H
    clear H
    have H := H1
    clear H1
    obtain rfl := Option.some.inj H
    go_enter Try.func58, Try.ntmps58
    go_wp2_with (first | ((with_reducible refine gate_callee (f := 72) rfl ?_); refine goesL_ (some 4) rfl rfl Try.func72 (by kernel_rfl) rfl #[.slice A0 l0.length c0] rfl (by (try simp only [List.map_toArray, List.map_cons, List.map_nil]); first | done | rfl | (simp only [List.length_drop, List.length_take]; rfl)) ?_; (with_reducible refine (spec_l09Ok.calls k _ _ l0 true _ ?side1 ?side2 A2.out).mono ?_); (case side1 => repeat (first | exact HR0.out | (with_reducible refine Kd.C_alloc ?_ _) | (with_reducible refine Kd.C_drewN ?_ _) | (with_reducible refine Kd.C_drew ?_))); (case side2 => exact HC0.out); rintro e w' ⟨rfl, ⟨nd, rfl⟩⟩; refine ⟨_, rfl, ?_⟩))
    go_ret
    exact ⟨by first | rfl | (simp; done) | (simp [*]; done), by repeat (first | exact Drawn0.refl _ | apply Drawn0.step)⟩
  · replace c3 := Bool.eq_false_iff.mpr c3
    subst c3
    have H1 : (some false) = some r := by rw [if_neg (show ¬ (false = true) by decide)] at H; exact H
    clear H
    have H := H1
    clear H1
    obtain rfl := Option.some.inj H
    go_enter Try.func58, Try.ntmps58
    go_wp2_with (first | ((with_reducible refine gate_callee (f := 72) rfl ?_); refine goesL_ (some 4) rfl rfl Try.func72 (by kernel_rfl) rfl #[.slice A0 l0.length c0] rfl (by (try simp only [List.map_toArray, List.map_cons, List.map_nil]); first | done | rfl | (simp only [List.length_drop, List.length_take]; rfl)) ?_; (with_reducible refine (spec_l09Ok.calls k _ _ l0 false _ ?side1 ?side2 A2.out).mono ?_); (case side1 => repeat (first | exact HR0.out | (with_reducible refine Kd.C_alloc ?_ _) | (with_reducible refine Kd.C_drewN ?_ _) | (with_reducible refine Kd.C_drew ?_))); (case side2 => exact HC0.out); rintro e w' ⟨rfl, ⟨nd, rfl⟩⟩; refine ⟨_, rfl, ?_⟩))
    go_ret
    exact ⟨by first | rfl | (simp; done) | (simp [*]; done), by repeat (first | exact Drawn0.refl _ | apply Drawn0.step)⟩

end Go.Proofs.Ytlgigomahobfbaa.P
end

section
/- Which melodies are valid, the units of a melody: the reference. Plain Lean. -/
namespace Go.Proofs.Ytlgigomahobfbaa.P
open Go.RowKit Go.Proofs.Ytlgigomahobfbaa.P Go.Proofs.YtlgigomahobfbaaW.PrintWords Go.Proofs.YtlgigomahobfbaaW.PrintLast Go.Proofs.YtlgigomahobfbaaW.PrintMore
set_option linter.unusedVariables false
set_option linter.unusedSimpArgs false

theorem spec_l09Length_eq (n : Int) : spec_l09Length.f n = some (decide (1 ≤ n) && decide (n ≤ 64)) := by
  unfold spec_l09Length.f
  rw [spec_l00In_eq]
  rfl
theorem spec_l09Ok_l0 (l : List S75) (hl : l.length ≤ 9223372036854775807) : ∀ (d i : Nat), l.length - i = d → Ev (fun k => spec_l09Ok.l0 k l i) ((l.drop i).all okN && decide (l.length ≤ 48)) := by
  intro d
  induction d with
  | zero =>
    intro i hd
    refine Ev.succ ?_
    simp only [spec_l09Ok.l0]
    refine Ev.ite_neg (by omega) ?_
    rw [List.drop_of_length_le (by omega)]
    refine Ev.cast (Ev.now _) ?_
    simp
    omega
  | succ d ih =>
    intro i hd
    refine Ev.succ ?_
    simp only [spec_l09Ok.l0]
    refine Ev.ite_pos (by omega) ?_
    refine Ev.ite_pos (by omega) ?_
    refine Ev.bindc (spec_l03Pitch_eq _) ?_
    rw [alln_drop_at okN (by omega)]
    cases hp : inP (rd_T75 l i).f0 with
    | false =>
      refine Ev.ite_neg (by decide) ?_
      refine Ev.cast (Ev.now false) ?_
      simp [okN, hp]
    | true =>
      refine Ev.ite_pos rfl ?_
      refine Ev.bindc (spec_l09Length_eq _) ?_
      cases hq : (decide (1 ≤ (rd_T75 l i).f1) && decide ((rd_T75 l i).f1 ≤ 64)) with
      | false =>
        refine Ev.ite_neg (by decide) ?_
        refine Ev.cast (Ev.now false) ?_
        simp [okN, hq]
      | true =>
        refine Ev.ite_pos rfl ?_
        rw [w64 (x := (i : Int) + 1) (by omega) (by omega)]
        refine Ev.cast (by simpa using ih (i + 1) (by omega)) ?_
        simp [okN, hp, hq]
theorem spec_l09Ok_ev (l : List S75) (hl : l.length ≤ 9223372036854775807) : Ev (fun k => spec_l09Ok.f k l) (melB l) := by
  unfold spec_l09Ok.f melB
  simpa using spec_l09Ok_l0 l hl l.length 0 (by omega)
theorem spec_l16Drone_ev (l : List S75) (hl : l.length ≤ 9223372036854775807) : Ev (fun k => spec_l16Drone.f k l) (melB l && decide (0 < l.length)) := by
  unfold spec_l16Drone.f
  refine Ev.bind (spec_l09Ok_ev l hl) ?_
  cases h : melB l with
  | true =>
    refine Ev.ite_pos rfl ?_
    refine Ev.cast (Ev.now _) ?_
    simp
  | false => exact Ev.ite_neg (by decide) (Ev.now _)
theorem spec_l16Units_l1 (l : List S75) (i : Nat) (r : List Int) (hi : i < l.length) (hn : (rd_T75 l i).f1 ≤ 1048576) : ∀ (d : Nat) (u : Int) (acc : List Int), ((rd_T75 l i).f1 - u).toNat = d → 0 ≤ u → acc.length + d ≤ 1048576 →
    Ev (fun k => spec_l16Units.l0 k l (acc ++ List.replicate d (rd_T75 l i).f0) (wrap64 ((i : Int) + 1))) r → Ev (fun k => spec_l16Units.l1 k l acc i u) r := by
  intro d
  induction d with
  | zero =>
    intro u acc hd h0 ha h
    refine Ev.succ ?_
    simp only [spec_l16Units.l1]
    refine Ev.ite_pos (by omega) ?_
    refine Ev.ite_pos (by omega) ?_
    refine Ev.ite_neg (by omega) ?_
    simpa using h
  | succ d ih =>
    intro u acc hd h0 ha h
    refine Ev.succ ?_
    simp only [spec_l16Units.l1]
    refine Ev.ite_pos (by omega) ?_
    refine Ev.ite_pos (by omega) ?_
    refine Ev.ite_pos (by omega) ?_
    refine Ev.ite_pos (by omega) ?_
    rw [w64 (x := u + 1) (by omega) (by omega)]
    refine ih (u + 1) (acc ++ [(rd_T75 l i).f0]) (by omega) (by omega) (by simp; omega) ?_
    simpa [List.replicate_succ] using h
theorem spec_l16Units_l0 (l : List S75) (hv : l.all okN = true) (hl : l.length ≤ 48) : ∀ (d i : Nat) (acc : List Int), l.length - i = d → acc.length ≤ 64 * i → Ev (fun k => spec_l16Units.l0 k l acc i) (acc ++ unitsM (l.drop i)) := by
  intro d
  induction d with
  | zero =>
    intro i acc hd ha
    refine Ev.succ ?_
    simp only [spec_l16Units.l0]
    refine Ev.ite_neg (by omega) ?_
    rw [List.drop_of_length_le (by omega)]
    simpa [unitsM] using Ev.now _
  | succ d ih =>
    intro i acc hd ha
    have hq := okN_rd hv (show i < l.length by omega)
    refine Ev.succ ?_
    simp only [spec_l16Units.l0]
    refine Ev.ite_pos (by omega) ?_
    refine spec_l16Units_l1 l i _ (by omega) (by omega) ((rd_T75 l i).f1).toNat 0 acc (by omega) (by omega) (by omega) ?_
    rw [w64 (x := (i : Int) + 1) (by omega) (by omega), unitsM_drop (by omega), ← List.append_assoc]
    simpa using ih (i + 1) (acc ++ List.replicate ((rd_T75 l i).f1).toNat (rd_T75 l i).f0) (by omega) (by simp; omega)
theorem spec_l16Units_ev (l : List S75) (h : melB l = true) : Ev (fun k => spec_l16Units.f k l) (unitsM l) := by
  unfold spec_l16Units.f
  simpa using spec_l16Units_l0 l (melB_all h).1 (melB_all h).2 l.length 0 [] (by omega) (by simp)

end Go.Proofs.Ytlgigomahobfbaa.P
end

section
namespace Go.Proofs.Ytlgigomahobfbaa.P
open Go.RowKit Go.Proofs.YtlgigomahobfbaaW.PrintWords Go.Proofs.YtlgigomahobfbaaW.PrintLast Go.Proofs.YtlgigomahobfbaaW.PrintMore
attribute [local go_sem] max2_int min2_int max_two min_two max_three min_three max_four min_four   -- for this text's walks alone
set_option linter.unusedVariables false
set_option linter.unusedSimpArgs false

/-! ### impl_consonance: function 119 (given) -/
/-- The table of consonances. -/
def consTab (i : Int) : Int := if i = 0 then 100 else if i = 1 then 0 else if i = 2 then 20 else if i = 3 then 50 else if i = 4 then 60 else if i = 5 then 80 else if i = 6 then 10 else if i = 7 then 90 else if i = 8 then 45 else if i = 9 then 55 else if i = 10 then 30 else 15
/-- Told for numbers that are pitches or near them alone. -/
def impl_consonance.f (a0 : Int) (a1 : Int) : Option (Int) := if (-1000 ≤ a0 ∧ a0 ≤ 1000) ∧ -1000 ≤ a1 ∧ a1 ≤ 1000 then some (consTab ((max (a0 - a1) (-(a0 - a1))) % 12)) else none
theorem impl_consonance_index (i : Int) (h0 : 0 ≤ i) (h1 : i < 12) (w : World) : (Instr.index 136 (.agg #[.int .i64 100, .int .i64 0, .int .i64 20, .int .i64 50, .int .i64 60, .int .i64 80, .int .i64 10, .int .i64 90, .int .i64 45, .int .i64 55, .int .i64 30, .int .i64 15]) (.int .i64 i)).run Try.prog w = .ok (.int .i64 (consTab i)) w := by
  have i0 : ∀ w, (Instr.index 136 (.agg #[.int .i64 100, .int .i64 0, .int .i64 20, .int .i64 50, .int .i64 60, .int .i64 80, .int .i64 10, .int .i64 90, .int .i64 45, .int .i64 55, .int .i64 30, .int .i64 15]) (.int .i64 0)).run Try.prog w = .ok (.int .i64 100) w := fun _ => by kernel_rfl
  have i1 : ∀ w, (Instr.index 136 (.agg #[.int .i64 100, .int .i64 0, .int .i64 20, .int .i64 50, .int .i64 60, .int .i64 80, .int .i64 10, .int .i64 90, .int .i64 45, .int .i64 55, .int .i64 30, .int .i64 15]) (.int .i64 1)).run Try.prog w = .ok (.int .i64 0) w := fun _ => by kernel_rfl
  have i2 : ∀ w, (Instr.index 136 (.agg #[.int .i64 100, .int .i64 0, .int .i64 20, .int .i64 50, .int .i64 60, .int .i64 80, .int .i64 10, .int .i64 90, .int .i64 45, .int .i64 55, .int .i64 30, .int .i64 15]) (.int .i64 2)).run Try.prog w = .ok (.int .i64 20) w := fun _ => by kernel_rfl
  have i3 : ∀ w, (Instr.index 136 (.agg #[.int .i64 100, .int .i64 0, .int .i64 20, .int .i64 50, .int .i64 60, .int .i64 80, .int .i64 10, .int .i64 90, .int .i64 45, .int .i64 55, .int .i64 30, .int .i64 15]) (.int .i64 3)).run Try.prog w = .ok (.int .i64 50) w := fun _ => by kernel_rfl
  have i4 : ∀ w, (Instr.index 136 (.agg #[.int .i64 100, .int .i64 0, .int .i64 20, .int .i64 50, .int .i64 60, .int .i64 80, .int .i64 10, .int .i64 90, .int .i64 45, .int .i64 55, .int .i64 30, .int .i64 15]) (.int .i64 4)).run Try.prog w = .ok (.int .i64 60) w := fun _ => by kernel_rfl
  have i5 : ∀ w, (Instr.index 136 (.agg #[.int .i64 100, .int .i64 0, .int .i64 20, .int .i64 50, .int .i64 60, .int .i64 80, .int .i64 10, .int .i64 90, .int .i64 45, .int .i64 55, .int .i64 30, .int .i64 15]) (.int .i64 5)).run Try.prog w = .ok (.int .i64 80) w := fun _ => by kernel_rfl
  have i6 : ∀ w, (Instr.index 136 (.agg #[.int .i64 100, .int .i64 0, .int .i64 20, .int .i64 50, .int .i64 60, .int .i64 80, .int .i64 10, .int .i64 90, .int .i64 45, .int .i64 55, .int .i64 30, .int .i64 15]) (.int .i64 6)).run Try.prog w = .ok (.int .i64 10) w := fun _ => by kernel_rfl
  have i7 : ∀ w, (Instr.index 136 (.agg #[.int .i64 100, .int .i64 0, .int .i64 20, .int .i64 50, .int .i64 60, .int .i64 80, .int .i64 10, .int .i64 90, .int .i64 45, .int .i64 55, .int .i64 30, .int .i64 15]) (.int .i64 7)).run Try.prog w = .ok (.int .i64 90) w := fun _ => by kernel_rfl
  have i8 : ∀ w, (Instr.index 136 (.agg #[.int .i64 100, .int .i64 0, .int .i64 20, .int .i64 50, .int .i64 60, .int .i64 80, .int .i64 10, .int .i64 90, .int .i64 45, .int .i64 55, .int .i64 30, .int .i64 15]) (.int .i64 8)).run Try.prog w = .ok (.int .i64 45) w := fun _ => by kernel_rfl
  have i9 : ∀ w, (Instr.index 136 (.agg #[.int .i64 100, .int .i64 0, .int .i64 20, .int .i64 50, .int .i64 60, .int .i64 80, .int .i64 10, .int .i64 90, .int .i64 45, .int .i64 55, .int .i64 30, .int .i64 15]) (.int .i64 9)).run Try.prog w = .ok (.int .i64 55) w := fun _ => by kernel_rfl
  have i10 : ∀ w, (Instr.index 136 (.agg #[.int .i64 100, .int .i64 0, .int .i64 20, .int .i64 50, .int .i64 60, .int .i64 80, .int .i64 10, .int .i64 90, .int .i64 45, .int .i64 55, .int .i64 30, .int .i64 15]) (.int .i64 10)).run Try.prog w = .ok (.int .i64 30) w := fun _ => by kernel_rfl
  have i11 : ∀ w, (Instr.index 136 (.agg #[.int .i64 100, .int .i64 0, .int .i64 20, .int .i64 50, .int .i64 60, .int .i64 80, .int .i64 10, .int .i64 90, .int .i64 45, .int .i64 55, .int .i64 30, .int .i64 15]) (.int .i64 11)).run Try.prog w = .ok (.int .i64 15) w := fun _ => by kernel_rfl
  have h : i = 0 ∨ i = 1 ∨ i = 2 ∨ i = 3 ∨ i = 4 ∨ i = 5 ∨ i = 6 ∨ i = 7 ∨ i = 8 ∨ i = 9 ∨ i = 10 ∨ i = 11 := by omega
  rcases h with rfl | rfl | rfl | rfl | rfl | rfl | rfl | rfl | rfl | rfl | rfl | rfl
  · exact i0 w
  · exact i1 w
  · exact i2 w
  · exact i3 w
  · exact i4 w
  · exact i5 w
  · exact i6 w
  · exact i7 w
  · exact i8 w
  · exact i9 w
  · exact i10 w
  · exact i11 w
set_option maxHeartbeats 2000000 in
theorem impl_consonance.calls (a0 : Int) (a1 : Int) (r : Int) (w : World) (h : impl_consonance.f a0 a1 = some r) :
    Calls Try.prog 119 #[.int .i64 a0, .int .i64 a1] w fun e w' => e = .returned (.int .i64 r) ∧ Below w.heap.size w w' := by
  unfold impl_consonance.f at h
  by_cases hb : (-1000 ≤ a0 ∧ a0 ≤ 1000) ∧ -1000 ≤ a1 ∧ a1 ≤ 1000
  · rw [if_pos hb] at h
    obtain ⟨⟨b0, b1⟩, b2, b3⟩ := hb
    obtain ⟨d, hd⟩ : ∃ d, d = a0 - a1 := ⟨_, rfl⟩
    have h4 : -2000 ≤ d := by omega
    have h5 : d ≤ 2000 := by omega
    have hab : impl_abs.f d = some (max d (-d)) := by
      unfold impl_abs.f
      congr 1
      have : wrap64 (-d) = -d := by unfold wrap64; omega
      rw [this]
      unfold mx
      split <;> omega
    rw [← hd] at h
    obtain ⟨m, hm⟩ : ∃ m, m = max d (-d) := ⟨_, rfl⟩
    rw [← hm] at h hab
    have h6 : 0 ≤ m := by omega
    have h7 : m ≤ 2000 := by omega
    have hix := fun w => impl_consonance_index (m % 12) (Int.emod_nonneg m (by decide)) (Int.emod_lt_of_pos m (by decide)) w
    have hr := Option.some.inj h
    obtain ⟨t, ht⟩ : ∃ t, t = m % 12 := ⟨_, rfl⟩
    have HAB := Aside0.mk hab
    have HR := Aside0.mk hr
    have HD := Aside0.mk hd
    clear h hm hab hr ht hd t
    go_enter Try.func119, Try.ntmps119
    go_wp2_with (go_at_call 120; rw [← HD.out]; (with_reducible refine (impl_abs.calls d m _ HAB.out).mono ?_); rintro e w' ⟨rfl, hb⟩)

    go_ret
    exact ⟨by rw [← HR.out]; rfl, hb⟩
  · rw [if_neg hb] at h
    cases h

end Go.Proofs.Ytlgigomahobfbaa.P
end

section
namespace Go.Proofs.Ytlgigomahobfbaa.P
open Go.RowKit Go.Proofs.YtlgigomahobfbaaW.PrintWords Go.Proofs.YtlgigomahobfbaaW.PrintLast Go.Proofs.YtlgigomahobfbaaW.PrintMore
attribute [local go_sem] max2_int min2_int max_two min_two max_three min_three max_four min_four   -- for this text's walks alone
set_option linter.unusedVariables false
set_option linter.unusedSimpArgs false

/-! ### impl_consonances: function 76 -/
def impl_consonances.l0 : Nat → Int → List Int → List Int → List Int → Int → Int → Option (List Int)
  | 0, _, _, _, _, _, _ => none
  | k + 1, x2, x7, x8, x14, x15, x16 => if x16 < x15 then (if 0 ≤ x16 then (if x16 < (x14.length : Int) then (if (x7.length : Int) = 0 then (none) else (if 0 ≤ (Int.tmod (wrap64 (x2 + x16)) (x7.length : Int)) then (if (Int.tmod (wrap64 (x2 + x16)) (x7.length : Int)) < (x7.length : Int) then ((impl_consonance.f (rd x14 x16) (rd x7 (Int.tmod (wrap64 (x2 + x16)) (x7.length : Int)))).bind fun t245 => (if x8.length < 17592186044416 then (impl_consonances.l0 k x2 x7 (x8 ++ [t245]) x14 x15 (wrap64 (x16 + 1))) else (none))) else (none)) else (none))) else (none)) else (none)) else (some x8)
def impl_consonances.f (k : Nat) (l0 : List (S75)) (l1 : List (S75)) (a2 : Int) : Option (List Int) := (impl_unitsOf.f k l1).bind fun t237 => ((impl_unitsOf.f k l0).bind fun t240 => (impl_consonances.l0 k a2 t237 ([] : List Int) t240 (t240.length : Int) 0))
theorem impl_consonances.mono_l : ∀ k, (∀ y0 y1 y2 y3 y4 y5, LeO (impl_consonances.l0 k y0 y1 y2 y3 y4 y5) (impl_consonances.l0 (k + 1) y0 y1 y2 y3 y4 y5))
  | 0 => fun _ _ _ _ _ _ r h => by simp [impl_consonances.l0] at h
  | k + 1 => by
    have ih0 := impl_consonances.mono_l k
    · intro y0 y1 y2 y3 y4 y5
      unfold impl_consonances.l0
      repeat' first
      | (with_reducible exact ih0 _ _ _ _ _ _)
      | (with_reducible exact impl_unitsOf.mono _ _)
      | (with_reducible exact LeO.refl _)
      | (with_reducible exact LeO.none _)
      | (with_reducible refine LeO.ite ?_ ?_)
      | (with_reducible refine LeO.bind ?_ (fun _ => ?_))
      | exact ih0 _ _ _ _ _ _
      | exact impl_unitsOf.mono _ _
      | exact LeO.none _
      | refine LeO.ite ?_ ?_
      | refine LeO.bind ?_ (fun _ => ?_)
theorem impl_consonances.mono : ∀ a0 a1 a2 k, LeO (impl_consonances.f k a0 a1 a2) (impl_consonances.f (k + 1) a0 a1 a2) := by
  intro a0 a1 a2 k
  have ih0 := impl_consonances.mono_l k
  unfold impl_consonances.f
  repeat' first
      | (with_reducible exact ih0 _ _ _ _ _ _)
      | (with_reducible exact impl_unitsOf.mono _ _)
      | (with_reducible exact LeO.refl _)
      | (with_reducible exact LeO.none _)
      | (with_reducible refine LeO.ite ?_ ?_)
      | (with_reducible refine LeO.bind ?_ (fun _ => ?_))
      | exact ih0 _ _ _ _ _ _
      | exact impl_unitsOf.mono _ _
      | exact LeO.none _
      | refine LeO.ite ?_ ?_
      | refine LeO.bind ?_ (fun _ => ?_)
set_option maxHeartbeats 8000000 in
set_option maxRecDepth 100000 in
theorem impl_consonances.calls (k : Nat) (A0 : Option Addr) (c0 : Nat) (l0 : List (S75)) (A1 : Option Addr) (c1 : Nat) (l1 : List (S75)) (a2 : Int) (r : List Int) (w : World) (hr0 : Kd.C k75 w A0 l0.length l0) (hc0 : l0.length ≤ c0) (hr1 : Kd.C k75 w A1 l1.length l1) (hc1 : l1.length ≤ c1) (h : impl_consonances.f k l0 l1 a2 = some r) :
    Calls Try.prog 76 #[.slice A0 l0.length c0, .slice A1 l1.length c1, .int .i64 a2] w fun e w' => ∃ v0_ : Value, e = .returned (v0_) ∧ Kd.R (Kd.int .i64) 2 w' w.heap.size (fun _ => True) v0_ r ∧ Below w.heap.size w w' := by
  have HR0 := Aside0.mk hr0
  have HC0 := Aside0.mk hc0
  clear hr0 hc0
  have HR1 := Aside0.mk hr1
  have HC1 := Aside0.mk hc1
  clear hr1 hc1
  have HB := Aside0.mk (Below.refl w.heap.size w)
  have H : ((impl_unitsOf.f k l1).bind fun t237 => ((impl_unitsOf.f k l0).bind fun t240 => (impl_consonances.l0 k a2 t237 ([] : List Int) t240 (t240.length : Int) 0))) = some r := h
  clear h
  replace H := Option.bind_eq_some_iff.mp H
  obtain ⟨t237, A40, H⟩ := H
  replace H : ((impl_unitsOf.f k l0).bind fun t240 => (impl_consonances.l0 k a2 t237 ([] : List Int) t240 (t240.length : Int) 0)) = some r := H
  have A4 := Aside0.mk A40
  clear A40
  replace H := Option.bind_eq_some_iff.mp H
  obtain ⟨t240, A50, H⟩ := H
  replace H : (impl_consonances.l0 k a2 t237 ([] : List Int) t240 (t240.length : Int) 0) = some r := H
  have A5 := Aside0.mk A50
  clear A50
  have H' := Aside0.mk H
  clear H
  go_enter Try.func76, Try.ntmps76
  go_wp2_with (first | ((with_reducible refine gate_callee (f := 64) rfl ?_); refine goesL_ (some 12) rfl rfl Try.func64 (by kernel_rfl) rfl #[.slice A1 l1.length c1] rfl (by (try simp only [List.map_toArray, List.map_cons, List.map_nil]); first | done | rfl | (simp only [List.length_drop, List.length_take]; rfl)) ?_; (with_reducible refine (impl_unitsOf.calls k _ _ l1 t237 _ ?side1 ?side2 A4.out).mono ?_); (case side1 => repeat (first | exact HR1.out | (with_reducible refine Kd.C_alloc ?_ _) | (with_reducible refine Kd.C_drewN ?_ _) | (with_reducible refine Kd.C_drew ?_))); (case side2 => exact HC1.out); rintro e w6 ⟨v238, rfl, ho0, hb⟩; refine ⟨_, rfl, ?_⟩; have n0_ := Aside0.mk (Kd.R_lower ho0 (below_size (by repeat (first | (with_reducible first | exact HB.out | apply below_alloc | apply pw_below_drewN | apply below_drew1) | exact HB.out)))); have n1_ := Aside0.mk (below_step (by repeat (first | (with_reducible first | exact HB.out | apply below_alloc | apply pw_below_drewN | apply below_drew1) | exact HB.out)) hb); clear HB; have HO239 := n0_; have HB := n1_; clear n0_ n1_; (try clear hb); (try clear hb2); (try clear hk); (try clear hi); (try clear ho0)) | ((with_reducible refine gate_callee (f := 64) rfl ?_); refine goesL_ (some 14) rfl rfl Try.func64 (by kernel_rfl) rfl #[.slice A0 l0.length c0] rfl (by (try simp only [List.map_toArray, List.map_cons, List.map_nil]); first | done | rfl | (simp only [List.length_drop, List.length_take]; rfl)) ?_; (with_reducible refine (impl_unitsOf.calls k _ _ l0 t240 _ ?side1 ?side2 A5.out).mono ?_); (case side1 => repeat (first | exact (Kd.C_below HR0.out HB.out) | (with_reducible refine Kd.C_alloc ?_ _) | (with_reducible refine Kd.C_drewN ?_ _) | (with_reducible refine Kd.C_drew ?_))); (case side2 => exact HC0.out); rintro e w7 ⟨v241, rfl, ho0, hb⟩; refine ⟨_, rfl, ?_⟩; have n0_ := Aside0.mk (Kd.R_elder' (by (with_reducible repeat (first | apply Kd.R_alloc | apply Kd.R_drewN | apply Kd.R_drew)); exact HO239.out) (Kd.R_base ho0) hb); have n1_ := Aside0.mk (Kd.R_lower (Kd.R_new' ho0 (Kd.R_lt (by (with_reducible repeat (first | apply Kd.R_alloc | apply Kd.R_drewN | apply Kd.R_drew)); exact HO239.out))) (below_size (by repeat (first | (with_reducible first | exact HB.out | apply below_alloc | apply pw_below_drewN | apply below_drew1) | exact HB.out)))); have n2_ := Aside0.mk (below_step (by repeat (first | (with_reducible first | exact HB.out | apply below_alloc | apply pw_below_drewN | apply below_drew1) | exact HB.out)) hb); clear HO239; clear HB; have HO239 := n0_; have HO242 := n1_; have HB := n2_; clear n0_ n1_ n2_; (try clear hb); (try clear hb2); (try clear hk); (try clear hi); (try clear ho0); obtain ⟨Ao8, co8, eo8⟩ := Kd.R_slice HO242.out; subst eo8))
  go_loopg [8, 16] k (fun kq v8 v16 w' => ∃ (x8_1 : List Int) (x16_1 : Int), v16 = .int .i64 x16_1 ∧ Aside0 (impl_consonances.l0 kq a2 t237 x8_1 t240 (t240.length : Int) x16_1 = some r) ∧ Aside0 (kq ≤ k) ∧ Aside0 (Kd.R (Kd.int .i64) 2 w' w.heap.size (fun k_ => some k_ ≠ (v8 : Value).ownBlock ∧ some k_ ≠ ((.slice Ao8 t240.length co8) : Value).ownBlock) v238 t237) ∧ Aside0 (Kd.R (Kd.int .i64) 2 w' w.heap.size (fun k_ => some k_ ≠ (v238 : Value).ownBlock ∧ some k_ ≠ ((.slice Ao8 t240.length co8) : Value).ownBlock) v8 x8_1) ∧ Aside0 (Kd.R (Kd.int .i64) 2 w' w.heap.size (fun k_ => some k_ ≠ (v238 : Value).ownBlock ∧ some k_ ≠ (v8 : Value).ownBlock) (.slice Ao8 t240.length co8) t240) ∧ Aside0 (Below w.heap.size w w'))
  case atStart => exact ⟨(([] : List Int)), (0), (by first | rfl | (simp; done) | (simp [*]; done)), H', ⟨Nat.le_refl _⟩, ⟨by (with_reducible repeat (first | apply Kd.R_alloc | apply Kd.R_drewN | apply Kd.R_drew)); exact Kd.R_mono HO239.out (fun _ hk => ⟨(by simp [Value.ownBlock]), hk.2⟩)⟩, ⟨by first | exact Kd.R_nil _ _ _ _ _ | exact Kd.N_nil _ _ _ _ _ | exact Kd.V_nil _ _ _ _ _ | exact Kd.Q_nil _ _ _ _ _ | exact Kd.S_nil _ _ _ _ _⟩, ⟨by (with_reducible repeat (first | apply Kd.R_alloc | apply Kd.R_drewN | apply Kd.R_drew)); exact Kd.R_mono HO242.out (fun _ hk => ⟨hk.2, (by simp [Value.ownBlock])⟩)⟩, ⟨by repeat (first | (with_reducible first | exact HB.out | apply below_alloc | apply pw_below_drewN | apply below_drew1) | exact HB.out)⟩⟩
  case round =>
    clear H'
    try clear c1
    try clear p2
    try clear c6
    try clear c7
    obtain ⟨x8_1, x16_1, rfl, HA, HK1, HO_7, HO_8, HO_14, HB⟩ := hrel
    cases gk with
    | zero => exact absurd HA.out (by simp [impl_consonances.l0])
    | succ k1 =>
      have H := HA.out
      clear HA
      simp only [impl_consonances.l0] at H
      by_cases c9 : x16_1 < (t240.length : Int)
      · rw [if_pos c9] at H
        have c9b0 : decide (x16_1 < (t240.length : Int)) = true := decide_eq_true c9
        clear c9
        by_cases c10 : 0 ≤ x16_1
        · rw [if_pos c10] at H
          have c10b0 : decide (0 ≤ x16_1) = true := decide_eq_true c10
          clear c10
          by_cases c11 : x16_1 < (t240.length : Int)
          · rw [if_pos c11] at H
            have c11b0 : decide (x16_1 < (t240.length : Int)) = true := decide_eq_true c11
            clear c11
            by_cases c12 : (t237.length : Int) = 0
            · rw [if_pos c12] at H
              exact absurd H (by simp)
            · rw [if_neg c12] at H
              have c12b0 : ((t237.length : Int) == 0) = false := beq_eq_false_iff_ne.mpr c12
              have c12b1 : ((t237.length : Int) != 0) = true := bne_iff_ne.mpr c12
              have c12b2 : ¬ (t237 = []) := fun h_ => c12 (by rw [h_]; rfl)
              obtain ⟨ji13, hji13⟩ : ∃ j_ : Int, (Int.tmod (wrap64 (a2 + x16_1)) (t237.length : Int)) = j_ := ⟨_, rfl⟩
              replace H : (if 0 ≤ (ji13) then (if (ji13) < (t237.length : Int) then ((impl_consonance.f (rd t240 x16_1) (rd t237 (ji13))).bind fun t245 => (if x8_1.length < 17592186044416 then (impl_consonances.l0 k1 a2 t237 (x8_1 ++ [t245]) t240 (t240.length : Int) (wrap64 (x16_1 + 1))) else (none))) else (none)) else (none)) = some r := by first | (rw [hji13] at H; exact H) | (simp only [hji13] at H ⊢; exact H)
              by_cases c14 : 0 ≤ (ji13)
              · rw [if_pos c14] at H
                have c14b0 : decide (0 ≤ (ji13)) = true := decide_eq_true c14
                clear c14
                by_cases c15 : (ji13) < (t237.length : Int)
                · rw [if_pos c15] at H
                  have c15b0 : decide ((ji13) < (t237.length : Int)) = true := decide_eq_true c15
                  clear c15
                  replace H := Option.bind_eq_some_iff.mp H
                  obtain ⟨t245, A160, H⟩ := H
                  replace H : (if x8_1.length < 17592186044416 then (impl_consonances.l0 k1 a2 t237 (x8_1 ++ [t245]) t240 (t240.length : Int) (wrap64 (x16_1 + 1))) else (none)) = some r := H
                  have A16 := Aside0.mk A160
                  clear A160
                  by_cases c17 : x8_1.length < 17592186044416
                  · rw [if_pos c17] at H
                    have LMc17 := Aside0.mk c17
                    clear c17
                    obtain ⟨y246, hy246⟩ : ∃ y_ : List Int, y_ = (x8_1 ++ [t245]) := ⟨_, rfl⟩
                    replace H : (impl_consonances.l0 k1 a2 t237 y246 t240 (t240.length : Int) (wrap64 (x16_1 + 1))) = some r := by first | (rw [hy246]; with_reducible exact H) | (have H2_ := (Option.bind_some _ _).symm.trans H; rw [hy246]; with_reducible exact H2_) | (have H2_ := (Option.bind_some _ _).symm.trans H; with_reducible exact H2_) | with_reducible exact H | (rw [hy246]; exact H) | exact H
                    have Ny246 := Aside0.mk hy246
                    clear hy246
                    have H' := Aside0.mk H
                    clear H
                    have p243 : 0 ≤ (x16_1 : Int) := of_decide_eq_true (by first | (with_reducible assumption) | assumption)
                    have q243 : x16_1 < (t240.length : Int) := of_decide_eq_true (by first | (with_reducible assumption) | assumption)
                    obtain ⟨ad243, e243, hx243_0⟩ := Kd.at_int (Kd.R_reads' HO_14.out).2.2 x16_1 p243 q243
                    cases e243
                    replace p243 := eq_true p243
                    replace q243 := eq_true q243
                    obtain ⟨Ao18, co18, eo18⟩ := Kd.R_slice HO_7.out
                    subst eo18
                    have p244 : 0 ≤ ((ji13) : Int) := of_decide_eq_true (by first | (with_reducible assumption) | assumption)
                    have q244 : (ji13) < (t237.length : Int) := of_decide_eq_true (by first | (with_reducible assumption) | assumption)
                    obtain ⟨ad244, e244, hx244_0⟩ := Kd.at_int (Kd.R_reads' HO_7.out).2.2 (ji13) p244 q244
                    cases e244
                    replace p244 := eq_true p244
                    replace q244 := eq_true q244
                    go_wp2_with (first | ((with_reducible refine gate_callee (f := 119) rfl ?_); refine goesL_ (some 32) rfl rfl Try.func119 (by kernel_rfl) rfl #[.int .i64 (rd t240 x16_1), .int .i64 (rd t237 (ji13))] rfl (by (try simp only [List.map_toArray, List.map_cons, List.map_nil]); first | done | (simp only [hji13]; rfl) | rfl | (simp only [List.length_drop, List.length_take]; rfl)) ?_; (with_reducible refine (impl_consonance.calls (rd t240 x16_1) (rd t237 (ji13)) t245 _ A16.out).mono ?_); rintro e w19 ⟨rfl, hb⟩; refine ⟨_, rfl, ?_⟩; have n0_ := Aside0.mk (Kd.R_below (by (with_reducible repeat (first | apply Kd.R_alloc | apply Kd.R_drewN | apply Kd.R_drew)); exact HO_7.out) hb); have n1_ := Aside0.mk (Kd.R_below (by (with_reducible repeat (first | apply Kd.R_alloc | apply Kd.R_drewN | apply Kd.R_drew)); exact HO_8.out) hb); have n2_ := Aside0.mk (Kd.R_below (by (with_reducible repeat (first | apply Kd.R_alloc | apply Kd.R_drewN | apply Kd.R_drew)); exact HO_14.out) hb); have n3_ := Aside0.mk (below_step (by repeat (first | (with_reducible first | exact HB.out | apply below_alloc | apply pw_below_drewN | apply below_drew1) | exact HB.out)) hb); clear HO_7; clear HO_8; clear HO_14; clear HB; have HO_7 := n0_; have HO_8 := n1_; have HO_14 := n2_; have HB := n3_; clear n0_ n1_ n2_ n3_; (try clear hb); (try clear hb2); (try clear hk); (try clear hi)) | ((with_reducible refine gate_builtin (b := .append) (xs := #[.tmp 21, .tmp 33]) rfl ?_); at_builtin; refine Kd.R_append (Kd.int .i64) (w0 := w) w.heap.size rfl (.tmp 21) (.tmp 33) 30 2 (.int .i64 0) 8 rfl Try.underlying30 info2 rfl (by decide) (by omega) u8 x8_1 t245 [.int .i64 t245] (fun k_ => some k_ ≠ (.slice (some ad244) t237.length co18 : Value).ownBlock ∧ some k_ ≠ (.slice (some ad243) t240.length co8 : Value).ownBlock) (fun _ => False) rfl rfl ?aP (fun _ hk => hk.elim) ?aF ?aO ?aB ?aS ?aL ?_; (case aP => exact rfl); (case aB => exact (by repeat (first | (with_reducible first | exact HB.out | apply below_alloc | apply pw_below_drewN | apply below_drew1) | exact HB.out))); (case aF => exact (fun k_ hk => ⟨Kd.fresh' (Kd.R_lt (by (with_reducible repeat (first | apply Kd.R_alloc | apply Kd.R_drewN | apply Kd.R_drew)); exact HO_7.out)) k_ hk, Kd.fresh' (Kd.R_lt (by (with_reducible repeat (first | apply Kd.R_alloc | apply Kd.R_drewN | apply Kd.R_drew)); exact HO_14.out)) k_ hk⟩)); (case aO => exact (by (with_reducible repeat (first | apply Kd.R_alloc | apply Kd.R_drewN | apply Kd.R_drew)); exact HO_8.out)); (case aS => exact (below_size (by repeat (first | (with_reducible first | exact HB.out | apply below_alloc | apply pw_below_drewN | apply below_drew1) | exact HB.out)))); (case aL => have := LMc17.out; omega); intro v247 w20 ho hb hg hat; rw [← Ny246.out] at ho; have n0_ := Aside0.mk (Kd.R_after (ok := (fun k_ => some k_ ≠ (.slice (some ad243) t240.length co8 : Value).ownBlock)) (by (with_reducible repeat (first | apply Kd.R_alloc | apply Kd.R_drewN | apply Kd.R_drew)); exact Kd.R_mono HO_7.out (fun _ hk => ⟨hk.2, hk.1⟩)) hg hat); have n1_ := Aside0.mk (Kd.R_after (ok := (fun k_ => some k_ ≠ (.slice (some ad244) t237.length co18 : Value).ownBlock)) (by (with_reducible repeat (first | apply Kd.R_alloc | apply Kd.R_drewN | apply Kd.R_drew)); exact HO_14.out) hg hat); have n2_ := Aside0.mk (hb); have n3_ := Aside0.mk (ho); clear HO_7; clear HO_14; clear HB; clear HO_8; have HO_7 := n0_; have HO_14 := n1_; have HB := n2_; have HO248 := n3_; clear n0_ n1_ n2_ n3_; clear ho hb hg hat))
                    go_roundg k1
                    case measure => have := HK1.out; omega
                    case rel => exact ⟨(y246), (wrap64 (x16_1 + 1)), (by first | rfl | (simp; done) | (simp [*]; done)), H', ⟨by have := HK1.out; omega⟩, ⟨by (with_reducible repeat (first | apply Kd.R_alloc | apply Kd.R_drewN | apply Kd.R_drew)); exact Kd.R_mono HO_7.out (fun _ hk => ⟨hk.2, hk.1⟩)⟩, ⟨by (with_reducible repeat (first | apply Kd.R_alloc | apply Kd.R_drewN | apply Kd.R_drew)); exact HO248.out⟩, ⟨by (with_reducible repeat (first | apply Kd.R_alloc | apply Kd.R_drewN | apply Kd.R_drew)); exact HO_14.out⟩, ⟨by repeat (first | (with_reducible first | exact HB.out | apply below_alloc | apply pw_below_drewN | apply below_drew1) | exact HB.out)⟩⟩
                  · rw [if_neg c17] at H
                    exact absurd H (by simp)
                · rw [if_neg c15] at H
                  exact absurd H (by simp)
              · rw [if_neg c14] at H
                exact absurd H (by simp)
          · rw [if_neg c11] at H
            exact absurd H (by simp)
        · rw [if_neg c10] at H
          exact absurd H (by simp)
      · rw [if_neg c9] at H
        have c9b0 : decide (x16_1 < (t240.length : Int)) = false := decide_eq_false c9
        clear c9
        obtain rfl := Option.some.inj H
        go_wp2
        go_ret
        exact ⟨_, by first | rfl | (simp [errW_none, errW_some] <;> rfl) | (simp [*, errW_none, errW_some] <;> rfl), by (with_reducible repeat (first | apply Kd.R_alloc | apply Kd.R_drewN | apply Kd.R_drew)); exact Kd.R_mono HO_8.out (fun _ hk => trivial), by repeat (first | (with_reducible first | exact HB.out | apply below_alloc | apply pw_below_drewN | apply below_drew1) | exact HB.out)⟩

end Go.Proofs.Ytlgigomahobfbaa.P
end

section
namespace Go.Proofs.Ytlgigomahobfbaa.P
open Go.RowKit Go.Proofs.YtlgigomahobfbaaW.PrintWords Go.Proofs.YtlgigomahobfbaaW.PrintLast Go.Proofs.YtlgigomahobfbaaW.PrintMore
attribute [local go_sem] max2_int min2_int max_two min_two max_three min_three max_four min_four   -- for this text's walks alone
set_option linter.unusedVariables false
set_option linter.unusedSimpArgs false

/-! ### impl_RoughUnits: function 31 -/
mutual
def impl_RoughUnits.j0 : Nat → List (S75) → List (S75) → Int → Bool → Option (List Int × Int)
  | 0, _, _, _, _ => none
  | k + 1, x0, x1, x2, x11 => if x11 = true then (some (([] : List Int), 1)) else ((impl_within.f x2 0 101).bind fun t394 => (if t394 = true then ((impl_consonances.f k x0 x1 0).bind fun t395 => (impl_RoughUnits.l0 k x2 ([] : List Int) t395 (t395.length : Int) 0)) else (some (([] : List Int), 2))))
def impl_RoughUnits.l0 : Nat → Int → List Int → List Int → Int → Int → Option (List Int × Int)
  | 0, _, _, _, _, _ => none
  | k + 1, x2, x8, x26, x27, x28 => if x28 < x27 then (if 0 ≤ x28 then (if x28 < (x26.length : Int) then (if (rd x26 x28) < x2 then (if x8.length < 17592186044416 then (impl_RoughUnits.l0 k x2 (x8 ++ [x28]) x26 x27 (wrap64 (x28 + 1))) else (none)) else (impl_RoughUnits.l0 k x2 x8 x26 x27 (wrap64 (x28 + 1)))) else (none)) else (none)) else (if (x8.length : Int) > 64 then (some (([] : List Int), 5)) else (some (x8, 0)))
end
def impl_RoughUnits.f (k : Nat) (l0 : List (S75)) (l1 : List (S75)) (a2 : Int) : Option (List Int × Int) := (impl_ValidMelody.f k l0).bind fun t392 => (if t392 = true then ((impl_droneOk.f k l1).bind fun t393 => (impl_RoughUnits.j0 k l0 l1 a2 (!t393))) else (impl_RoughUnits.j0 k l0 l1 a2 true))
theorem impl_RoughUnits.mono_l : ∀ k, (∀ y0 y1 y2 y3, LeO (impl_RoughUnits.j0 k y0 y1 y2 y3) (impl_RoughUnits.j0 (k + 1) y0 y1 y2 y3)) ∧ (∀ y0 y1 y2 y3 y4, LeO (impl_RoughUnits.l0 k y0 y1 y2 y3 y4) (impl_RoughUnits.l0 (k + 1) y0 y1 y2 y3 y4))
  | 0 => ⟨fun _ _ _ _ r h => by simp [impl_RoughUnits.j0] at h, fun _ _ _ _ _ r h => by simp [impl_RoughUnits.l0] at h⟩
  | k + 1 => by
    obtain ⟨ih0, ih1⟩ := impl_RoughUnits.mono_l k
    refine ⟨?_, ?_⟩
    · intro y0 y1 y2 y3
      unfold impl_RoughUnits.j0
      repeat' first
      | (with_reducible exact ih0 _ _ _ _)
      | (with_reducible exact ih1 _ _ _ _ _)
      | (with_reducible exact impl_ValidMelody.mono _ _)
      | (with_reducible exact impl_consonances.mono _ _ _ _)
      | (with_reducible exact impl_droneOk.mono _ _)
      | (with_reducible exact LeO.refl _)
      | (with_reducible exact LeO.none _)
      | (with_reducible refine LeO.ite ?_ ?_)
      | (with_reducible refine LeO.bind ?_ (fun _ => ?_))
      | exact ih0 _ _ _ _
      | exact ih1 _ _ _ _ _
      | exact impl_ValidMelody.mono _ _
      | exact impl_consonances.mono _ _ _ _
      | exact impl_droneOk.mono _ _
      | exact LeO.none _
      | refine LeO.ite ?_ ?_
      | refine LeO.bind ?_ (fun _ => ?_)
    · intro y0 y1 y2 y3 y4
      unfold impl_RoughUnits.l0
      repeat' first
      | (with_reducible exact ih0 _ _ _ _)
      | (with_reducible exact ih1 _ _ _ _ _)
      | (with_reducible exact impl_ValidMelody.mono _ _)
      | (with_reducible exact impl_consonances.mono _ _ _ _)
      | (with_reducible exact impl_droneOk.mono _ _)
      | (with_reducible exact LeO.refl _)
      | (with_reducible exact LeO.none _)
      | (with_reducible refine LeO.ite ?_ ?_)
      | (with_reducible refine LeO.bind ?_ (fun _ => ?_))
      | exact ih0 _ _ _ _
      | exact ih1 _ _ _ _ _
      | exact impl_ValidMelody.mono _ _
      | exact impl_consonances.mono _ _ _ _
      | exact impl_droneOk.mono _ _
      | exact LeO.none _
      | refine LeO.ite ?_ ?_
      | refine LeO.bind ?_ (fun _ => ?_)
theorem impl_RoughUnits.mono : ∀ a0 a1 a2 k, LeO (impl_RoughUnits.f k a0 a1 a2) (impl_RoughUnits.f (k + 1) a0 a1 a2) := by
  intro a0 a1 a2 k
  obtain ⟨ih0, ih1⟩ := impl_RoughUnits.mono_l k
  unfold impl_RoughUnits.f
  repeat' first
      | (with_reducible exact ih0 _ _ _ _)
      | (with_reducible exact ih1 _ _ _ _ _)
      | (with_reducible exact impl_ValidMelody.mono _ _)
      | (with_reducible exact impl_consonances.mono _ _ _ _)
      | (with_reducible exact impl_droneOk.mono _ _)
      | (with_reducible exact LeO.refl _)
      | (with_reducible exact LeO.none _)
      | (with_reducible refine LeO.ite ?_ ?_)
      | (with_reducible refine LeO.bind ?_ (fun _ => ?_))
      | exact ih0 _ _ _ _
      | exact ih1 _ _ _ _ _
      | exact impl_ValidMelody.mono _ _
      | exact impl_consonances.mono _ _ _ _
      | exact impl_droneOk.mono _ _
      | exact LeO.none _
      | refine LeO.ite ?_ ?_
      | refine LeO.bind ?_ (fun _ => ?_)
set_option maxHeartbeats 8000000 in
set_option maxRecDepth 100000 in
theorem impl_RoughUnits.calls (k : Nat) (A0 : Option Addr) (c0 : Nat) (l0 : List (S75)) (A1 : Option Addr) (c1 : Nat) (l1 : List (S75)) (a2 : Int) (r1 : List Int) (r2 : Int) (w : World) (hr0 : Kd.C k75 w A0 l0.length l0) (hc0 : l0.length ≤ c0) (hr1 : Kd.C k75 w A1 l1.length l1) (hc1 : l1.length ≤ c1) (h : impl_RoughUnits.f k l0 l1 a2 = some (r1, r2)) :
    Calls Try.prog 31 #[.slice A0 l0.length c0, .slice A1 l1.length c1, .int .i64 a2] w fun e w' => ∃ v0_ : Value, e = .returned (.tuple #[v0_, .int .i64 r2]) ∧ Kd.R (Kd.int .i64) 2 w' w.heap.size (fun _ => True) v0_ r1 ∧ Below w.heap.size w w' := by
  have HR0 := Aside0.mk hr0
  have HC0 := Aside0.mk hc0
  clear hr0 hc0
  have HR1 := Aside0.mk hr1
  have HC1 := Aside0.mk hc1
  clear hr1 hc1
  have HB := Aside0.mk (Below.refl w.heap.size w)
  have H : ((impl_ValidMelody.f k l0).bind fun t392 => (if t392 = true then ((impl_droneOk.f k l1).bind fun t393 => (impl_RoughUnits.j0 k l0 l1 a2 (!t393))) else (impl_RoughUnits.j0 k l0 l1 a2 true))) = some (r1, r2) := h
  clear h
  have HC4 := Aside0.mk H
  clear H
  go_enter Try.func31, Try.ntmps31
  go_upto_region 1 with (fail)
  go_cut [11] (fun v11 wc => ∃ (kq : Nat) (x11_3 : Bool), v11 = .bool x11_3 ∧ Aside0 (impl_RoughUnits.j0 kq l0 l1 a2 x11_3 = some (r1, r2)) ∧ Aside0 (kq ≤ k) ∧ Aside0 (Below w.heap.size w wc))
  case first =>
    have H := HC4.out
    clear HC4
    replace H := Option.bind_eq_some_iff.mp H
    obtain ⟨t392, A50, H⟩ := H
    replace H : (if t392 = true then ((impl_droneOk.f k l1).bind fun t393 => (impl_RoughUnits.j0 k l0 l1 a2 (!t393))) else (impl_RoughUnits.j0 k l0 l1 a2 true)) = some (r1, r2) := H
    have A5 := Aside0.mk A50
    clear A50
    by_cases c6 : t392 = true
    · subst c6
      have H1 : ((impl_droneOk.f k l1).bind fun t393 => (impl_RoughUnits.j0 k l0 l1 a2 (!t393))) = some (r1, r2) := by rw [if_pos rfl] at H; exact H
      clear H
      have H := H1
      clear H1
      replace H := Option.bind_eq_some_iff.mp H
      obtain ⟨t393, A70, H⟩ := H
      replace H : (impl_RoughUnits.j0 k l0 l1 a2 (!t393)) = some (r1, r2) := H
      have A7 := Aside0.mk A70
      clear A70
      have H' := Aside0.mk H
      clear H
      go_wp2_with (first | ((with_reducible refine gate_callee (f := 74) rfl ?_); refine goesL_ (some 13) rfl rfl Try.func74 (by kernel_rfl) rfl #[.slice A0 l0.length c0] rfl (by (try simp only [List.map_toArray, List.map_cons, List.map_nil]); first | done | rfl | (simp only [List.length_drop, List.length_take]; rfl)) ?_; (with_reducible refine (impl_ValidMelody.calls k _ _ l0 true _ ?side1 ?side2 A5.out).mono ?_); (case side1 => repeat (first | exact (Kd.C_below HR0.out HB.out) | (with_reducible refine Kd.C_alloc ?_ _) | (with_reducible refine Kd.C_drewN ?_ _) | (with_reducible refine Kd.C_drew ?_))); (case side2 => exact HC0.out); rintro e w8 ⟨rfl, hb⟩; refine ⟨_, rfl, ?_⟩; have n0_ := Aside0.mk (below_step (by repeat (first | (with_reducible first | exact HB.out | apply below_alloc | apply pw_below_drewN | apply below_drew1) | exact HB.out)) hb); clear HB; have HB := n0_; clear n0_; (try clear hb); (try clear hb2); (try clear hk); (try clear hi)) | (go_at_call 62; (with_reducible refine (impl_droneOk.calls k _ _ l1 t393 _ ?side1 ?side2 A7.out).mono ?_); (case side1 => repeat (first | exact (Kd.C_below HR1.out HB.out) | (with_reducible refine Kd.C_alloc ?_ _) | (with_reducible refine Kd.C_drewN ?_ _) | (with_reducible refine Kd.C_drew ?_))); (case side2 => exact HC1.out); rintro e w9 ⟨rfl, hb⟩; have n0_ := Aside0.mk (below_step (by repeat (first | (with_reducible first | exact HB.out | apply below_alloc | apply pw_below_drewN | apply below_drew1) | exact HB.out)) hb); clear HB; have HB := n0_; clear n0_; (try clear hb); (try clear hb2); (try clear hk); (try clear hi)))
      go_meet
      case rel => exact ⟨_, (!t393), (by first | rfl | (simp; done) | (simp [*]; done)), H', ⟨by first | omega | exact Nat.le_refl _⟩, ⟨by repeat (first | (with_reducible first | exact HB.out | apply below_alloc | apply pw_below_drewN | apply below_drew1) | exact HB.out)⟩⟩
    · replace c6 := Bool.eq_false_iff.mpr c6
      subst c6
      have H1 : (impl_RoughUnits.j0 k l0 l1 a2 true) = some (r1, r2) := by rw [if_neg (show ¬ (false = true) by decide)] at H; exact H
      clear H
      have H := H1
      clear H1
      have H' := Aside0.mk H
      clear H
      go_wp2_with (first | ((with_reducible refine gate_callee (f := 74) rfl ?_); refine goesL_ (some 13) rfl rfl Try.func74 (by kernel_rfl) rfl #[.slice A0 l0.length c0] rfl (by (try simp only [List.map_toArray, List.map_cons, List.map_nil]); first | done | rfl | (simp only [List.length_drop, List.length_take]; rfl)) ?_; (with_reducible refine (impl_ValidMelody.calls k _ _ l0 false _ ?side1 ?side2 A5.out).mono ?_); (case side1 => repeat (first | exact (Kd.C_below HR0.out HB.out) | (with_reducible refine Kd.C_alloc ?_ _) | (with_reducible refine Kd.C_drewN ?_ _) | (with_reducible refine Kd.C_drew ?_))); (case side2 => exact HC0.out); rintro e w10 ⟨rfl, hb⟩; refine ⟨_, rfl, ?_⟩; have n0_ := Aside0.mk (below_step (by repeat (first | (with_reducible first | exact HB.out | apply below_alloc | apply pw_below_drewN | apply below_drew1) | exact HB.out)) hb); clear HB; have HB := n0_; clear n0_; (try clear hb); (try clear hb2); (try clear hk); (try clear hi)))
      go_meet
      case rel => exact ⟨_, (true), (by first | rfl | (simp; done) | (simp [*]; done)), H', ⟨by first | omega | exact Nat.le_refl _⟩, ⟨by repeat (first | (with_reducible first | exact HB.out | apply below_alloc | apply pw_below_drewN | apply below_drew1) | exact HB.out)⟩⟩
  case rest =>
    clear HC4
    try clear c1
    try clear p2
    try clear c3
    try clear c6
    try clear c7
    obtain ⟨kq, x11_3, rfl, HA, HJ3, HB⟩ := hcut
    cases kq with
    | zero => exact absurd HA.out (by simp [impl_RoughUnits.j0])
    | succ kj3 =>
      have H := HA.out
      clear HA
      simp only [impl_RoughUnits.j0] at H
      by_cases c11 : x11_3 = true
      · subst c11
        have H1 : (some (([] : List Int), 1)) = some (r1, r2) := by rw [if_pos rfl] at H; exact H
        clear H
        have H := H1
        clear H1
        simp only [Option.some.injEq, Prod.mk.injEq] at H
        obtain ⟨rfl, rfl⟩ := H
        go_wp2
        go_ret2
        exact ⟨_, by first | rfl | (simp [errW_none, errW_some] <;> rfl) | (simp [*, errW_none, errW_some] <;> rfl), by first | exact Kd.R_nil _ _ _ _ _ | exact Kd.N_nil _ _ _ _ _ | exact Kd.V_nil _ _ _ _ _ | exact Kd.Q_nil _ _ _ _ _ | exact Kd.S_nil _ _ _ _ _, by repeat (first | (with_reducible first | exact HB.out | apply below_alloc | apply pw_below_drewN | apply below_drew1) | exact HB.out)⟩
      · replace c11 := Bool.eq_false_iff.mpr c11
        subst c11
        have H1 : ((impl_within.f a2 0 101).bind fun t394 => (if t394 = true then ((impl_consonances.f kj3 l0 l1 0).bind fun t395 => (impl_RoughUnits.l0 kj3 a2 ([] : List Int) t395 (t395.length : Int) 0)) else (some (([] : List Int), 2)))) = some (r1, r2) := by rw [if_neg (show ¬ (false = true) by decide)] at H; exact H
        clear H
        have H := H1
        clear H1
        replace H := Option.bind_eq_some_iff.mp H
        obtain ⟨t394, A120, H⟩ := H
        replace H : (if t394 = true then ((impl_consonances.f kj3 l0 l1 0).bind fun t395 => (impl_RoughUnits.l0 kj3 a2 ([] : List Int) t395 (t395.length : Int) 0)) else (some (([] : List Int), 2))) = some (r1, r2) := H
        have A12 := Aside0.mk A120
        clear A120
        by_cases c13 : t394 = true
        · subst c13
          have H1 : ((impl_consonances.f kj3 l0 l1 0).bind fun t395 => (impl_RoughUnits.l0 kj3 a2 ([] : List Int) t395 (t395.length : Int) 0)) = some (r1, r2) := by rw [if_pos rfl] at H; exact H
          clear H
          have H := H1
          clear H1
          replace H := Option.bind_eq_some_iff.mp H
          obtain ⟨t395, A140, H⟩ := H
          replace H : (impl_RoughUnits.l0 kj3 a2 ([] : List Int) t395 (t395.length : Int) 0) = some (r1, r2) := H
          have A14 := Aside0.mk A140
          clear A140
          have H' := Aside0.mk H
          clear H
          go_wp2_with (first | ((with_reducible refine gate_callee (f := 63) rfl ?_); refine goesL_ (some 22) rfl rfl Try.func63 (by kernel_rfl) rfl #[.int .i64 a2, .int .i64 0, .int .i64 101] rfl (by (try simp only [List.map_toArray, List.map_cons, List.map_nil]); first | done | rfl | (simp only [List.length_drop, List.length_take]; rfl)) ?_; (with_reducible refine (impl_within.calls a2 0 101 true _ A12.out).mono ?_); rintro e w' ⟨rfl, ⟨nd, rfl⟩⟩; refine ⟨_, rfl, ?_⟩) | ((with_reducible refine gate_callee (f := 76) rfl ?_); refine goesL_ (some 26) rfl rfl Try.func76 (by kernel_rfl) rfl #[.slice A0 l0.length c0, .slice A1 l1.length c1, .int .i64 0] rfl (by (try simp only [List.map_toArray, List.map_cons, List.map_nil]); first | done | rfl | (simp only [List.length_drop, List.length_take]; rfl)) ?_; (with_reducible refine (impl_consonances.calls kj3 _ _ l0 _ _ l1 0 t395 _ ?side1 ?side2 ?side3 ?side4 A14.out).mono ?_); (case side1 => repeat (first | exact (Kd.C_below HR0.out (by repeat (first | (with_reducible first | exact HB.out | apply below_alloc | apply pw_below_drewN | apply below_drew1) | exact HB.out))) | (with_reducible refine Kd.C_alloc ?_ _) | (with_reducible refine Kd.C_drewN ?_ _) | (with_reducible refine Kd.C_drew ?_))); (case side2 => exact HC0.out); (case side3 => repeat (first | exact (Kd.C_below HR1.out (by repeat (first | (with_reducible first | exact HB.out | apply below_alloc | apply pw_below_drewN | apply below_drew1) | exact HB.out))) | (with_reducible refine Kd.C_alloc ?_ _) | (with_reducible refine Kd.C_drewN ?_ _) | (with_reducible refine Kd.C_drew ?_))); (case side4 => exact HC1.out); rintro e w15 ⟨v396, rfl, ho0, hb⟩; refine ⟨_, rfl, ?_⟩; have n0_ := Aside0.mk (Kd.R_lower ho0 (below_size (by repeat (first | (with_reducible first | exact HB.out | apply below_alloc | apply pw_below_drewN | apply below_drew1) | exact HB.out)))); have n1_ := Aside0.mk (below_step (by repeat (first | (with_reducible first | exact HB.out | apply below_alloc | apply pw_below_drewN | apply below_drew1) | exact HB.out)) hb); clear HB; have HO397 := n0_; have HB := n1_; clear n0_ n1_; (try clear hb); (try clear hb2); (try clear hk); (try clear hi); (try clear ho0); obtain ⟨Ao16, co16, eo16⟩ := Kd.R_slice HO397.out; subst eo16))
          go_loopg [8, 28] kj3 (fun kq v8 v28 w' => ∃ (x8_2 : List Int) (x28_2 : Int), v28 = .int .i64 x28_2 ∧ Aside0 (impl_RoughUnits.l0 kq a2 x8_2 t395 (t395.length : Int) x28_2 = some (r1, r2)) ∧ Aside0 (kq ≤ kj3) ∧ Aside0 (Kd.R (Kd.int .i64) 2 w' w.heap.size (fun k_ => some k_ ≠ ((.slice Ao16 t395.length co16) : Value).ownBlock) v8 x8_2) ∧ Aside0 (Kd.R (Kd.int .i64) 2 w' w.heap.size (fun k_ => some k_ ≠ (v8 : Value).ownBlock) (.slice Ao16 t395.length co16) t395) ∧ Aside0 (Below w.heap.size w w'))
          case atStart => exact ⟨(([] : List Int)), (0), (by first | rfl | (simp; done) | (simp [*]; done)), H', ⟨Nat.le_refl _⟩, ⟨by first | exact Kd.R_nil _ _ _ _ _ | exact Kd.N_nil _ _ _ _ _ | exact Kd.V_nil _ _ _ _ _ | exact Kd.Q_nil _ _ _ _ _ | exact Kd.S_nil _ _ _ _ _⟩, ⟨by (with_reducible repeat (first | apply Kd.R_alloc | apply Kd.R_drewN | apply Kd.R_drew)); exact Kd.R_mono HO397.out (fun _ hk => (by simp [Value.ownBlock]))⟩, ⟨by repeat (first | (with_reducible first | exact HB.out | apply below_alloc | apply pw_below_drewN | apply below_drew1) | exact HB.out)⟩⟩
          case round =>
            clear H'
            try clear c1
            try clear p2
            try clear c3
            try clear c6
            try clear c7
            try clear c11
            try clear c13
            try clear p2
            obtain ⟨x8_2, x28_2, rfl, HA, HK2, HO_8, HO_26, HB⟩ := hrel
            cases gk with
            | zero => exact absurd HA.out (by simp [impl_RoughUnits.l0])
            | succ k2 =>
              have H := HA.out
              clear HA
              simp only [impl_RoughUnits.l0] at H
              by_cases c17 : x28_2 < (t395.length : Int)
              · rw [if_pos c17] at H
                have c17b0 : decide (x28_2 < (t395.length : Int)) = true := decide_eq_true c17
                clear c17
                by_cases c18 : 0 ≤ x28_2
                · rw [if_pos c18] at H
                  have c18b0 : decide (0 ≤ x28_2) = true := decide_eq_true c18
                  clear c18
                  by_cases c19 : x28_2 < (t395.length : Int)
                  · rw [if_pos c19] at H
                    have c19b0 : decide (x28_2 < (t395.length : Int)) = true := decide_eq_true c19
                    clear c19
                    by_cases c20 : (rd t395 x28_2) < a2
                    · rw [if_pos c20] at H
                      have c20b0 : decide ((rd t395 x28_2) < a2) = true := decide_eq_true c20
                      clear c20
                      by_cases c21 : x8_2.length < 17592186044416
                      · rw [if_pos c21] at H
                        have LMc21 := Aside0.mk c21
                        clear c21
                        obtain ⟨y399, hy399⟩ : ∃ y_ : List Int, y_ = (x8_2 ++ [x28_2]) := ⟨_, rfl⟩
                        replace H : (impl_RoughUnits.l0 k2 a2 y399 t395 (t395.length : Int) (wrap64 (x28_2 + 1))) = some (r1, r2) := by first | (rw [hy399]; with_reducible exact H) | (have H2_ := (Option.bind_some _ _).symm.trans H; rw [hy399]; with_reducible exact H2_) | (have H2_ := (Option.bind_some _ _).symm.trans H; with_reducible exact H2_) | with_reducible exact H | (rw [hy399]; exact H) | exact H
                        have Ny399 := Aside0.mk hy399
                        clear hy399
                        have H' := Aside0.mk H
                        clear H
                        have p398 : 0 ≤ (x28_2 : Int) := of_decide_eq_true (by first | (with_reducible assumption) | assumption)
                        have q398 : x28_2 < (t395.length : Int) := of_decide_eq_true (by first | (with_reducible assumption) | assumption)
                        obtain ⟨ad398, e398, hx398_0⟩ := Kd.at_int (Kd.R_reads' HO_26.out).2.2 x28_2 p398 q398
                        cases e398
                        replace p398 := eq_true p398
                        replace q398 := eq_true q398
                        go_wp2_with (first | ((with_reducible refine gate_builtin (b := .append) (xs := #[.tmp 36, .tmp 38]) rfl ?_); at_builtin; refine Kd.R_append (Kd.int .i64) (w0 := w) w.heap.size rfl (.tmp 36) (.tmp 38) 30 2 (.int .i64 0) 8 rfl Try.underlying30 info2 rfl (by decide) (by omega) u8 x8_2 x28_2 [.int .i64 x28_2] (fun k_ => some k_ ≠ (.slice (some ad398) t395.length co16 : Value).ownBlock) (fun _ => False) rfl rfl ?aP (fun _ hk => hk.elim) ?aF ?aO ?aB ?aS ?aL ?_; (case aP => exact rfl); (case aB => exact (by repeat (first | (with_reducible first | exact HB.out | apply below_alloc | apply pw_below_drewN | apply below_drew1) | exact HB.out))); (case aF => exact (fun k_ hk => Kd.fresh' (Kd.R_lt (by (with_reducible repeat (first | apply Kd.R_alloc | apply Kd.R_drewN | apply Kd.R_drew)); exact HO_26.out)) k_ hk)); (case aO => exact (by (with_reducible repeat (first | apply Kd.R_alloc | apply Kd.R_drewN | apply Kd.R_drew)); exact HO_8.out)); (case aS => exact (below_size (by repeat (first | (with_reducible first | exact HB.out | apply below_alloc | apply pw_below_drewN | apply below_drew1) | exact HB.out)))); (case aL => have := LMc21.out; omega); intro v400 w22 ho hb hg hat; rw [← Ny399.out] at ho; have n0_ := Aside0.mk (Kd.R_after (ok := (fun _ => True)) (by (with_reducible repeat (first | apply Kd.R_alloc | apply Kd.R_drewN | apply Kd.R_drew)); exact Kd.R_mono HO_26.out (fun _ hk => ⟨trivial, hk⟩)) hg hat); have n1_ := Aside0.mk (hb); have n2_ := Aside0.mk (ho); clear HO_26; clear HB; clear HO_8; have HO_26 := n0_; have HB := n1_; have HO401 := n2_; clear n0_ n1_ n2_; clear ho hb hg hat))
                        go_roundg k2
                        case measure => have := HJ3.out; have := HK2.out; omega
                        case rel => exact ⟨(y399), (wrap64 (x28_2 + 1)), (by first | rfl | (simp; done) | (simp [*]; done)), H', ⟨by have := HJ3.out; have := HK2.out; omega⟩, ⟨by (with_reducible repeat (first | apply Kd.R_alloc | apply Kd.R_drewN | apply Kd.R_drew)); exact HO401.out⟩, ⟨by (with_reducible repeat (first | apply Kd.R_alloc | apply Kd.R_drewN | apply Kd.R_drew)); exact Kd.R_mono HO_26.out (fun _ hk => hk.2)⟩, ⟨by repeat (first | (with_reducible first | exact HB.out | apply below_alloc | apply pw_below_drewN | apply below_drew1) | exact HB.out)⟩⟩
                      · rw [if_neg c21] at H
                        exact absurd H (by simp)
                    · rw [if_neg c20] at H
                      have c20b0 : decide ((rd t395 x28_2) < a2) = false := decide_eq_false c20
                      clear c20
                      have H' := Aside0.mk H
                      clear H
                      have p398 : 0 ≤ (x28_2 : Int) := of_decide_eq_true (by first | (with_reducible assumption) | assumption)
                      have q398 : x28_2 < (t395.length : Int) := of_decide_eq_true (by first | (with_reducible assumption) | assumption)
                      obtain ⟨ad398, e398, hx398_0⟩ := Kd.at_int (Kd.R_reads' HO_26.out).2.2 x28_2 p398 q398
                      cases e398
                      replace p398 := eq_true p398
                      replace q398 := eq_true q398
                      go_wp2
                      go_roundg k2
                      case measure => have := HJ3.out; have := HK2.out; omega
                      case rel => exact ⟨(x8_2), (wrap64 (x28_2 + 1)), (by first | rfl | (simp; done) | (simp [*]; done)), H', ⟨by have := HJ3.out; have := HK2.out; omega⟩, ⟨by (with_reducible repeat (first | apply Kd.R_alloc | apply Kd.R_drewN | apply Kd.R_drew)); exact HO_8.out⟩, ⟨by (with_reducible repeat (first | apply Kd.R_alloc | apply Kd.R_drewN | apply Kd.R_drew)); exact HO_26.out⟩, ⟨by repeat (first | (with_reducible first | exact HB.out | apply below_alloc | apply pw_below_drewN | apply below_drew1) | exact HB.out)⟩⟩
                  · rw [if_neg c19] at H
                    exact absurd H (by simp)
                · rw [if_neg c18] at H
                  exact absurd H (by simp)
              · rw [if_neg c17] at H
                have c17b0 : decide (x28_2 < (t395.length : Int)) = false := decide_eq_false c17
                clear c17
                by_cases c23 : (x8_2.length : Int) > 64
                · rw [if_pos c23] at H
                  have c23b0 : decide (64 < (x8_2.length : Int)) = true := decide_eq_true c23
                  have c23b1 : decide (64 < x8_2.length) = true := decide_eq_true (by omega)
                  clear c23
                  simp only [Option.some.injEq, Prod.mk.injEq] at H
                  obtain ⟨rfl, rfl⟩ := H
                  obtain ⟨Ao24, co24, eo24⟩ := Kd.R_slice HO_8.out
                  subst eo24
                  go_wp2
                  go_ret2
                  exact ⟨_, by first | rfl | (simp [errW_none, errW_some] <;> rfl) | (simp [*, errW_none, errW_some] <;> rfl), by first | exact Kd.R_nil _ _ _ _ _ | exact Kd.N_nil _ _ _ _ _ | exact Kd.V_nil _ _ _ _ _ | exact Kd.Q_nil _ _ _ _ _ | exact Kd.S_nil _ _ _ _ _, by repeat (first | (with_reducible first | exact HB.out | apply below_alloc | apply pw_below_drewN | apply below_drew1) | exact HB.out)⟩
                · rw [if_neg c23] at H
                  have c23b0 : decide (64 < (x8_2.length : Int)) = false := decide_eq_false c23
                  have c23b1 : decide (64 < x8_2.length) = false := decide_eq_false (by omega)
                  clear c23
                  simp only [Option.some.injEq, Prod.mk.injEq] at H
                  obtain ⟨rfl, rfl⟩ := H
                  obtain ⟨Ao25, co25, eo25⟩ := Kd.R_slice HO_8.out
                  subst eo25
                  go_wp2
                  go_ret2
                  exact ⟨_, by first | rfl | (simp [errW_none, errW_some] <;> rfl) | (simp [*, errW_none, errW_some] <;> rfl), by (with_reducible repeat (first | apply Kd.R_alloc | apply Kd.R_drewN | apply Kd.R_drew)); exact Kd.R_mono HO_8.out (fun _ hk => trivial), by repeat (first | (with_reducible first | exact HB.out | apply below_alloc | apply pw_below_drewN | apply below_drew1) | exact HB.out)⟩
        · replace c13 := Bool.eq_false_iff.mpr c13
          subst c13
          have H1 : (some (([] : List Int), 2)) = some (r1, r2) := by rw [if_neg (show ¬ (false = true) by decide)] at H; exact H
          clear H
          have H := H1
          clear H1
          simp only [Option.some.injEq, Prod.mk.injEq] at H
          obtain ⟨rfl, rfl⟩ := H
          go_wp2_with (first | ((with_reducible refine gate_callee (f := 63) rfl ?_); refine goesL_ (some 22) rfl rfl Try.func63 (by kernel_rfl) rfl #[.int .i64 a2, .int .i64 0, .int .i64 101] rfl (by (try simp only [List.map_toArray, List.map_cons, List.map_nil]); first | done | rfl | (simp only [List.length_drop, List.length_take]; rfl)) ?_; (with_reducible refine (impl_within.calls a2 0 101 false _ A12.out).mono ?_); rintro e w' ⟨rfl, ⟨nd, rfl⟩⟩; refine ⟨_, rfl, ?_⟩))
          go_ret2
          exact ⟨_, by first | rfl | (simp [errW_none, errW_some] <;> rfl) | (simp [*, errW_none, errW_some] <;> rfl), by first | exact Kd.R_nil _ _ _ _ _ | exact Kd.N_nil _ _ _ _ _ | exact Kd.V_nil _ _ _ _ _ | exact Kd.Q_nil _ _ _ _ _ | exact Kd.S_nil _ _ _ _ _, by repeat (first | (with_reducible first | exact HB.out | apply below_alloc | apply pw_below_drewN | apply below_drew1) | exact HB.out)⟩

end Go.Proofs.Ytlgigomahobfbaa.P
end

section
namespace Go.Proofs.Ytlgigomahobfbaa.P
open Go.RowKit Go.Proofs.YtlgigomahobfbaaW.PrintWords Go.Proofs.YtlgigomahobfbaaW.PrintLast Go.Proofs.YtlgigomahobfbaaW.PrintMore
attribute [local go_sem] max2_int min2_int max_two min_two max_three min_three max_four min_four   -- for this text's walks alone
set_option linter.unusedVariables false
set_option linter.unusedSimpArgs false

/-! ### spec_l00Max: function 144 -/
def spec_l00Max.f (a0 : Int) (a1 : Int) : Option (Int) := if a0 > a1 then (some a0) else (some a1)
set_option maxHeartbeats 8000000 in
set_option maxRecDepth 100000 in
theorem spec_l00Max.calls (a0 : Int) (a1 : Int) (r : Int) (w : World) (h : spec_l00Max.f a0 a1 = some r) :
    Calls Try.prog 144 #[.int .i64 a0, .int .i64 a1] w fun e w' => e = .returned (.int .i64 r) ∧ Drawn0 w w' := by
  have H : (if a0 > a1 then (some a0) else (some a1)) = some r := h
  clear h
  by_cases c3 : a0 > a1
  · rw [if_pos c3] at H
    have c3b0 : decide (a1 < a0) = true := decide_eq_true c3
    clear c3
    obtain rfl := Option.some.inj H
    go_enter Try.func144, Try.ntmps144
    go_wp2
    go_ret
    exact ⟨by first | rfl | (simp; done) | (simp [*]; done), by repeat (first | exact Drawn0.refl _ | apply Drawn0.step)⟩
  · rw [if_neg c3] at H
    have c3b0 : decide (a1 < a0) = false := decide_eq_false c3
    clear c3
    obtain rfl := Option.some.inj H
    go_enter Try.func144, Try.ntmps144
    go_wp2
    go_ret
    exact ⟨by first | rfl | (simp; done) | (simp [*]; done), by repeat (first | exact Drawn0.refl _ | apply Drawn0.step)⟩

end Go.Proofs.Ytlgigomahobfbaa.P
end

section
namespace Go.Proofs.Ytlgigomahobfbaa.P
open Go.RowKit Go.Proofs.YtlgigomahobfbaaW.PrintWords Go.Proofs.YtlgigomahobfbaaW.PrintLast Go.Proofs.YtlgigomahobfbaaW.PrintMore
attribute [local go_sem] max2_int min2_int max_two min_two max_three min_three max_four min_four   -- for this text's walks alone
set_option linter.unusedVariables false
set_option linter.unusedSimpArgs false

/-! ### spec_l04Abs: function 121 -/
def spec_l04Abs.f (a0 : Int) : Option (Int) := (spec_l00Max.f a0 (wrap64 (-a0))).bind fun t218 => (some t218)
set_option maxHeartbeats 8000000 in
set_option maxRecDepth 100000 in
theorem spec_l04Abs.calls (a0 : Int) (r : Int) (w : World) (h : spec_l04Abs.f a0 = some r) :
    Calls Try.prog 121 #[.int .i64 a0] w fun e w' => e = .returned (.int .i64 r) ∧ Drawn0 w w' := by
  have H : ((spec_l00Max.f a0 (wrap64 (-a0))).bind fun t218 => (some t218)) = some r := h
  clear h
  replace H := Option.bind_eq_some_iff.mp H
  obtain ⟨t218, A20, H⟩ := H
  replace H : (some t218) = some r := H
  have A2 := Aside0.mk A20
  clear A20
  obtain rfl := Option.some.inj H
  go_enter Try.func121, Try.ntmps121
  go_wp2_with (first | ((with_reducible refine gate_callee (f := 144) rfl ?_); refine goesL_ (some 6) rfl rfl Try.func144 (by kernel_rfl) rfl #[.int .i64 a0, .int .i64 (wrap64 (-a0))] rfl (by (try simp only [List.map_toArray, List.map_cons, List.map_nil]); first | done | rfl | (simp only [List.length_drop, List.length_take]; rfl)) ?_; (with_reducible refine (spec_l00Max.calls a0 (wrap64 (-a0)) t218 _ A2.out).mono ?_); rintro e w' ⟨rfl, ⟨nd, rfl⟩⟩; refine ⟨_, rfl, ?_⟩))
  go_ret
  exact ⟨by first | rfl | (simp; done) | (simp [*]; done), by repeat (first | exact Drawn0.refl _ | apply Drawn0.step)⟩

end Go.Proofs.Ytlgigomahobfbaa.P
end

section
namespace Go.Proofs.Ytlgigomahobfbaa.P
open Go.RowKit Go.Proofs.YtlgigomahobfbaaW.PrintWords Go.Proofs.YtlgigomahobfbaaW.PrintLast Go.Proofs.YtlgigomahobfbaaW.PrintMore
attribute [local go_sem] max2_int min2_int max_two min_two max_three min_three max_four min_four   -- for this text's walks alone
set_option linter.unusedVariables false
set_option linter.unusedSimpArgs false

/-! ### spec_l16Consonance: function 80 -/
def spec_l16Consonance.f (a0 : Int) (a1 : Int) : Option (Int) := (some (([100, 0, 20, 50, 60, 80, 10, 90, 45, 55, 30, 15] : List Int) : List Int)).bind fun y219 => ((spec_l04Abs.f (wrap64 (a0 - a1))).bind fun t222 => (if 0 ≤ (Int.tmod t222 12) then (if (Int.tmod t222 12) < (y219.length : Int) then (some (rd y219 (Int.tmod t222 12))) else (none)) else (none)))
set_option maxHeartbeats 8000000 in
set_option maxRecDepth 100000 in
theorem spec_l16Consonance.calls (a0 : Int) (a1 : Int) (r : Int) (w : World) (h : spec_l16Consonance.f a0 a1 = some r) :
    Calls Try.prog 80 #[.int .i64 a0, .int .i64 a1] w fun e w' => e = .returned (.int .i64 r) ∧ Below w.heap.size w w' := by
  have HB := Aside0.mk (Below.refl w.heap.size w)
  have H : ((some (([100, 0, 20, 50, 60, 80, 10, 90, 45, 55, 30, 15] : List Int) : List Int)).bind fun y219 => ((spec_l04Abs.f (wrap64 (a0 - a1))).bind fun t222 => (if 0 ≤ (Int.tmod t222 12) then (if (Int.tmod t222 12) < (y219.length : Int) then (some (rd y219 (Int.tmod t222 12))) else (none)) else (none)))) = some r := h
  clear h
  obtain ⟨y219, hy219⟩ : ∃ y_ : List Int, y_ = (([100, 0, 20, 50, 60, 80, 10, 90, 45, 55, 30, 15] : List Int)) := ⟨_, rfl⟩
  replace H : ((spec_l04Abs.f (wrap64 (a0 - a1))).bind fun t222 => (if 0 ≤ (Int.tmod t222 12) then (if (Int.tmod t222 12) < (y219.length : Int) then (some (rd y219 (Int.tmod t222 12))) else (none)) else (none))) = some r := by first | (rw [hy219]; with_reducible exact H) | (have H2_ := (Option.bind_some _ _).symm.trans H; rw [hy219]; with_reducible exact H2_) | (have H2_ := (Option.bind_some _ _).symm.trans H; with_reducible exact H2_) | with_reducible exact H | (rw [hy219]; exact H) | exact H
  have Ny219 := Aside0.mk hy219
  clear hy219
  replace H := Option.bind_eq_some_iff.mp H
  obtain ⟨t222, A30, H⟩ := H
  replace H : (if 0 ≤ (Int.tmod t222 12) then (if (Int.tmod t222 12) < (y219.length : Int) then (some (rd y219 (Int.tmod t222 12))) else (none)) else (none)) = some r := H
  have A3 := Aside0.mk A30
  clear A30
  obtain ⟨ji4, hji4⟩ : ∃ j_ : Int, (Int.tmod t222 12) = j_ := ⟨_, rfl⟩
  replace H : (if 0 ≤ (ji4) then (if (ji4) < (y219.length : Int) then (some (rd y219 (ji4))) else (none)) else (none)) = some r := by first | (rw [hji4] at H; exact H) | (simp only [hji4] at H ⊢; exact H)
  (try rw [hji4] at A3)
  by_cases c5 : 0 ≤ (ji4)
  · rw [if_pos c5] at H
    have c5b0 : decide (0 ≤ (ji4)) = true := decide_eq_true c5
    clear c5
    by_cases c6 : (ji4) < (y219.length : Int)
    · rw [if_pos c6] at H
      have c6b0 : decide ((ji4) < (y219.length : Int)) = true := decide_eq_true c6
      clear c6
      obtain rfl := Option.some.inj H
      go_enter Try.func80, Try.ntmps80
      go_wp2_with (first | ((with_reducible refine gate_dst (N := 6) rfl ?_); refine Kd.R_lit (Kd.int .i64) _ 2 ?hg (N := 6) ?hd (xs := ([100, 0, 20, 50, 60, 80, 10, 90, 45, 55, 30, 15] : List Int)) (inner := [.int .i64 100, .int .i64 0, .int .i64 20, .int .i64 50, .int .i64 60, .int .i64 80, .int .i64 10, .int .i64 90, .int .i64 45, .int .i64 55, .int .i64 30, .int .i64 15]) (ok := fun _ => True) (okp := fun _ => True) ?hr ?hp (fun _ hk => hk) trivial (Below.refl _ _) (Nat.le_refl _) (by simp) ?_; (case hd => rfl); (case hg => rfl); (case hr => first | (go_simp; done) | (go_simp; rfl)); (case hp => exact (Reps.one (show Kd.M (Kd.int .i64) _ _ _ 100 [.int .i64 100] from rfl) (Reps.one (show Kd.M (Kd.int .i64) _ _ _ 0 [.int .i64 0] from rfl) (Reps.one (show Kd.M (Kd.int .i64) _ _ _ 20 [.int .i64 20] from rfl) (Reps.one (show Kd.M (Kd.int .i64) _ _ _ 50 [.int .i64 50] from rfl) (Reps.one (show Kd.M (Kd.int .i64) _ _ _ 60 [.int .i64 60] from rfl) (Reps.one (show Kd.M (Kd.int .i64) _ _ _ 80 [.int .i64 80] from rfl) (Reps.one (show Kd.M (Kd.int .i64) _ _ _ 10 [.int .i64 10] from rfl) (Reps.one (show Kd.M (Kd.int .i64) _ _ _ 90 [.int .i64 90] from rfl) (Reps.one (show Kd.M (Kd.int .i64) _ _ _ 45 [.int .i64 45] from rfl) (Reps.one (show Kd.M (Kd.int .i64) _ _ _ 55 [.int .i64 55] from rfl) (Reps.one (show Kd.M (Kd.int .i64) _ _ _ 30 [.int .i64 30] from rfl) (Reps.one (show Kd.M (Kd.int .i64) _ _ _ 15 [.int .i64 15] from rfl) (Reps.none _ _)))))))))))))); intro v220 w7 ho8 hb hg_ hnew_; clear hg_ hnew_; (first | rw [← Ny219.out] at ho8 | (simp only [Int.reduceToNat] at ho8; rw [← Ny219.out] at ho8)); have n0_ := Aside0.mk (Kd.R_lower ho8 (below_size (by repeat (first | (with_reducible first | exact HB.out | apply below_alloc | apply pw_below_drewN | apply below_drew1) | exact HB.out)))); have n1_ := Aside0.mk (below_step (by repeat (first | (with_reducible first | exact HB.out | apply below_alloc | apply pw_below_drewN | apply below_drew1) | exact HB.out)) hb); clear HB; have HO221 := n0_; have HB := n1_; clear n0_ n1_; clear hb ho8) | ((with_reducible refine gate_callee (f := 121) rfl ?_); refine goesL_ (some 11) rfl rfl Try.func121 (by kernel_rfl) rfl #[.int .i64 (wrap64 (a0 - a1))] rfl (by (try simp only [List.map_toArray, List.map_cons, List.map_nil]); first | done | rfl | (simp only [List.length_drop, List.length_take]; rfl)) ?_; (with_reducible refine (spec_l04Abs.calls (wrap64 (a0 - a1)) t222 _ A3.out).mono ?_); rintro e w' ⟨rfl, ⟨nd, rfl⟩⟩; refine ⟨_, rfl, ?_⟩; obtain ⟨Ao9, co9, eo9⟩ := Kd.R_slice HO221.out; subst eo9; have p223 : 0 ≤ ((ji4) : Int) := of_decide_eq_true (by first | (with_reducible assumption) | assumption); have q223 : (ji4) < (y219.length : Int) := of_decide_eq_true (by first | (with_reducible assumption) | assumption); obtain ⟨ad223, e223, hx223_0⟩ := Kd.at_int (Kd.R_reads' HO221.out).2.2 (ji4) p223 q223; cases e223; replace p223 := eq_true p223; replace q223 := eq_true q223))
      go_ret
      exact ⟨by first | rfl | (simp [errW_none, errW_some] <;> rfl) | (simp only [← hji4]; first | rfl | (simp [errW_none, errW_some] <;> rfl)) | (simp [*, errW_none, errW_some] <;> rfl), by repeat (first | (with_reducible first | exact HB.out | apply below_alloc | apply pw_below_drewN | apply below_drew1) | exact HB.out)⟩
    · rw [if_neg c6] at H
      exact absurd H (by simp)
  · rw [if_neg c5] at H
    exact absurd H (by simp)

end Go.Proofs.Ytlgigomahobfbaa.P
end
