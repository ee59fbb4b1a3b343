/- Texts of this seat, merged: QLawsEqint64S, QLawsHeldint64S, QLawsMarkint64S, QLawsToint64S, LCopy, LNoteCopy, LMel, LConsR, LWithin, LIInP, LIMelOk, LIUnits, LICons, LNoteSS, LSCons, LIn, LSInP, LSUnits. -/
import Derived.Test.YtlgigomahobfbaaGBD1
import Derived.Test.YtlgigomahobfbaaGBD2
section
namespace Go.Proofs.Ytlgigomahobfbaa.P
open Go.RowKit Go.Proofs.YtlgigomahobfbaaW.PrintWords Go.Proofs.YtlgigomahobfbaaW.PrintLast Go.Proofs.YtlgigomahobfbaaW.PrintMore
attribute [local go_sem] max2_int min2_int max_two min_two max_three min_three max_four min_four   -- for this text's walks alone
set_option linter.unusedVariables false
set_option linter.unusedSimpArgs false
/-! ### laws_eqInt64S: function 23 -/
def laws_eqInt64S.l0 : Nat → List Int → List Int → Int → Option (Bool)
  | 0, _, _, _ => none
  | k + 1, x0, x1, x5 => if x5 < (x0.length : Int) then (if 0 ≤ x5 then (if x5 < (x1.length : Int) then (if (rd x0 x5) = (rd x1 x5) then (laws_eqInt64S.l0 k x0 x1 (wrap64 (x5 + 1))) else (some false)) else (none)) else (none)) else (some true)
def laws_eqInt64S.f (k : Nat) (l0 : List Int) (l1 : List Int) : Option (Bool) := if (l0.length : Int) = (l1.length : Int) then (laws_eqInt64S.l0 k l0 l1 0) else (some false)
theorem laws_eqInt64S.mono_l : ∀ k, (∀ y0 y1 y2, LeO (laws_eqInt64S.l0 k y0 y1 y2) (laws_eqInt64S.l0 (k + 1) y0 y1 y2))
  | 0 => fun _ _ _ r h => by simp [laws_eqInt64S.l0] at h
  | k + 1 => by
    have ih0 := laws_eqInt64S.mono_l k
    · intro y0 y1 y2
      unfold laws_eqInt64S.l0
      repeat' first
      | (with_reducible exact ih0 _ _ _)
      | (with_reducible exact LeO.refl _)
      | (with_reducible exact LeO.none _)
      | (with_reducible refine LeO.ite ?_ ?_)
      | (with_reducible refine LeO.bind ?_ (fun _ => ?_))
      | exact ih0 _ _ _
      | exact LeO.none _
      | refine LeO.ite ?_ ?_
      | refine LeO.bind ?_ (fun _ => ?_)
theorem laws_eqInt64S.mono : ∀ a0 a1 k, LeO (laws_eqInt64S.f k a0 a1) (laws_eqInt64S.f (k + 1) a0 a1) := by
  intro a0 a1 k
  have ih0 := laws_eqInt64S.mono_l k
  unfold laws_eqInt64S.f
  repeat' first
      | (with_reducible exact ih0 _ _ _)
      | (with_reducible exact LeO.refl _)
      | (with_reducible exact LeO.none _)
      | (with_reducible refine LeO.ite ?_ ?_)
      | (with_reducible refine LeO.bind ?_ (fun _ => ?_))
      | exact ih0 _ _ _
      | exact LeO.none _
      | refine LeO.ite ?_ ?_
      | refine LeO.bind ?_ (fun _ => ?_)
set_option maxHeartbeats 8000000 in
set_option maxRecDepth 100000 in
theorem laws_eqInt64S.calls (k : Nat) (A0 : Option Addr) (c0 : Nat) (l0 : List Int) (A1 : Option Addr) (c1 : Nat) (l1 : List Int) (r : Bool) (w : World) (hr0 : Kd.C (Kd.int .i64) w A0 l0.length l0) (hc0 : l0.length ≤ c0) (hr1 : Kd.C (Kd.int .i64) w A1 l1.length l1) (hc1 : l1.length ≤ c1) (h : laws_eqInt64S.f k l0 l1 = some r) :
    Calls Try.prog 23 #[.slice A0 l0.length c0, .slice A1 l1.length c1] w fun e w' => e = .returned (.bool r) ∧ Drawn0 w w' := by
  have HR0 := Aside0.mk hr0
  have HC0 := Aside0.mk hc0
  clear hr0 hc0
  have HR1 := Aside0.mk hr1
  have HC1 := Aside0.mk hc1
  clear hr1 hc1
  have H : (if (l0.length : Int) = (l1.length : Int) then (laws_eqInt64S.l0 k l0 l1 0) else (some false)) = some r := h
  clear h
  by_cases c3 : (l0.length : Int) = (l1.length : Int)
  · rw [if_pos c3] at H
    have c3b0 : ((l0.length : Int) == (l1.length : Int)) = true := beq_iff_eq.mpr c3
    have c3b1 : ((l0.length : Int) != (l1.length : Int)) = false := bne_eq_false_iff_eq.mpr c3
    have c3b2 : (l0.length == l1.length) = true := by first | simpa using c3 | (simp at c3 ⊢; omega)
    clear c3
    have H' := Aside0.mk H
    clear H
    go_enter Try.func23, Try.ntmps23
    go_wp2
    repeat (go_quiet (fail); try go_wp2)
    go_loopg [5] k (fun kq v5 w' => ∃ (x5_1 : Int), v5 = .int .i64 x5_1 ∧ Aside0 (laws_eqInt64S.l0 kq l0 l1 x5_1 = some r) ∧ Aside0 (kq ≤ k) ∧ Drawn0 w w')
    case atStart => exact ⟨(0), (by first | rfl | (simp; done) | (simp [*]; done)), H', ⟨Nat.le_refl _⟩, by repeat (first | exact Drawn0.refl _ | apply Drawn0.step)⟩
    case round =>
      clear H'
      try clear c1
      try clear c2
      try clear p2
      try clear c3
      try clear c3b0
      try clear c3b1
      try clear c3b2
      obtain ⟨x5_1, rfl, HA, HK1, ⟨m1, rfl⟩⟩ := hrel
      cases gk with
      | zero => exact absurd HA.out (by simp [laws_eqInt64S.l0])
      | succ k1 =>
        have H := HA.out
        clear HA
        simp only [laws_eqInt64S.l0] at H
        by_cases c4 : x5_1 < (l0.length : Int)
        · rw [if_pos c4] at H
          have c4b0 : decide (x5_1 < (l0.length : Int)) = true := decide_eq_true c4
          clear c4
          by_cases c5 : 0 ≤ x5_1
          · rw [if_pos c5] at H
            have c5b0 : decide (0 ≤ x5_1) = true := decide_eq_true c5
            clear c5
            by_cases c6 : x5_1 < (l1.length : Int)
            · rw [if_pos c6] at H
              have c6b0 : decide (x5_1 < (l1.length : Int)) = true := decide_eq_true c6
              clear c6
              by_cases c7 : (rd l0 x5_1) = (rd l1 x5_1)
              · rw [if_pos c7] at H
                have c7b0 : ((rd l0 x5_1) == (rd l1 x5_1)) = true := beq_iff_eq.mpr c7
                have c7b1 : ((rd l0 x5_1) != (rd l1 x5_1)) = false := bne_eq_false_iff_eq.mpr c7
                clear c7
                have H' := Aside0.mk H
                clear H
                have p202 : 0 ≤ (x5_1 : Int) := of_decide_eq_true (by first | (with_reducible assumption) | assumption)
                have q202 : x5_1 < (l0.length : Int) := of_decide_eq_true (by first | (with_reducible assumption) | assumption)
                obtain ⟨ad202, e202, hx202_0⟩ := Kd.at_int HR0.out x5_1 p202 q202
                cases e202
                replace p202 := eq_true p202
                replace q202 := eq_true q202
                have p203 : 0 ≤ (x5_1 : Int) := of_decide_eq_true (by first | (with_reducible assumption) | assumption)
                have q203 : x5_1 < (l1.length : Int) := of_decide_eq_true (by first | (with_reducible assumption) | assumption)
                obtain ⟨ad203, e203, hx203_0⟩ := Kd.at_int HR1.out x5_1 p203 q203
                cases e203
                replace p203 := eq_true p203
                replace q203 := eq_true q203
                go_wp2
                repeat (go_quiet (fail); try go_wp2)
                go_roundg k1
                case measure => have := HK1.out; omega
                case rel => exact ⟨(wrap64 (x5_1 + 1)), (by first | rfl | (simp; done) | (simp [*]; done)), H', ⟨by have := HK1.out; omega⟩, by repeat (first | exact Drawn0.refl _ | apply Drawn0.step)⟩
              · rw [if_neg c7] at H
                have c7b0 : ((rd l0 x5_1) == (rd l1 x5_1)) = false := beq_eq_false_iff_ne.mpr c7
                have c7b1 : ((rd l0 x5_1) != (rd l1 x5_1)) = true := bne_iff_ne.mpr c7
                obtain rfl := Option.some.inj H
                have p202 : 0 ≤ (x5_1 : Int) := of_decide_eq_true (by first | (with_reducible assumption) | assumption)
                have q202 : x5_1 < (l0.length : Int) := of_decide_eq_true (by first | (with_reducible assumption) | assumption)
                obtain ⟨ad202, e202, hx202_0⟩ := Kd.at_int HR0.out x5_1 p202 q202
                cases e202
                replace p202 := eq_true p202
                replace q202 := eq_true q202
                have p203 : 0 ≤ (x5_1 : Int) := of_decide_eq_true (by first | (with_reducible assumption) | assumption)
                have q203 : x5_1 < (l1.length : Int) := of_decide_eq_true (by first | (with_reducible assumption) | assumption)
                obtain ⟨ad203, e203, hx203_0⟩ := Kd.at_int HR1.out x5_1 p203 q203
                cases e203
                replace p203 := eq_true p203
                replace q203 := eq_true q203
                go_wp2
                repeat (go_quiet (fail); try go_wp2)
                go_ret
                exact ⟨by first | rfl | (simp; done) | (simp [*]; done), by repeat (first | exact Drawn0.refl _ | apply Drawn0.step)⟩
            · rw [if_neg c6] at H
              exact absurd H (by simp)
          · rw [if_neg c5] at H
            exact absurd H (by simp)
        · rw [if_neg c4] at H
          have c4b0 : decide (x5_1 < (l0.length : Int)) = false := decide_eq_false c4
          clear c4
          obtain rfl := Option.some.inj H
          go_wp2
          repeat (go_quiet (fail); try go_wp2)
          go_ret
          exact ⟨by first | rfl | (simp; done) | (simp [*]; done), by repeat (first | exact Drawn0.refl _ | apply Drawn0.step)⟩
  · rw [if_neg c3] at H
    have c3b0 : ((l0.length : Int) == (l1.length : Int)) = false := beq_eq_false_iff_ne.mpr c3
    have c3b1 : ((l0.length : Int) != (l1.length : Int)) = true := bne_iff_ne.mpr c3
    have c3b2 : (l0.length == l1.length) = false := by first | simpa using c3 | (simp at c3 ⊢; omega)
    obtain rfl := Option.some.inj H
    go_enter Try.func23, Try.ntmps23
    go_wp2
    repeat (go_quiet (fail); try go_wp2)
    go_ret
    exact ⟨by first | rfl | (simp; done) | (simp [*]; done), by repeat (first | exact Drawn0.refl _ | apply Drawn0.step)⟩
/-! ### laws_heldInt64S: function 34 -/
def laws_heldInt64S.l0 : Nat → List Int → Int → Int → Option (Int)
  | 0, _, _, _ => none
  | k + 1, x0, x1, x5 => if x5 < (x0.length : Int) then (if 0 ≤ x5 then (if (rd x0 x5) = x1 then (laws_heldInt64S.l0 k x0 (wrap64 (x1 + 1)) (wrap64 (x5 + 1))) else (some (-1))) else (none)) else (some x1)
def laws_heldInt64S.f (k : Nat) (l0 : List Int) (a1 : Int) : Option (Int) := laws_heldInt64S.l0 k l0 a1 0
theorem laws_heldInt64S.mono_l : ∀ k, (∀ y0 y1 y2, LeO (laws_heldInt64S.l0 k y0 y1 y2) (laws_heldInt64S.l0 (k + 1) y0 y1 y2))
  | 0 => fun _ _ _ r h => by simp [laws_heldInt64S.l0] at h
  | k + 1 => by
    have ih0 := laws_heldInt64S.mono_l k
    · intro y0 y1 y2
      unfold laws_heldInt64S.l0
      repeat' first
      | (with_reducible exact ih0 _ _ _)
      | (with_reducible exact LeO.refl _)
      | (with_reducible exact LeO.none _)
      | (with_reducible refine LeO.ite ?_ ?_)
      | (with_reducible refine LeO.bind ?_ (fun _ => ?_))
      | exact ih0 _ _ _
      | exact LeO.none _
      | refine LeO.ite ?_ ?_
      | refine LeO.bind ?_ (fun _ => ?_)
theorem laws_heldInt64S.mono : ∀ a0 a1 k, LeO (laws_heldInt64S.f k a0 a1) (laws_heldInt64S.f (k + 1) a0 a1) := by
  intro a0 a1 k
  have ih0 := laws_heldInt64S.mono_l k
  unfold laws_heldInt64S.f
  repeat' first
      | (with_reducible exact ih0 _ _ _)
      | (with_reducible exact LeO.refl _)
      | (with_reducible exact LeO.none _)
      | (with_reducible refine LeO.ite ?_ ?_)
      | (with_reducible refine LeO.bind ?_ (fun _ => ?_))
      | exact ih0 _ _ _
      | exact LeO.none _
      | refine LeO.ite ?_ ?_
      | refine LeO.bind ?_ (fun _ => ?_)
set_option maxHeartbeats 8000000 in
set_option maxRecDepth 100000 in
theorem laws_heldInt64S.calls (k : Nat) (A0 : Option Addr) (c0 : Nat) (l0 : List Int) (a1 : Int) (r : Int) (w : World) (hr0 : Kd.C (Kd.int .i64) w A0 l0.length l0) (hc0 : l0.length ≤ c0) (h : laws_heldInt64S.f k l0 a1 = some r) :
    Calls Try.prog 34 #[.slice A0 l0.length c0, .int .i64 a1] w fun e w' => e = .returned (.int .i64 r) ∧ Drawn0 w w' := by
  have HR0 := Aside0.mk hr0
  have HC0 := Aside0.mk hc0
  clear hr0 hc0
  have H : (laws_heldInt64S.l0 k l0 a1 0) = some r := h
  clear h
  have H' := Aside0.mk H
  clear H
  go_enter Try.func34, Try.ntmps34
  go_wp2
  go_loopg [1, 5] k (fun kq v1 v5 w' => ∃ (x1_1 : Int) (x5_1 : Int), v1 = .int .i64 x1_1 ∧ v5 = .int .i64 x5_1 ∧ Aside0 (laws_heldInt64S.l0 kq l0 x1_1 x5_1 = some r) ∧ Aside0 (kq ≤ k) ∧ Drawn0 w w')
  case atStart => exact ⟨(a1), (0), (by first | rfl | (simp; done) | (simp [*]; done)), (by first | rfl | (simp; done) | (simp [*]; done)), H', ⟨Nat.le_refl _⟩, by repeat (first | exact Drawn0.refl _ | apply Drawn0.step)⟩
  case round =>
    clear H'
    try clear p2
    obtain ⟨x1_1, x5_1, rfl, rfl, HA, HK1, ⟨m1, rfl⟩⟩ := hrel
    cases gk with
    | zero => exact absurd HA.out (by simp [laws_heldInt64S.l0])
    | succ k1 =>
      have H := HA.out
      clear HA
      simp only [laws_heldInt64S.l0] at H
      by_cases c3 : x5_1 < (l0.length : Int)
      · rw [if_pos c3] at H
        have c3b0 : decide (x5_1 < (l0.length : Int)) = true := decide_eq_true c3
        clear c3
        by_cases c4 : 0 ≤ x5_1
        · rw [if_pos c4] at H
          have c4b0 : decide (0 ≤ x5_1) = true := decide_eq_true c4
          clear c4
          by_cases c5 : (rd l0 x5_1) = x1_1
          · rw [if_pos c5] at H
            have c5b0 : ((rd l0 x5_1) == x1_1) = true := beq_iff_eq.mpr c5
            have c5b1 : ((rd l0 x5_1) != x1_1) = false := bne_eq_false_iff_eq.mpr c5
            clear c5
            have H' := Aside0.mk H
            clear H
            have p405 : 0 ≤ (x5_1 : Int) := of_decide_eq_true (by first | (with_reducible assumption) | assumption)
            have q405 : x5_1 < (l0.length : Int) := of_decide_eq_true (by first | (with_reducible assumption) | assumption)
            obtain ⟨ad405, e405, hx405_0⟩ := Kd.at_int HR0.out x5_1 p405 q405
            cases e405
            replace p405 := eq_true p405
            replace q405 := eq_true q405
            go_wp2
            go_roundg k1
            case measure => have := HK1.out; omega
            case rel => exact ⟨(wrap64 (x1_1 + 1)), (wrap64 (x5_1 + 1)), (by first | rfl | (simp; done) | (simp [*]; done)), (by first | rfl | (simp; done) | (simp [*]; done)), H', ⟨by have := HK1.out; omega⟩, by repeat (first | exact Drawn0.refl _ | apply Drawn0.step)⟩
          · rw [if_neg c5] at H
            have c5b0 : ((rd l0 x5_1) == x1_1) = false := beq_eq_false_iff_ne.mpr c5
            have c5b1 : ((rd l0 x5_1) != x1_1) = true := bne_iff_ne.mpr c5
            obtain rfl := Option.some.inj H
            have p405 : 0 ≤ (x5_1 : Int) := of_decide_eq_true (by first | (with_reducible assumption) | assumption)
            have q405 : x5_1 < (l0.length : Int) := of_decide_eq_true (by first | (with_reducible assumption) | assumption)
            obtain ⟨ad405, e405, hx405_0⟩ := Kd.at_int HR0.out x5_1 p405 q405
            cases e405
            replace p405 := eq_true p405
            replace q405 := eq_true q405
            go_wp2
            go_ret
            exact ⟨by first | rfl | (simp; done) | (simp [*]; done), by repeat (first | exact Drawn0.refl _ | apply Drawn0.step)⟩
        · rw [if_neg c4] at H
          exact absurd H (by simp)
      · rw [if_neg c3] at H
        have c3b0 : decide (x5_1 < (l0.length : Int)) = false := decide_eq_false c3
        clear c3
        obtain rfl := Option.some.inj H
        go_wp2
        go_ret
        exact ⟨by first | rfl | (simp; done) | (simp [*]; done), by repeat (first | exact Drawn0.refl _ | apply Drawn0.step)⟩
/-! ### laws_markInt64S: function 33 -/
def laws_markInt64S.l0 : Nat → List Int → Int → Int → Option (Int × List Int)
  | 0, _, _, _ => none
  | k + 1, x0, x1, x5 => if x5 < (x0.length : Int) then (if 0 ≤ x5 then (laws_markInt64S.l0 k (x0.set (x5 : Int).toNat x1) (wrap64 (x1 + 1)) (wrap64 (x5 + 1))) else (none)) else (some (x1, x0))
def laws_markInt64S.f (k : Nat) (l0 : List Int) (a1 : Int) : Option (Int × List Int) := laws_markInt64S.l0 k l0 a1 0
theorem laws_markInt64S.mono_l : ∀ k, (∀ y0 y1 y2, LeO (laws_markInt64S.l0 k y0 y1 y2) (laws_markInt64S.l0 (k + 1) y0 y1 y2))
  | 0 => fun _ _ _ r h => by simp [laws_markInt64S.l0] at h
  | k + 1 => by
    have ih0 := laws_markInt64S.mono_l k
    · intro y0 y1 y2
      unfold laws_markInt64S.l0
      repeat' first
      | (with_reducible exact ih0 _ _ _)
      | (with_reducible exact LeO.refl _)
      | (with_reducible exact LeO.none _)
      | (with_reducible refine LeO.ite ?_ ?_)
      | (with_reducible refine LeO.bind ?_ (fun _ => ?_))
      | exact ih0 _ _ _
      | exact LeO.none _
      | refine LeO.ite ?_ ?_
      | refine LeO.bind ?_ (fun _ => ?_)
theorem laws_markInt64S.mono : ∀ a0 a1 k, LeO (laws_markInt64S.f k a0 a1) (laws_markInt64S.f (k + 1) a0 a1) := by
  intro a0 a1 k
  have ih0 := laws_markInt64S.mono_l k
  unfold laws_markInt64S.f
  repeat' first
      | (with_reducible exact ih0 _ _ _)
      | (with_reducible exact LeO.refl _)
      | (with_reducible exact LeO.none _)
      | (with_reducible refine LeO.ite ?_ ?_)
      | (with_reducible refine LeO.bind ?_ (fun _ => ?_))
      | exact ih0 _ _ _
      | exact LeO.none _
      | refine LeO.ite ?_ ?_
      | refine LeO.bind ?_ (fun _ => ?_)
set_option maxHeartbeats 8000000 in
set_option maxRecDepth 100000 in
theorem laws_markInt64S.calls (k : Nat) (P0_ : Nat → Prop) (u9000_ : Value) (l0 : List Int) (a1 : Int) (r1 : Int) (r2 : List Int) (w0 w : World) (hB : Below w0.heap.size w0 w) (ho0 : Kd.R (Kd.int .i64) 2 w w0.heap.size P0_ u9000_ l0) (h : laws_markInt64S.f k l0 a1 = some (r1, r2)) :
    Calls Try.prog 33 #[u9000_, .int .i64 a1] w fun e w' => e = .returned (.int .i64 r1) ∧ Kd.R (Kd.int .i64) 2 w' w0.heap.size (fun k_ => (P0_ k_ ∨ w.heap.size ≤ k_)) u9000_ r2 ∧ Below w0.heap.size w0 w' ∧ Kept w w' (fun k_ => P0_ k_) := by
  have HO0 := Aside0.mk (show Kd.R (Kd.int .i64) 2 w w0.heap.size (fun k_ => (P0_ k_ ∨ w.heap.size ≤ k_)) u9000_ l0 from Kd.R_mono ho0 (fun k_ hk => (.inl hk)))
  have HK := Aside0.mk (Kept.refl w (fun k_ => P0_ k_))
  have HW0 := Aside0.mk hB.size
  have HB := Aside0.mk hB
  clear hB
  have H : (laws_markInt64S.l0 k l0 a1 0) = some (r1, r2) := h
  clear h
  have H' := Aside0.mk H
  clear H
  go_enter Try.func33, Try.ntmps33
  go_wp2
  go_loopg [1, 5] k (fun kq v1 v5 w' => ∃ (x0_1 : List Int) (x1_1 : Int) (x5_1 : Int), v1 = .int .i64 x1_1 ∧ v5 = .int .i64 x5_1 ∧ Aside0 (laws_markInt64S.l0 kq x0_1 x1_1 x5_1 = some (r1, r2)) ∧ Aside0 (kq ≤ k) ∧ Aside0 (Kd.R (Kd.int .i64) 2 w' w0.heap.size (fun k_ => (P0_ k_ ∨ w.heap.size ≤ k_)) u9000_ x0_1) ∧ Aside0 (Kept w w' (fun k_ => P0_ k_)) ∧ Aside0 (Below w0.heap.size w0 w'))
  case atStart => exact ⟨(l0), (a1), (0), (by first | rfl | (simp; done) | (simp [*]; done)), (by first | rfl | (simp; done) | (simp [*]; done)), H', ⟨Nat.le_refl _⟩, ⟨by (with_reducible repeat (first | apply Kd.R_alloc | apply Kd.R_drewN | apply Kd.R_drew)); exact HO0.out⟩, ⟨by repeat (first | (with_reducible first | exact HK.out | apply Kept.alloc | apply Kept.drewN | apply Kept.drew) | exact HK.out)⟩, ⟨by repeat (first | (with_reducible first | exact HB.out | apply below_alloc | apply pw_below_drewN | apply below_drew1) | exact HB.out)⟩⟩
  case round =>
    clear H'
    try clear p2
    obtain ⟨x0_1, x1_1, x5_1, rfl, rfl, HA, HK1, HO_0, HK, HB⟩ := hrel
    cases gk with
    | zero => exact absurd HA.out (by simp [laws_markInt64S.l0])
    | succ k1 =>
      have H := HA.out
      clear HA
      simp only [laws_markInt64S.l0] at H
      by_cases c3 : x5_1 < (x0_1.length : Int)
      · rw [if_pos c3] at H
        have c3b0 : decide (x5_1 < (x0_1.length : Int)) = true := decide_eq_true c3
        clear c3
        by_cases c4 : 0 ≤ x5_1
        · rw [if_pos c4] at H
          have c4b0 : decide (0 ≤ x5_1) = true := decide_eq_true c4
          clear c4
          obtain ⟨y404, hy404⟩ : ∃ y_ : List Int, y_ = (x0_1.set (x5_1 : Int).toNat x1_1) := ⟨_, rfl⟩
          replace H : (laws_markInt64S.l0 k1 y404 (wrap64 (x1_1 + 1)) (wrap64 (x5_1 + 1))) = some (r1, r2) := by first | (rw [hy404]; with_reducible exact H) | (have H2_ := (Option.bind_some _ _).symm.trans H; rw [hy404]; with_reducible exact H2_) | (have H2_ := (Option.bind_some _ _).symm.trans H; with_reducible exact H2_) | with_reducible exact H | (rw [hy404]; exact H) | exact H
          have Ny404 := Aside0.mk hy404
          clear hy404
          have H' := Aside0.mk H
          clear H
          obtain ⟨Ao6, co6, eo6⟩ := Kd.R_slice HO_0.out
          subst eo6
          have p5 : 0 ≤ (x5_1 : Int) := of_decide_eq_true (by first | (with_reducible assumption) | assumption)
          have q5 : (x5_1 : Int) < ((x0_1.length : Int) : Int) := of_decide_eq_true (by first | (with_reducible assumption) | assumption)
          obtain ⟨go5, co5, eo5, gb5, gl5, cl5, HG5⟩ := Kd.R_form HO_0.out (by omega)
          (first | cases eo5 | (injection eo5 with ea_ en_ ec_; (first | subst ea_ | (injection ea_ with ea_; subst ea_)); subst ec_; clear en_))
          have GB5 := Aside0.mk gb5
          have GG5 := Aside0.mk HG5
          clear gb5 gl5 HG5
          have HMgo5 := Aside0.mk (show (P0_ go5 ∨ w.heap.size ≤ go5) from (HO_0.out.1 _ rfl))
          obtain ⟨hx5_0, hf5_0⟩ := Kd.R_celln 0 HO_0.out (x5_1 : Int) p5 q5
          replace p5 := eq_true p5
          replace q5 := eq_true q5
          have HP7 := Kd.R_putg HO_0.out (x5_1 : Int) x1_1
          go_wp2_with (first | ((with_reducible refine gate_store (t := 2) (p := 15) rfl ?_); refine store_event (t := 2) (p := 15) (v := ?vo_w8) (w1 := (wr.setCell ⟨go5, (x5_1 : Int).toNat, none⟩ (.int .i64 x1_1))) ?hg ?ho ?hn ?hr ?_; (case ho => rfl); (case hg => rfl); (case hn => rfl); (case hr => first | (go_simp; done) | (go_simp; rfl)); intro w8 hw; have hg : wr.grownBy w8 (some go5) := (by rw [hw]; exact HP7.2); have hp_ : Kd.R (Kd.int .i64) 2 w8 w0.heap.size (fun k_ => (P0_ k_ ∨ w.heap.size ≤ k_)) (.slice (some ⟨go5, 0, none⟩) x0_1.length co6) y404 := (by rw [hw, Ny404.out]; exact HP7.1); clear HP7; have n0_ := Aside0.mk (hp_); have n1_ := Aside0.mk ((by rw [hw]; exact below_set (HB.out) GB5.out : Below w0.heap.size w0 w8)); have n2_ := Aside0.mk (Kept.of_grown (S := (fun k_ => P0_ k_)) hg (by repeat (first | (with_reducible first | exact HK.out | apply Kept.alloc | apply Kept.drewN | apply Kept.drew) | exact HK.out)) (fun k_ e_ => (HO_0.out.1 k_ e_))); clear HO_0; clear HB; clear HK; have HO_0 := n0_; have HB := n1_; have HK := n2_; clear n0_ n1_ n2_; clear hg hw hp_))
          go_roundg k1
          case measure => have := HK1.out; omega
          case rel => exact ⟨(y404), (wrap64 (x1_1 + 1)), (wrap64 (x5_1 + 1)), (by first | rfl | (simp; done) | (simp [*]; done)), (by first | rfl | (simp; done) | (simp [*]; done)), H', ⟨by have := HK1.out; omega⟩, ⟨by (with_reducible repeat (first | apply Kd.R_alloc | apply Kd.R_drewN | apply Kd.R_drew)); exact HO_0.out⟩, ⟨by repeat (first | (with_reducible first | exact HK.out | apply Kept.alloc | apply Kept.drewN | apply Kept.drew) | exact HK.out)⟩, ⟨by repeat (first | (with_reducible first | exact HB.out | apply below_alloc | apply pw_below_drewN | apply below_drew1) | exact HB.out)⟩⟩
        · rw [if_neg c4] at H
          exact absurd H (by simp)
      · rw [if_neg c3] at H
        have c3b0 : decide (x5_1 < (x0_1.length : Int)) = false := decide_eq_false c3
        clear c3
        simp only [Option.some.injEq, Prod.mk.injEq] at H
        obtain ⟨rfl, rfl⟩ := H
        obtain ⟨Ao9, co9, eo9⟩ := Kd.R_slice HO_0.out
        subst eo9
        go_wp2
        go_ret
        exact ⟨by first | rfl | (simp [errW_none, errW_some] <;> rfl) | (simp [*, errW_none, errW_some] <;> rfl), by (with_reducible repeat (first | apply Kd.R_alloc | apply Kd.R_drewN | apply Kd.R_drew)); exact HO_0.out, by repeat (first | (with_reducible first | exact HB.out | apply below_alloc | apply pw_below_drewN | apply below_drew1) | exact HB.out), by repeat (first | (with_reducible first | exact HK.out | apply Kept.alloc | apply Kept.drewN | apply Kept.drew) | exact HK.out)⟩
/-! ### laws_toInt64S: function 21 -/
def laws_toInt64S.l0 : Nat → List Int → List Int → Int → Option (List Int)
  | 0, _, _, _ => none
  | k + 1, x0, x3, x4 => if x4 < (x0.length : Int) then (if 0 ≤ x4 then (if x4 < (x3.length : Int) then (laws_toInt64S.l0 k x0 (x3.set (x4 : Int).toNat (rd x0 x4)) (wrap64 (x4 + 1))) else (none)) else (none)) else (some x3)
def laws_toInt64S.f (k : Nat) (l0 : List Int) : Option (List Int) := if 0 ≤ (l0.length : Int) then (if ((l0.length : Int) : Int).toNat ≤ 35184372088832 then (laws_toInt64S.l0 k l0 (List.replicate ((l0.length : Int) : Int).toNat 0) 0) else (none)) else (none)
theorem laws_toInt64S.mono_l : ∀ k, (∀ y0 y1 y2, LeO (laws_toInt64S.l0 k y0 y1 y2) (laws_toInt64S.l0 (k + 1) y0 y1 y2))
  | 0 => fun _ _ _ r h => by simp [laws_toInt64S.l0] at h
  | k + 1 => by
    have ih0 := laws_toInt64S.mono_l k
    · intro y0 y1 y2
      unfold laws_toInt64S.l0
      repeat' first
      | (with_reducible exact ih0 _ _ _)
      | (with_reducible exact LeO.refl _)
      | (with_reducible exact LeO.none _)
      | (with_reducible refine LeO.ite ?_ ?_)
      | (with_reducible refine LeO.bind ?_ (fun _ => ?_))
      | exact ih0 _ _ _
      | exact LeO.none _
      | refine LeO.ite ?_ ?_
      | refine LeO.bind ?_ (fun _ => ?_)
theorem laws_toInt64S.mono : ∀ a0 k, LeO (laws_toInt64S.f k a0) (laws_toInt64S.f (k + 1) a0) := by
  intro a0 k
  have ih0 := laws_toInt64S.mono_l k
  unfold laws_toInt64S.f
  repeat' first
      | (with_reducible exact ih0 _ _ _)
      | (with_reducible exact LeO.refl _)
      | (with_reducible exact LeO.none _)
      | (with_reducible refine LeO.ite ?_ ?_)
      | (with_reducible refine LeO.bind ?_ (fun _ => ?_))
      | exact ih0 _ _ _
      | exact LeO.none _
      | refine LeO.ite ?_ ?_
      | refine LeO.bind ?_ (fun _ => ?_)
set_option maxHeartbeats 8000000 in
set_option maxRecDepth 100000 in
theorem laws_toInt64S.calls (k : Nat) (A0 : Option Addr) (c0 : Nat) (l0 : List Int) (r : List Int) (w : World) (hr0 : Kd.C (Kd.int .i64) w A0 l0.length l0) (hc0 : l0.length ≤ c0) (h : laws_toInt64S.f k l0 = some r) :
    Calls Try.prog 21 #[.slice A0 l0.length c0] w fun e w' => ∃ v0_ : Value, e = .returned (v0_) ∧ Kd.R (Kd.int .i64) 2 w' w.heap.size (fun _ => True) v0_ r ∧ Below w.heap.size w w' := by
  have HR0 := Aside0.mk hr0
  have HC0 := Aside0.mk hc0
  clear hr0 hc0
  have HB := Aside0.mk (Below.refl w.heap.size w)
  have H : (if 0 ≤ (l0.length : Int) then (if ((l0.length : Int) : Int).toNat ≤ 35184372088832 then (laws_toInt64S.l0 k l0 (List.replicate ((l0.length : Int) : Int).toNat 0) 0) else (none)) else (none)) = some r := h
  clear h
  by_cases c2 : 0 ≤ (l0.length : Int)
  · rw [if_pos c2] at H
    have c2b0 := eq_true c2
    have c2b1 : decide (0 ≤ (l0.length : Int)) = true := decide_eq_true c2
    clear c2
    by_cases c3 : ((l0.length : Int) : Int).toNat ≤ 35184372088832
    · rw [if_pos c3] at H
      have c3b0 := eq_true c3
      have c3b1 : decide (((l0.length : Int) : Int).toNat ≤ 35184372088832) = true := decide_eq_true c3
      clear c3
      obtain ⟨y184, hy184⟩ : ∃ y_ : List Int, y_ = (List.replicate ((l0.length : Int) : Int).toNat 0) := ⟨_, rfl⟩
      replace H : (laws_toInt64S.l0 k l0 y184 0) = some r := by first | (rw [hy184]; with_reducible exact H) | (have H2_ := (Option.bind_some _ _).symm.trans H; rw [hy184]; with_reducible exact H2_) | (have H2_ := (Option.bind_some _ _).symm.trans H; with_reducible exact H2_) | with_reducible exact H | (rw [hy184]; exact H) | exact H
      have Ny184 := Aside0.mk hy184
      clear hy184
      have H' := Aside0.mk H
      clear H
      go_enter Try.func21, Try.ntmps21
      go_wp2_with (first | ((with_reducible refine gate_dst (N := 7) rfl ?_); refine Kd.R_make (Kd.int .i64) _ 2 rfl (N := 7) rfl 30 _ _ rfl (l0.length : Int) rfl rfl Try.underlying30 (.int .i64 0) 8 info2 rfl (by decide) (by omega) 0 (ok := fun _ => True) (okp := fun _ => True) rfl (fun _ hk => hk) trivial (of_decide_eq_true (by first | (with_reducible assumption) | assumption)) (Nat.le_trans (Nat.mul_le_mul_right _ (of_decide_eq_true (by first | (with_reducible assumption) | assumption) : (l0.length : Int).toNat ≤ 35184372088832)) (by omega)) (Below.refl _ _) (Nat.le_refl _) ?_; intro v185 w4 ho5 hb hg_ hnew_; clear hg_ hnew_; (first | rw [← Ny184.out] at ho5 | (simp only [Int.reduceToNat] at ho5; rw [← Ny184.out] at ho5)); have n0_ := Aside0.mk (Kd.R_lower ho5 (below_size (by repeat (first | (with_reducible first | exact HB.out | apply below_alloc | apply pw_below_drewN | apply below_drew1) | exact HB.out)))); have n1_ := Aside0.mk (below_step (by repeat (first | (with_reducible first | exact HB.out | apply below_alloc | apply pw_below_drewN | apply below_drew1) | exact HB.out)) hb); clear HB; have HO186 := n0_; have HB := n1_; clear n0_ n1_; clear hb ho5))
      go_loopg [4] k (fun kq v4 w' => ∃ (x3_1 : List Int) (x4_1 : Int), v4 = .int .i64 x4_1 ∧ Aside0 (laws_toInt64S.l0 kq l0 x3_1 x4_1 = some r) ∧ Aside0 (kq ≤ k) ∧ Aside0 (Kd.R (Kd.int .i64) 2 w' w.heap.size (fun _ => True) v185 x3_1) ∧ Aside0 (Below w.heap.size w w'))
      case atStart => exact ⟨(y184), (0), (by first | rfl | (simp; done) | (simp [*]; done)), H', ⟨Nat.le_refl _⟩, ⟨by (with_reducible repeat (first | apply Kd.R_alloc | apply Kd.R_drewN | apply Kd.R_drew)); exact HO186.out⟩, ⟨by repeat (first | (with_reducible first | exact HB.out | apply below_alloc | apply pw_below_drewN | apply below_drew1) | exact HB.out)⟩⟩
      case round =>
        clear H'
        try clear c2
        try clear c2b0
        try clear c2b1
        try clear p2
        try clear c3
        try clear c3b0
        try clear c3b1
        obtain ⟨x3_1, x4_1, rfl, HA, HK1, HO_3, HB⟩ := hrel
        cases gk with
        | zero => exact absurd HA.out (by simp [laws_toInt64S.l0])
        | succ k1 =>
          have H := HA.out
          clear HA
          simp only [laws_toInt64S.l0] at H
          by_cases c6 : x4_1 < (l0.length : Int)
          · rw [if_pos c6] at H
            have c6b0 : decide (x4_1 < (l0.length : Int)) = true := decide_eq_true c6
            clear c6
            by_cases c7 : 0 ≤ x4_1
            · rw [if_pos c7] at H
              have c7b0 : decide (0 ≤ x4_1) = true := decide_eq_true c7
              clear c7
              by_cases c8 : x4_1 < (x3_1.length : Int)
              · rw [if_pos c8] at H
                have c8b0 : decide (x4_1 < (x3_1.length : Int)) = true := decide_eq_true c8
                clear c8
                obtain ⟨y188, hy188⟩ : ∃ y_ : List Int, y_ = (x3_1.set (x4_1 : Int).toNat (rd l0 x4_1)) := ⟨_, rfl⟩
                replace H : (laws_toInt64S.l0 k1 l0 y188 (wrap64 (x4_1 + 1))) = some r := by first | (rw [hy188]; with_reducible exact H) | (have H2_ := (Option.bind_some _ _).symm.trans H; rw [hy188]; with_reducible exact H2_) | (have H2_ := (Option.bind_some _ _).symm.trans H; with_reducible exact H2_) | with_reducible exact H | (rw [hy188]; exact H) | exact H
                have Ny188 := Aside0.mk hy188
                clear hy188
                have H' := Aside0.mk H
                clear H
                have p187 : 0 ≤ (x4_1 : Int) := of_decide_eq_true (by first | (with_reducible assumption) | assumption)
                have q187 : x4_1 < (l0.length : Int) := of_decide_eq_true (by first | (with_reducible assumption) | assumption)
                obtain ⟨ad187, e187, hx187_0⟩ := Kd.at_int HR0.out x4_1 p187 q187
                cases e187
                replace hx187_0 := (HB.out.cell (World.block_lt_of_cell? w _ hx187_0)).trans hx187_0
                replace p187 := eq_true p187
                replace q187 := eq_true q187
                have p9 : 0 ≤ (x4_1 : Int) := of_decide_eq_true (by first | (with_reducible assumption) | assumption)
                have q9 : (x4_1 : Int) < ((x3_1.length : Int) : Int) := of_decide_eq_true (by first | (with_reducible assumption) | assumption)
                obtain ⟨go9, co9, eo9, gb9, gl9, cl9, HG9⟩ := Kd.R_form HO_3.out (by omega)
                (first | cases eo9 | (injection eo9 with ea_ en_ ec_; (first | subst ea_ | (injection ea_ with ea_; subst ea_)); subst ec_; clear en_))
                have GB9 := Aside0.mk gb9
                have GG9 := Aside0.mk HG9
                clear gb9 gl9 HG9
                obtain ⟨hx9_0, hf9_0⟩ := Kd.R_celln 0 HO_3.out (x4_1 : Int) p9 q9
                replace p9 := eq_true p9
                replace q9 := eq_true q9
                have HP10 := Kd.R_putg HO_3.out (x4_1 : Int) (rd l0 x4_1)
                go_wp2_with (first | ((with_reducible refine gate_store (t := 2) (p := 20) rfl ?_); refine store_event (t := 2) (p := 20) (v := ?vo_w11) (w1 := (wr.setCell ⟨go9, (x4_1 : Int).toNat, none⟩ (.int .i64 (rd l0 x4_1)))) ?hg ?ho ?hn ?hr ?_; (case ho => rfl); (case hg => rfl); (case hn => rfl); (case hr => first | (go_simp; done) | (go_simp; rfl)); intro w11 hw; have hg : wr.grownBy w11 (some go9) := (by rw [hw]; exact HP10.2); have hp_ : Kd.R (Kd.int .i64) 2 w11 w.heap.size (fun _ => True) (.slice (some ⟨go9, 0, none⟩) x3_1.length co9) y188 := (by rw [hw, Ny188.out]; exact HP10.1); clear HP10; have n0_ := Aside0.mk (hp_); have n1_ := Aside0.mk ((by rw [hw]; exact below_set (HB.out) GB9.out : Below w.heap.size w w11)); clear HO_3; clear HB; have HO_3 := n0_; have HB := n1_; clear n0_ n1_; clear hg hw hp_))
                go_roundg k1
                case measure => have := HK1.out; omega
                case rel => exact ⟨(y188), (wrap64 (x4_1 + 1)), (by first | rfl | (simp; done) | (simp [*]; done)), H', ⟨by have := HK1.out; omega⟩, ⟨by (with_reducible repeat (first | apply Kd.R_alloc | apply Kd.R_drewN | apply Kd.R_drew)); exact HO_3.out⟩, ⟨by repeat (first | (with_reducible first | exact HB.out | apply below_alloc | apply pw_below_drewN | apply below_drew1) | exact HB.out)⟩⟩
              · rw [if_neg c8] at H
                exact absurd H (by simp)
            · rw [if_neg c7] at H
              exact absurd H (by simp)
          · rw [if_neg c6] at H
            have c6b0 : decide (x4_1 < (l0.length : Int)) = false := decide_eq_false c6
            clear c6
            obtain rfl := Option.some.inj H
            go_wp2
            go_ret
            exact ⟨_, by first | rfl | (simp [errW_none, errW_some] <;> rfl) | (simp [*, errW_none, errW_some] <;> rfl), by (with_reducible repeat (first | apply Kd.R_alloc | apply Kd.R_drewN | apply Kd.R_drew)); exact HO_3.out, by repeat (first | (with_reducible first | exact HB.out | apply below_alloc | apply pw_below_drewN | apply below_drew1) | exact HB.out)⟩
    · rw [if_neg c3] at H
      exact absurd H (by simp)
  · rw [if_neg c2] at H
    exact absurd H (by simp)
end Go.Proofs.Ytlgigomahobfbaa.P
end

section
namespace Go.Proofs.Ytlgigomahobfbaa.P
open Go.RowKit Go.Proofs.Ytlgigomahobfbaa.P Go.Proofs.YtlgigomahobfbaaW.PrintWords Go.Proofs.YtlgigomahobfbaaW.PrintLast Go.Proofs.YtlgigomahobfbaaW.PrintMore
set_option linter.unusedVariables false
set_option linter.unusedSimpArgs false
theorem set_at {l : List Int} {i : Nat} {v : Int} {m : List Int} (h : i < l.length) (e : l.take i = m) : (l.set i v).take (i + 1) = m ++ [v] := by
  rw [List.take_succ_eq_append_getElem (by simpa using h)]
  simp [List.take_set_of_le, e]
theorem rd_at {l : List Int} {i : Nat} (h : i < l.length) : rd l (i : Int) = l[i] := by simp [rd, h]

theorem toInt64S_l0 (l : List Int) (hl : l.length ≤ 9223372036854775807) : ∀ (d i : Nat) (m : List Int), l.length - i = d → i ≤ l.length → m.length = l.length → m.take i = l.take i → Ev (fun k => laws_toInt64S.l0 k l m i) l := by
  intro d
  induction d with
  | zero =>
    intro i m hd hi hm ht
    have : i = l.length := by omega
    subst this
    refine Ev.succ ?_
    simp only [laws_toInt64S.l0]
    refine Ev.ite_neg (by omega) ?_
    rw [List.take_of_length_le (by omega), List.take_of_length_le (Nat.le_refl _)] at ht
    rw [ht]
    exact Ev.now _
  | succ d ih =>
    intro i m hd hi hm ht
    refine Ev.succ ?_
    simp only [laws_toInt64S.l0]
    refine Ev.ite_pos (by omega) ?_
    refine Ev.ite_pos (by omega) ?_
    refine Ev.ite_pos (by omega) ?_
    rw [w64 (x := (i : Int) + 1) (by omega) (by omega), rd_at (show i < l.length by omega), Int.toNat_natCast]
    have := ih (i + 1) (m.set i l[i]) (by omega) (by omega) (by simpa using hm) (by
      rw [set_at (by omega) ht, ← List.take_succ_eq_append_getElem (by omega)])
    simpa using this
theorem toInt64S_ev (l : List Int) (h : l.length ≤ 35184372088832) : Ev (fun k => laws_toInt64S.f k l) l := by
  unfold laws_toInt64S.f
  refine Ev.ite_pos (by omega) ?_
  refine Ev.ite_pos (by omega) ?_
  exact toInt64S_l0 l (by omega) l.length 0 _ (by omega) (by omega) (by simp) (by simp)

theorem eqInt64S_l0 (a b : List Int) (hl : a.length ≤ 9223372036854775807) (hab : a.length = b.length) : ∀ (d i : Nat), a.length - i = d → i ≤ a.length → a.take i = b.take i → Ev (fun k => laws_eqInt64S.l0 k a b i) (decide (a = b)) := by
  intro d
  induction d with
  | zero =>
    intro i hd hi ht
    refine Ev.succ ?_
    simp only [laws_eqInt64S.l0]
    refine Ev.ite_neg (by omega) ?_
    rw [List.take_of_length_le (by omega), List.take_of_length_le (by omega)] at ht
    simpa [ht] using Ev.now true
  | succ d ih =>
    intro i hd hi ht
    refine Ev.succ ?_
    simp only [laws_eqInt64S.l0]
    refine Ev.ite_pos (by omega) ?_
    refine Ev.ite_pos (by omega) ?_
    refine Ev.ite_pos (by omega) ?_
    by_cases he : rd a i = rd b i
    · refine Ev.ite_pos he ?_
      rw [w64 (x := (i : Int) + 1) (by omega) (by omega)]
      rw [rd_at (show i < a.length by omega), rd_at (show i < b.length by omega)] at he
      have := ih (i + 1) (by omega) (by omega) (by
        rw [List.take_succ_eq_append_getElem (by omega), List.take_succ_eq_append_getElem (by omega), ht, he])
      simpa using this
    · refine Ev.ite_neg he ?_
      have : ¬ a = b := fun e => he (by rw [e])
      simpa [this] using Ev.now false
theorem eqInt64S_ev (a b : List Int) (hl : a.length ≤ 9223372036854775807) : Ev (fun k => laws_eqInt64S.f k a b) (decide (a = b)) := by
  unfold laws_eqInt64S.f
  by_cases h : a.length = b.length
  · refine Ev.ite_pos (by omega) ?_
    exact eqInt64S_l0 a b hl h a.length 0 (by omega) (by omega) (by simp)
  · refine Ev.ite_neg (by omega) ?_
    have : ¬ a = b := fun e => h (by rw [e])
    simpa [this] using Ev.now false
theorem eqInt64S_self (a : List Int) (hl : a.length ≤ 9223372036854775807) : Ev (fun k => laws_eqInt64S.f k a a) true := by simpa using eqInt64S_ev a a hl

/-- The marks from v on: n of them. -/
def marks : Nat → Int → List Int
  | 0, _ => []
  | n + 1, v => v :: marks n (v + 1)
theorem marks_length : ∀ n v, (marks n v).length = n
  | 0, _ => rfl
  | n + 1, v => by simp [marks, marks_length n]
theorem marks_get : ∀ n v i, i < n → (marks n v)[i]? = some (v + i)
  | 0, _, i, h => by omega
  | n + 1, v, 0, _ => by simp [marks]
  | n + 1, v, i + 1, h => by
    simp only [marks, List.getElem?_cons_succ]
    rw [marks_get n (v + 1) i (by omega)]
    congr 1
    omega
theorem markInt64S_l0 (n : Nat) (v : Int) (hn : n ≤ 4611686018427387904) (h0 : 0 ≤ v) (hv : v ≤ 4611686018427387903) : ∀ (d i : Nat) (l : List Int), n - i = d → i ≤ n → l.length = n → (∀ j, j < i → l[j]? = some (v + j)) →
    Ev (fun k => laws_markInt64S.l0 k l (v + i) i) (v + n, marks n v) := by
  intro d
  induction d with
  | zero =>
    intro i l hd hi hl hj
    have : i = n := by omega
    subst this
    refine Ev.succ ?_
    simp only [laws_markInt64S.l0]
    refine Ev.ite_neg (by omega) ?_
    have : l = marks i v := by
      refine List.ext_getElem? fun j => ?_
      rcases Nat.lt_or_ge j i with h | h
      · rw [hj j h, marks_get i v j h]
      · rw [List.getElem?_eq_none (by omega), List.getElem?_eq_none (by rw [marks_length]; omega)]
    rw [this]
    exact Ev.now _
  | succ d ih =>
    intro i l hd hi hl hj
    refine Ev.succ ?_
    simp only [laws_markInt64S.l0]
    refine Ev.ite_pos (by omega) ?_
    refine Ev.ite_pos (by omega) ?_
    rw [w64 (x := (i : Int) + 1) (by omega) (by omega), w64 (x := v + (i : Int) + 1) (by omega) (by omega), Int.toNat_natCast]
    have := ih (i + 1) (l.set i (v + i)) (by omega) (by omega) (by simpa using hl) (fun j hj' => by
      rcases Nat.lt_or_ge j i with h | h
      · rw [List.getElem?_set_ne (by omega), hj j h]
      · have : j = i := by omega
        subst this
        rw [List.getElem?_set_self (by omega)])
    simpa [Int.add_assoc] using this
theorem markInt64S_ev (l : List Int) (v : Int) (hn : l.length ≤ 4611686018427387904) (h0 : 0 ≤ v) (hv : v ≤ 4611686018427387903) : Ev (fun k => laws_markInt64S.f k l v) (v + l.length, marks l.length v) := by
  unfold laws_markInt64S.f
  have := markInt64S_l0 l.length v hn h0 hv l.length 0 l (by omega) (by omega) rfl (fun j hj => by omega)
  simpa using this
theorem heldInt64S_l0 (n : Nat) (v : Int) (hn : n ≤ 4611686018427387904) (h0 : 0 ≤ v) (hv : v ≤ 4611686018427387903) : ∀ (d i : Nat), n - i = d → i ≤ n →
    Ev (fun k => laws_heldInt64S.l0 k (marks n v) (v + i) i) (v + n) := by
  intro d
  induction d with
  | zero =>
    intro i hd hi
    have : i = n := by omega
    subst this
    refine Ev.succ ?_
    simp only [laws_heldInt64S.l0]
    refine Ev.ite_neg (by rw [marks_length]; omega) ?_
    exact Ev.now _
  | succ d ih =>
    intro i hd hi
    refine Ev.succ ?_
    simp only [laws_heldInt64S.l0]
    refine Ev.ite_pos (by rw [marks_length]; omega) ?_
    refine Ev.ite_pos (by omega) ?_
    refine Ev.ite_pos (by
      have h := marks_get n v i (by omega)
      simp only [rd, Int.toNat_natCast, List.getD_eq_getElem?_getD, h, Option.getD_some]) ?_
    rw [w64 (x := (i : Int) + 1) (by omega) (by omega), w64 (x := v + (i : Int) + 1) (by omega) (by omega)]
    have := ih (i + 1) (by omega) (by omega)
    simpa [Int.add_assoc] using this
theorem heldInt64S_ev (n : Nat) (v : Int) (hn : n ≤ 4611686018427387904) (h0 : 0 ≤ v) (hv : v ≤ 4611686018427387903) : Ev (fun k => laws_heldInt64S.f k (marks n v) v) (v + n) := by
  unfold laws_heldInt64S.f
  have := heldInt64S_l0 n v hn h0 hv n 0 (by omega) (by omega)
  simpa using this
def noteOf (x : S77) : S75 := ⟨x.f0, x.f1⟩
theorem setn_at {l : List S75} {i : Nat} {v : S75} {m : List S75} (h : i < l.length) (e : l.take i = m) : (l.set i v).take (i + 1) = m ++ [v] := by
  rw [List.take_succ_eq_append_getElem (by simpa using h)]
  simp [List.take_set_of_le, e]
theorem rdn_at {l : List S75} {i : Nat} (h : i < l.length) : rd_T75 l (i : Int) = l[i] := by simp [rd_T75, h]
theorem rdm_at {l : List S77} {i : Nat} (h : i < l.length) : rd_T77 l (i : Int) = l[i] := by simp [rd_T77, h]
theorem toNoteS_l0 (l : List S77) (hl : l.length ≤ 9223372036854775807) : ∀ (d i : Nat) (m : List S75), l.length - i = d → i ≤ l.length → m.length = l.length → m.take i = (l.map noteOf).take i → Ev (fun k => laws_toNoteS.l0 k l m i) (l.map noteOf) := by
  intro d
  induction d with
  | zero =>
    intro i m hd hi hm ht
    have : i = l.length := by omega
    subst this
    refine Ev.succ ?_
    simp only [laws_toNoteS.l0]
    refine Ev.ite_neg (by omega) ?_
    rw [List.take_of_length_le (by omega), List.take_of_length_le (by simp)] at ht
    rw [ht]
    exact Ev.now _
  | succ d ih =>
    intro i m hd hi hm ht
    refine Ev.succ ?_
    simp only [laws_toNoteS.l0]
    refine Ev.ite_pos (by omega) ?_
    refine Ev.ite_pos (by omega) ?_
    refine Ev.bindc (show laws_toNote.f _ _ = some (_, _) from rfl) ?_
    refine Ev.ite_pos (by omega) ?_
    rw [w64 (x := (i : Int) + 1) (by omega) (by omega), rdm_at (show i < l.length by omega), Int.toNat_natCast]
    have := ih (i + 1) (m.set i (noteOf l[i])) (by omega) (by omega) (by simpa using hm) (by
      rw [setn_at (by omega) ht, List.take_succ_eq_append_getElem (by simpa using (by omega : i < l.length))]
      simp)
    simpa [noteOf] using this
theorem toNoteS_ev (l : List S77) (h : l.length ≤ 1048576) : Ev (fun k => laws_toNoteS.f k l) (l.map noteOf) := by
  unfold laws_toNoteS.f
  refine Ev.ite_pos (by omega) ?_
  refine Ev.ite_pos (by omega) ?_
  exact toNoteS_l0 l (by omega) l.length 0 _ (by omega) (by omega) (by simp) (by simp)
theorem eqNoteS_l0 (a : List S75) (hl : a.length ≤ 9223372036854775807) : ∀ (d i : Nat), a.length - i = d → Ev (fun k => laws_eqNoteS.l0 k a a i) true := by
  intro d
  induction d with
  | zero =>
    intro i hd
    refine Ev.succ ?_
    simp only [laws_eqNoteS.l0]
    exact Ev.ite_neg (by omega) (Ev.now _)
  | succ d ih =>
    intro i hd
    refine Ev.succ ?_
    simp only [laws_eqNoteS.l0]
    refine Ev.ite_pos (by omega) ?_
    refine Ev.ite_pos (by omega) ?_
    refine Ev.ite_pos (by omega) ?_
    refine Ev.bindc (a := true) (by simp [laws_eqNote.f]) ?_
    refine Ev.ite_pos rfl ?_
    rw [w64 (x := (i : Int) + 1) (by omega) (by omega)]
    simpa using ih (i + 1) (by omega)
theorem eqNoteS_self (a : List S75) (hl : a.length ≤ 9223372036854775807) : Ev (fun k => laws_eqNoteS.f k a a) true := by
  unfold laws_eqNoteS.f
  refine Ev.ite_pos rfl ?_
  simpa using eqNoteS_l0 a hl a.length 0 (by omega)
theorem szNoteS_eq (l : List S77) (a : Int) (h0 : 0 ≤ a) (h1 : a ≤ 1048576) (hl : l.length ≤ 9223372036854775807) : laws_szNoteS.f l a = some (if a - l.length < 0 then -1 else a - l.length) := by
  unfold laws_szNoteS.f
  rw [w64 (x := a - l.length) (by omega) (by omega)]
  split <;> rfl
def okN (x : S75) : Bool := inP x.f0 && (decide (1 ≤ x.f1) && decide (x.f1 ≤ 64))
def melB (l : List S75) : Bool := l.all okN && decide (l.length ≤ 48)
theorem alln_drop_at {l : List S75} {i : Nat} (q : S75 → Bool) (h : i < l.length) : (l.drop i).all q = (q (rd_T75 l i) && (l.drop (i + 1)).all q) := by
  rw [List.drop_eq_getElem_cons h, List.all_cons, rdn_at h]
def unitsM (l : List S75) : List Int := l.flatMap fun x => List.replicate x.f1.toNat x.f0
theorem unitsM_len (l : List S75) (h : l.all okN = true) : (unitsM l).length ≤ 64 * l.length ∧ l.length ≤ (unitsM l).length := by
  induction l with
  | nil => simp [unitsM]
  | cons x t ih =>
    simp only [List.all_cons, Bool.and_eq_true] at h
    have := ih h.2
    have hx := h.1
    simp [okN, inP] at hx
    simp only [unitsM, List.flatMap_cons, List.length_append, List.length_replicate, List.length_cons] at this ⊢
    omega
theorem unitsM_all (l : List S75) (h : l.all okN = true) : (unitsM l).all inP = true := by
  induction l with
  | nil => simp [unitsM]
  | cons x t ih =>
    simp only [List.all_cons, Bool.and_eq_true] at h
    have := ih h.2
    have hx := h.1
    simp only [okN, Bool.and_eq_true] at hx
    simp only [unitsM, List.flatMap_cons, List.all_append, Bool.and_eq_true] at this ⊢
    refine ⟨?_, this⟩
    rw [List.all_eq_true]
    intro y hy
    rw [List.eq_of_mem_replicate hy]
    exact hx.1
theorem unitsM_rd (l : List S75) (h : l.all okN = true) (i : Nat) (hi : i < (unitsM l).length) : inP (rd (unitsM l) i) = true := by
  rw [rd_at hi]
  exact List.all_eq_true.1 (unitsM_all l h) _ (List.getElem_mem _)
theorem unitsM_drop {l : List S75} {i : Nat} (h : i < l.length) : unitsM (l.drop i) = List.replicate (rd_T75 l i).f1.toNat (rd_T75 l i).f0 ++ unitsM (l.drop (i + 1)) := by
  rw [List.drop_eq_getElem_cons h, rdn_at h]
  simp only [unitsM, List.flatMap_cons]
theorem okN_rd {l : List S75} (h : l.all okN = true) {i : Nat} (hi : i < l.length) : inP (rd_T75 l i).f0 = true ∧ 1 ≤ (rd_T75 l i).f1 ∧ (rd_T75 l i).f1 ≤ 64 := by
  rw [rdn_at hi]
  have := List.all_eq_true.1 h _ (List.getElem_mem hi)
  simp only [okN, Bool.and_eq_true, decide_eq_true_eq] at this
  exact this
theorem melB_all {l : List S75} (h : melB l = true) : l.all okN = true ∧ l.length ≤ 48 := by
  simp only [melB, Bool.and_eq_true, decide_eq_true_eq] at h
  exact h
def consR (u du : List Int) (ph : Int) : Nat → Nat → List Int
  | 0, _ => []
  | d + 1, i => consM (rd u i) (rd du (Int.tmod (ph + i) (du.length : Int))) :: consR u du ph d (i + 1)
theorem consR_len (u du : List Int) (ph : Int) : ∀ d i, (consR u du ph d i).length = d := by
  intro d
  induction d with
  | zero => intro i; rfl
  | succ d ih => intro i; simp [consR, ih]
theorem consR_rd (u du : List Int) (ph : Int) : ∀ (d i j : Nat), j < d → rd (consR u du ph d i) (j : Int) = consM (rd u ((i + j : Nat) : Int)) (rd du (Int.tmod (ph + ((i + j : Nat) : Int)) (du.length : Int))) := by
  intro d
  induction d with
  | zero => intro i j h; omega
  | succ d ih =>
    intro i j h
    cases j with
    | zero => simp [consR, rd]
    | succ j =>
      have e : rd (consR u du ph (d + 1) i) ((j + 1 : Nat) : Int) = rd (consR u du ph d (i + 1)) (j : Int) := by
        simp only [consR, rd, Int.toNat_natCast]
        simp
      rw [e, ih (i + 1) j (by omega), show i + 1 + j = i + (j + 1) by omega]
theorem consR_bound (u du : List Int) (ph : Int) : ∀ (d i : Nat), ∀ x ∈ consR u du ph d i, 0 ≤ x ∧ x ≤ 100 := by
  intro d
  induction d with
  | zero => intro i x hx; simp [consR] at hx
  | succ d ih =>
    intro i x hx
    simp only [consR, List.mem_cons] at hx
    rcases hx with rfl | hx
    · exact consM_bound _ _
    · exact ih _ x hx
theorem sum_bound : ∀ (l : List Int), (∀ x ∈ l, 0 ≤ x ∧ x ≤ 100) → 0 ≤ l.sum ∧ l.sum ≤ 100 * l.length := by
  intro l
  induction l with
  | nil => intro _; simp
  | cons x t ih =>
    intro h
    have h1 := h x (by simp)
    have h2 := ih fun y hy => h y (by simp [hy])
    simp only [List.sum_cons, List.length_cons]
    omega
def consS (u du : List Int) (ph : Int) : Int := (consR u du ph u.length 0).sum
theorem consS_bound (u du : List Int) (ph : Int) : 0 ≤ consS u du ph ∧ consS u du ph ≤ 100 * u.length := by
  have := sum_bound _ (consR_bound u du ph u.length 0)
  rw [consR_len] at this
  exact this
theorem tmod_in (a : Int) (n : Nat) (h0 : 0 ≤ a) (hn : 0 < n) : 0 ≤ Int.tmod a (n : Int) ∧ Int.tmod a (n : Int) < n := by
  rw [Int.tmod_eq_emod_of_nonneg h0]
  exact ⟨Int.emod_nonneg _ (by omega), Int.emod_lt_of_pos _ (by omega)⟩
theorem rd_tmod {l : List S75} (h : l.all okN = true) (a : Int) (h0 : 0 ≤ a) (hn : 0 < (unitsM l).length) : inP (rd (unitsM l) (Int.tmod a ((unitsM l).length : Int))) = true := by
  have ht := tmod_in a _ h0 hn
  obtain ⟨j, hj⟩ := Int.eq_ofNat_of_zero_le ht.1
  rw [hj]
  exact unitsM_rd l h j (by omega)
theorem impl_within_eq (n a b : Int) : impl_within.f n a b = some (decide (a ≤ n) && decide (n ≤ b)) := by
  unfold impl_within.f
  by_cases h : n ≥ a
  · have : a ≤ n := h
    simp [this]
  · have : ¬ a ≤ n := h
    simp [this]
theorem impl_pitchOk_eq (n : Int) : impl_pitchOk.f n = some (inP n) := by
  unfold impl_pitchOk.f
  rw [impl_within_eq]
  rfl
theorem impl_lengthOk_eq (n : Int) : impl_lengthOk.f n = some (decide (1 ≤ n) && decide (n ≤ 64)) := by
  unfold impl_lengthOk.f
  rw [impl_within_eq]
  rfl
theorem impl_ValidMelody_l0 (l : List S75) (hl : l.length ≤ 9223372036854775807) : ∀ (d i : Nat), l.length - i = d → Ev (fun k => impl_ValidMelody.l0 k l (l.length : Int) i) ((l.drop i).all okN) := by
  intro d
  induction d with
  | zero =>
    intro i hd
    refine Ev.succ ?_
    simp only [impl_ValidMelody.l0]
    refine Ev.ite_neg (by omega) ?_
    rw [List.drop_of_length_le (by omega)]
    exact Ev.now _
  | succ d ih =>
    intro i hd
    refine Ev.succ ?_
    simp only [impl_ValidMelody.l0]
    refine Ev.ite_pos (by omega) ?_
    refine Ev.ite_pos (by omega) ?_
    refine Ev.ite_pos (by omega) ?_
    refine Ev.bindc (impl_pitchOk_eq _) ?_
    rw [alln_drop_at okN (by omega)]
    cases hp : inP (rd_T75 l i).f0 with
    | false =>
      refine Ev.ite_neg (by decide) ?_
      refine Ev.cast (Ev.now false) ?_
      simp [okN, hp]
    | true =>
      refine Ev.ite_pos rfl ?_
      refine Ev.bindc (impl_lengthOk_eq _) ?_
      cases hq : (decide (1 ≤ (rd_T75 l i).f1) && decide ((rd_T75 l i).f1 ≤ 64)) with
      | false =>
        refine Ev.ite_neg (by decide) ?_
        refine Ev.cast (Ev.now false) ?_
        simp [okN, hq]
      | true =>
        refine Ev.ite_pos rfl ?_
        rw [w64 (x := (i : Int) + 1) (by omega) (by omega)]
        refine Ev.cast (by simpa using ih (i + 1) (by omega)) ?_
        simp [okN, hp, hq]
theorem impl_ValidMelody_ev (l : List S75) (hl : l.length ≤ 9223372036854775807) : Ev (fun k => impl_ValidMelody.f k l) (melB l) := by
  unfold impl_ValidMelody.f melB
  by_cases h : (l.length : Int) > 48
  · refine Ev.ite_pos h ?_
    refine Ev.cast (Ev.now false) ?_
    have : ¬ l.length ≤ 48 := by omega
    simp [this]
  · refine Ev.ite_neg h ?_
    refine Ev.cast (by simpa using impl_ValidMelody_l0 l hl l.length 0 (by omega)) ?_
    have : l.length ≤ 48 := by omega
    simp [this]
theorem impl_droneOk_ev (l : List S75) (hl : l.length ≤ 9223372036854775807) : Ev (fun k => impl_droneOk.f k l) (melB l && decide (0 < l.length)) := by
  unfold impl_droneOk.f
  refine Ev.bind (impl_ValidMelody_ev l hl) ?_
  cases h : melB l with
  | true =>
    refine Ev.ite_pos rfl ?_
    refine Ev.cast (Ev.now _) ?_
    simp
  | false => exact Ev.ite_neg (by decide) (Ev.now _)
theorem impl_unitsOf_l1 (l : List S75) (i n p q : Int) (r : List Int) (hn : n ≤ 1048576) : ∀ (d : Nat) (u : Int) (acc : List Int), (n - u).toNat = d → 0 ≤ u → acc.length + d ≤ 1048576 →
    Ev (fun k => impl_unitsOf.l0 k (acc ++ List.replicate d p) l (l.length : Int) (wrap64 (i + 1))) r → Ev (fun k => impl_unitsOf.l1 k acc l (l.length : Int) i n u p q) r := by
  intro d
  induction d with
  | zero =>
    intro u acc hd h0 ha h
    refine Ev.succ ?_
    simp only [impl_unitsOf.l1]
    refine Ev.ite_neg (by omega) ?_
    simpa using h
  | succ d ih =>
    intro u acc hd h0 ha h
    refine Ev.succ ?_
    simp only [impl_unitsOf.l1]
    refine Ev.ite_pos (by omega) ?_
    refine Ev.ite_pos (by omega) ?_
    rw [w64 (x := u + 1) (by omega) (by omega)]
    refine ih (u + 1) (acc ++ [p]) (by omega) (by omega) (by simp; omega) ?_
    simpa [List.replicate_succ] using h
theorem impl_unitsOf_l0 (l : List S75) (hv : l.all okN = true) (hl : l.length ≤ 48) : ∀ (d i : Nat) (acc : List Int), l.length - i = d → acc.length ≤ 64 * i → Ev (fun k => impl_unitsOf.l0 k acc l (l.length : Int) i) (acc ++ unitsM (l.drop i)) := by
  intro d
  induction d with
  | zero =>
    intro i acc hd ha
    refine Ev.succ ?_
    simp only [impl_unitsOf.l0]
    refine Ev.ite_neg (by omega) ?_
    rw [List.drop_of_length_le (by omega)]
    simpa [unitsM] using Ev.now _
  | succ d ih =>
    intro i acc hd ha
    have hq := okN_rd hv (show i < l.length by omega)
    refine Ev.succ ?_
    simp only [impl_unitsOf.l0]
    refine Ev.ite_pos (by omega) ?_
    refine Ev.ite_pos (by omega) ?_
    refine Ev.ite_pos (by omega) ?_
    refine impl_unitsOf_l1 l i _ _ _ _ (by omega) ((rd_T75 l i).f1).toNat 0 acc (by omega) (by omega) (by omega) ?_
    rw [w64 (x := (i : Int) + 1) (by omega) (by omega), unitsM_drop (by omega), ← List.append_assoc]
    simpa using ih (i + 1) (acc ++ List.replicate ((rd_T75 l i).f1).toNat (rd_T75 l i).f0) (by omega) (by simp; omega)
theorem impl_unitsOf_ev (l : List S75) (h : melB l = true) : Ev (fun k => impl_unitsOf.f k l) (unitsM l) := by
  unfold impl_unitsOf.f
  simpa using impl_unitsOf_l0 l (melB_all h).1 (melB_all h).2 l.length 0 [] (by omega) (by simp)
theorem impl_consonances_l0 (m l : List S75) (hm : m.all okN = true) (hl : l.all okN = true) (h0 : 0 < (unitsM l).length) (hb : (unitsM m).length ≤ 3072) (ph : Int) (p0 : 0 ≤ ph) (p1 : ph ≤ 1000000) :
    ∀ (d i : Nat) (acc : List Int), (unitsM m).length - i = d → acc.length ≤ i → Ev (fun k => impl_consonances.l0 k ph (unitsM l) acc (unitsM m) ((unitsM m).length : Int) i) (acc ++ consR (unitsM m) (unitsM l) ph d i) := by
  intro d
  induction d with
  | zero =>
    intro i acc hd ha
    refine Ev.succ ?_
    simp only [impl_consonances.l0]
    refine Ev.ite_neg (by omega) ?_
    simpa [consR] using Ev.now _
  | succ d ih =>
    intro i acc hd ha
    have ht := tmod_in (ph + i) _ (by omega) h0
    refine Ev.succ ?_
    simp only [impl_consonances.l0]
    rw [w64 (x := ph + (i : Int)) (by omega) (by omega)]
    refine Ev.ite_pos (by omega) (Ev.ite_pos (by omega) (Ev.ite_pos (by omega) (Ev.ite_neg (by omega) (Ev.ite_pos ht.1 (Ev.ite_pos ht.2 ?_)))))
    refine Ev.bindc (impl_consonance_eq _ _ (unitsM_rd m hm i (by omega)) (rd_tmod hl _ (by omega) h0)) ?_
    refine Ev.ite_pos (by omega) ?_
    rw [w64 (x := (i : Int) + 1) (by omega) (by omega)]
    refine Ev.cast (by simpa using ih (i + 1) (acc ++ [consM (rd (unitsM m) i) (rd (unitsM l) (Int.tmod (ph + i) ((unitsM l).length : Int)))]) (by omega) (by simp; omega)) ?_
    simp [consR]
theorem impl_consonances_ev (m l : List S75) (hm : melB m = true) (hl : melB l = true) (h0 : 0 < l.length) (ph : Int) (p0 : 0 ≤ ph) (p1 : ph ≤ 1000000) :
    Ev (fun k => impl_consonances.f k m l ph) (consR (unitsM m) (unitsM l) ph (unitsM m).length 0) := by
  unfold impl_consonances.f
  have h1 := unitsM_len m (melB_all hm).1
  have h2 := unitsM_len l (melB_all hl).1
  have h3 := (melB_all hm).2
  refine Ev.bind (impl_unitsOf_ev l hl) (Ev.bind (impl_unitsOf_ev m hm) ?_)
  simpa using impl_consonances_l0 m l (melB_all hm).1 (melB_all hl).1 (by omega) (by omega) ph p0 p1 _ 0 [] rfl (by simp)
theorem impl_sumOf_sum (l : List Int) (hl : l.length ≤ 3072) (hB : ∀ x ∈ l, 0 ≤ x ∧ x ≤ 100) : ∀ (d i : Nat) (acc : Int), l.length - i = d → 0 ≤ acc → acc ≤ 100 * i → Ev (fun k => impl_sumOf.l0 k acc l (l.length : Int) i) (acc + (l.drop i).sum) := by
  intro d
  induction d with
  | zero =>
    intro i acc hd h0 h1
    refine Ev.succ ?_
    simp only [impl_sumOf.l0]
    refine Ev.ite_neg (by omega) ?_
    rw [List.drop_of_length_le (by omega)]
    simpa using Ev.now _
  | succ d ih =>
    intro i acc hd h0 h1
    have hi : i < l.length := by omega
    have hb := hB _ (List.getElem_mem hi)
    rw [← rd_at hi] at hb
    refine Ev.succ ?_
    simp only [impl_sumOf.l0]
    refine Ev.ite_pos (by omega) (Ev.ite_pos (by omega) (Ev.ite_pos (by omega) ?_))
    rw [w64 (x := (i : Int) + 1) (by omega) (by omega), w64 (x := acc + rd l i) (by omega) (by omega)]
    refine Ev.cast (by simpa using ih (i + 1) (acc + rd l i) (by omega) (by omega) (by omega)) ?_
    rw [List.drop_eq_getElem_cons hi, List.sum_cons, rd_at hi]
    omega
theorem impl_sum_cons (u du : List Int) (ph : Int) (hl : u.length ≤ 3072) : Ev (fun k => impl_sumOf.f k (consR u du ph u.length 0)) (consS u du ph) := by
  unfold impl_sumOf.f consS
  simpa using impl_sumOf_sum (consR u du ph u.length 0) (by rw [consR_len]; exact hl) (consR_bound _ _ _ _ _) _ 0 0 rfl (by omega) (by omega)
def notesOf (f : List (List S77)) : List (List S75) := f.map fun l => l.map noteOf
theorem rdN3_at {f : List (List S77)} {i : Nat} (h : i < f.length) : rd_L3 f (i : Int) = f[i] := by simp [rd_L3, h]
theorem rdN5_at {f : List (List S75)} {i : Nat} (h : i < f.length) : rd_L5 f (i : Int) = f[i] := by simp [rd_L5, h]
theorem szNoteS_ge (l : List S77) (a : Int) (h0 : 0 ≤ a) (h1 : a ≤ 1048576) (hl : l.length ≤ 9223372036854775807) : ∃ t, laws_szNoteS.f l a = some t ∧ (t < 0 ∨ (0 ≤ t ∧ t ≤ a ∧ l.length ≤ 1048576)) := by
  refine ⟨_, szNoteS_eq l a h0 h1 hl, ?_⟩
  by_cases h : a - (l.length : Int) < 0
  · rw [if_pos h]; exact .inl (by omega)
  · rw [if_neg h]; exact .inr (by omega)
theorem szNoteSS_l0 (f : List (List S77)) (hf : f.length ≤ 9223372036854775807) (hr : ∀ y ∈ f, y.length ≤ 9223372036854775807) : ∀ (d i : Nat) (a : Int), f.length - i = d → 0 ≤ a → a ≤ 1048576 → (∀ j, j < i → j < f.length → (rd_L3 f j).length ≤ 1048576) →
    ∃ t, Ev (fun k => laws_szNoteSS.l0 k f a i) t ∧ (t < 0 ∨ (0 ≤ t ∧ t ≤ a ∧ ∀ j, j < f.length → (rd_L3 f j).length ≤ 1048576)) := by
  intro d
  induction d with
  | zero =>
    intro i a hd h0 h1 hj
    refine ⟨a, Ev.succ ?_, .inr ⟨h0, Int.le_refl _, fun j h => hj j (by omega) h⟩⟩
    simp only [laws_szNoteSS.l0]
    exact Ev.ite_neg (by omega) (Ev.now _)
  | succ d ih =>
    intro i a hd h0 h1 hj
    have hi : i < f.length := by omega
    obtain ⟨t, ht, hc⟩ := szNoteS_ge (rd_L3 f i) a h0 h1 (by rw [rdN3_at hi]; exact hr _ (List.getElem_mem hi))
    rcases hc with hc | ⟨c0, c1, c2⟩
    · refine ⟨-1, Ev.succ ?_, .inl (by omega)⟩
      simp only [laws_szNoteSS.l0]
      exact Ev.ite_pos (by omega) (Ev.ite_pos (by omega) (Ev.bindc ht (Ev.ite_pos hc (Ev.now _))))
    · obtain ⟨r, hr1, hr2⟩ := ih (i + 1) t (by omega) c0 (by omega) (fun j h1 h2 => by
        by_cases e : j = i
        · subst e
          exact c2
        · exact hj j (by omega) h2)
      refine ⟨r, Ev.succ ?_, ?_⟩
      · simp only [laws_szNoteSS.l0]
        rw [w64 (x := (i : Int) + 1) (by omega) (by omega)]
        exact Ev.ite_pos (by omega) (Ev.ite_pos (by omega) (Ev.bindc ht (Ev.ite_neg (by omega) (by simpa using hr1))))
      · rcases hr2 with h | ⟨g0, g1, g2⟩
        · exact .inl h
        · exact .inr ⟨g0, by omega, g2⟩
theorem szNoteSS_ge (f : List (List S77)) (a : Int) (h0 : 0 ≤ a) (h1 : a ≤ 1048576) (hf : f.length ≤ 9223372036854775807) (hr : ∀ y ∈ f, y.length ≤ 9223372036854775807) :
    ∃ t, Ev (fun k => laws_szNoteSS.f k f a) t ∧ (t < 0 ∨ (0 ≤ t ∧ t ≤ a ∧ f.length ≤ 1048576 ∧ ∀ j, j < f.length → (rd_L3 f j).length ≤ 1048576)) := by
  unfold laws_szNoteSS.f
  rw [w64 (x := a - f.length) (by omega) (by omega)]
  by_cases h : a - (f.length : Int) < 0
  · exact ⟨-1, Ev.ite_pos h (Ev.now _), .inl (by omega)⟩
  · obtain ⟨t, h2, h3⟩ := szNoteSS_l0 f hf hr f.length 0 (a - f.length) (by omega) (by omega) (by omega) (fun j h => by omega)
    refine ⟨t, Ev.ite_neg h (by simpa using h2), ?_⟩
    rcases h3 with h3 | ⟨g0, g1, g2⟩
    · exact .inl h3
    · exact .inr ⟨g0, by omega, by omega, g2⟩
theorem setN_at {l : List (List S75)} {i : Nat} {v : List S75} {m : List (List S75)} (h : i < l.length) (e : l.take i = m) : (l.set i v).take (i + 1) = m ++ [v] := by
  rw [List.take_succ_eq_append_getElem (by simpa using h)]
  simp [List.take_set_of_le, e]
theorem toNoteSS_l0 (l : List (List S77)) (hl : l.length ≤ 1048576) (hr : ∀ j, j < l.length → (rd_L3 l j).length ≤ 1048576) : ∀ (d i : Nat) (m : List (List S75)), l.length - i = d → i ≤ l.length → m.length = l.length → m.take i = (notesOf l).take i → Ev (fun k => laws_toNoteSS.l0 k l m i) (notesOf l) := by
  have hn : (notesOf l).length = l.length := by simp [notesOf]
  intro d
  induction d with
  | zero =>
    intro i m hd hi hm ht
    have : i = l.length := by omega
    subst this
    refine Ev.succ ?_
    simp only [laws_toNoteSS.l0]
    refine Ev.ite_neg (by omega) ?_
    rw [List.take_of_length_le (by omega), List.take_of_length_le (by omega)] at ht
    rw [ht]
    exact Ev.now _
  | succ d ih =>
    intro i m hd hi hm ht
    have hi' : i < l.length := by omega
    refine Ev.succ ?_
    simp only [laws_toNoteSS.l0]
    refine Ev.ite_pos (by omega) (Ev.ite_pos (by omega) (Ev.bind (toNoteS_ev (rd_L3 l i) (hr i hi')) (Ev.ite_pos (by omega) ?_)))
    rw [w64 (x := (i : Int) + 1) (by omega) (by omega), rdN3_at hi', Int.toNat_natCast]
    have := ih (i + 1) (m.set i (l[i].map noteOf)) (by omega) (by omega) (by simpa using hm) (by
      rw [setN_at (by omega) ht, List.take_succ_eq_append_getElem (by omega)]
      simp [notesOf])
    simpa using this
theorem toNoteSS_ev (l : List (List S77)) (h : l.length ≤ 1048576) (hr : ∀ j, j < l.length → (rd_L3 l j).length ≤ 1048576) : Ev (fun k => laws_toNoteSS.f k l) (notesOf l) := by
  unfold laws_toNoteSS.f
  refine Ev.ite_pos (by omega) (Ev.ite_pos (by omega) ?_)
  exact toNoteSS_l0 l h hr l.length 0 _ (by omega) (by omega) (by simp) (by simp)
theorem notesOf_rd (l : List (List S77)) (hr : ∀ j, j < l.length → (rd_L3 l j).length ≤ 1048576) (j : Nat) (hj : j < (notesOf l).length) : (rd_L5 (notesOf l) j).length ≤ 1048576 := by
  have hn : (notesOf l).length = l.length := by simp [notesOf]
  have := hr j (by omega)
  rw [rdN3_at (by omega)] at this
  rw [rdN5_at hj]
  simpa [notesOf] using this
theorem eqNoteSS_l0 (l : List (List S75)) (hl : l.length ≤ 1048576) (hr : ∀ j, j < l.length → (rd_L5 l j).length ≤ 1048576) : ∀ (d i : Nat), l.length - i = d → Ev (fun k => laws_eqNoteSS.l0 k l l i) true := by
  intro d
  induction d with
  | zero =>
    intro i hd
    refine Ev.succ ?_
    simp only [laws_eqNoteSS.l0]
    exact Ev.ite_neg (by omega) (Ev.now _)
  | succ d ih =>
    intro i hd
    refine Ev.succ ?_
    simp only [laws_eqNoteSS.l0]
    rw [w64 (x := (i : Int) + 1) (by omega) (by omega)]
    exact Ev.ite_pos (by omega) (Ev.ite_pos (by omega) (Ev.ite_pos (by omega) (Ev.bind (eqNoteS_self _ (by have := hr i (by omega); omega)) (Ev.ite_pos rfl (by simpa using ih (i + 1) (by omega))))))
theorem eqNoteSS_self (l : List (List S75)) (hl : l.length ≤ 1048576) (hr : ∀ j, j < l.length → (rd_L5 l j).length ≤ 1048576) : Ev (fun k => laws_eqNoteSS.f k l l) true := by
  unfold laws_eqNoteSS.f
  exact Ev.ite_pos rfl (by simpa using eqNoteSS_l0 l hl hr l.length 0 (by omega))
theorem spec_l16Sum_l0 (m l : List S75) (hm : m.all okN = true) (hl : l.all okN = true) (h0 : 0 < (unitsM l).length) (hb : (unitsM m).length ≤ 3072) (ph : Int) (p0 : 0 ≤ ph) (p1 : ph ≤ 1000000) :
    ∀ (d i : Nat) (acc : Int), (unitsM m).length - i = d → 0 ≤ acc → acc ≤ 100 * i → Ev (fun k => spec_l16Sum.l0 k (unitsM m) (unitsM l) ph acc i) (acc + (consR (unitsM m) (unitsM l) ph d i).sum) := by
  intro d
  induction d with
  | zero =>
    intro i acc hd ha hb'
    refine Ev.succ ?_
    simp only [spec_l16Sum.l0]
    refine Ev.ite_neg (by omega) ?_
    simpa [consR] using Ev.now _
  | succ d ih =>
    intro i acc hd ha hb'
    have ht := tmod_in (ph + i) _ (by omega) h0
    have hc := consM_bound (rd (unitsM m) i) (rd (unitsM l) (Int.tmod (ph + i) ((unitsM l).length : Int)))
    refine Ev.succ ?_
    simp only [spec_l16Sum.l0]
    rw [w64 (x := ph + (i : Int)) (by omega) (by omega)]
    refine Ev.ite_pos (by omega) (Ev.ite_pos (by omega) (Ev.ite_neg (by omega) (Ev.ite_pos ht.1 (Ev.ite_pos ht.2 ?_))))
    refine Ev.bindc (spec_l16Consonance_eq _ _ (unitsM_rd m hm i (by omega)) (rd_tmod hl _ (by omega) h0)) ?_
    rw [w64 (x := (i : Int) + 1) (by omega) (by omega), w64 (x := acc + _) (by omega) (by omega)]
    refine Ev.cast (by simpa using ih (i + 1) (acc + consM (rd (unitsM m) i) (rd (unitsM l) (Int.tmod (ph + i) ((unitsM l).length : Int)))) (by omega) (by omega) (by omega)) ?_
    simp [consR, Int.add_assoc]
theorem spec_l16Sum_ev (m l : List S75) (hm : melB m = true) (hl : melB l = true) (h0 : 0 < l.length) (ph : Int) (p0 : 0 ≤ ph) (p1 : ph ≤ 1000000) :
    Ev (fun k => spec_l16Sum.f k (unitsM m) (unitsM l) ph) (consS (unitsM m) (unitsM l) ph) := by
  unfold spec_l16Sum.f consS
  have h1 := unitsM_len m (melB_all hm).1
  have h2 := unitsM_len l (melB_all hl).1
  have h3 := (melB_all hm).2
  simpa using spec_l16Sum_l0 m l (melB_all hm).1 (melB_all hl).1 (by omega) (by omega) ph p0 p1 _ 0 0 rfl (by omega) (by omega)
theorem spec_l00In_eq (n a b : Int) : spec_l00In.f n a b = some (decide (a ≤ n) && decide (n ≤ b)) := by
  unfold spec_l00In.f
  by_cases h : n ≥ a
  · have : a ≤ n := h
    simp [this]
  · have : ¬ a ≤ n := h
    simp [this]
theorem spec_l03Pitch_eq (n : Int) : spec_l03Pitch.f n = some (inP n) := by
  unfold spec_l03Pitch.f
  rw [spec_l00In_eq]
  rfl
theorem spec_l09Length_eq (n : Int) : spec_l09Length.f n = some (decide (1 ≤ n) && decide (n ≤ 64)) := by
  unfold spec_l09Length.f
  rw [spec_l00In_eq]
  rfl
theorem spec_l09Ok_l0 (l : List S75) (hl : l.length ≤ 9223372036854775807) : ∀ (d i : Nat), l.length - i = d → Ev (fun k => spec_l09Ok.l0 k l i) ((l.drop i).all okN && decide (l.length ≤ 48)) := by
  intro d
  induction d with
  | zero =>
    intro i hd
    refine Ev.succ ?_
    simp only [spec_l09Ok.l0]
    refine Ev.ite_neg (by omega) ?_
    rw [List.drop_of_length_le (by omega)]
    refine Ev.cast (Ev.now _) ?_
    simp
    omega
  | succ d ih =>
    intro i hd
    refine Ev.succ ?_
    simp only [spec_l09Ok.l0]
    refine Ev.ite_pos (by omega) ?_
    refine Ev.ite_pos (by omega) ?_
    refine Ev.bindc (spec_l03Pitch_eq _) ?_
    rw [alln_drop_at okN (by omega)]
    cases hp : inP (rd_T75 l i).f0 with
    | false =>
      refine Ev.ite_neg (by decide) ?_
      refine Ev.cast (Ev.now false) ?_
      simp [okN, hp]
    | true =>
      refine Ev.ite_pos rfl ?_
      refine Ev.bindc (spec_l09Length_eq _) ?_
      cases hq : (decide (1 ≤ (rd_T75 l i).f1) && decide ((rd_T75 l i).f1 ≤ 64)) with
      | false =>
        refine Ev.ite_neg (by decide) ?_
        refine Ev.cast (Ev.now false) ?_
        simp [okN, hq]
      | true =>
        refine Ev.ite_pos rfl ?_
        rw [w64 (x := (i : Int) + 1) (by omega) (by omega)]
        refine Ev.cast (by simpa using ih (i + 1) (by omega)) ?_
        simp [okN, hp, hq]
theorem spec_l09Ok_ev (l : List S75) (hl : l.length ≤ 9223372036854775807) : Ev (fun k => spec_l09Ok.f k l) (melB l) := by
  unfold spec_l09Ok.f melB
  simpa using spec_l09Ok_l0 l hl l.length 0 (by omega)
theorem spec_l16Drone_ev (l : List S75) (hl : l.length ≤ 9223372036854775807) : Ev (fun k => spec_l16Drone.f k l) (melB l && decide (0 < l.length)) := by
  unfold spec_l16Drone.f
  refine Ev.bind (spec_l09Ok_ev l hl) ?_
  cases h : melB l with
  | true =>
    refine Ev.ite_pos rfl ?_
    refine Ev.cast (Ev.now _) ?_
    simp
  | false => exact Ev.ite_neg (by decide) (Ev.now _)
theorem spec_l16Units_l1 (l : List S75) (i : Nat) (r : List Int) (hi : i < l.length) (hn : (rd_T75 l i).f1 ≤ 1048576) : ∀ (d : Nat) (u : Int) (acc : List Int), ((rd_T75 l i).f1 - u).toNat = d → 0 ≤ u → acc.length + d ≤ 1048576 →
    Ev (fun k => spec_l16Units.l0 k l (acc ++ List.replicate d (rd_T75 l i).f0) (wrap64 ((i : Int) + 1))) r → Ev (fun k => spec_l16Units.l1 k l acc i u) r := by
  intro d
  induction d with
  | zero =>
    intro u acc hd h0 ha h
    refine Ev.succ ?_
    simp only [spec_l16Units.l1]
    refine Ev.ite_pos (by omega) ?_
    refine Ev.ite_pos (by omega) ?_
    refine Ev.ite_neg (by omega) ?_
    simpa using h
  | succ d ih =>
    intro u acc hd h0 ha h
    refine Ev.succ ?_
    simp only [spec_l16Units.l1]
    refine Ev.ite_pos (by omega) ?_
    refine Ev.ite_pos (by omega) ?_
    refine Ev.ite_pos (by omega) ?_
    refine Ev.ite_pos (by omega) ?_
    rw [w64 (x := u + 1) (by omega) (by omega)]
    refine ih (u + 1) (acc ++ [(rd_T75 l i).f0]) (by omega) (by omega) (by simp; omega) ?_
    simpa [List.replicate_succ] using h
theorem spec_l16Units_l0 (l : List S75) (hv : l.all okN = true) (hl : l.length ≤ 48) : ∀ (d i : Nat) (acc : List Int), l.length - i = d → acc.length ≤ 64 * i → Ev (fun k => spec_l16Units.l0 k l acc i) (acc ++ unitsM (l.drop i)) := by
  intro d
  induction d with
  | zero =>
    intro i acc hd ha
    refine Ev.succ ?_
    simp only [spec_l16Units.l0]
    refine Ev.ite_neg (by omega) ?_
    rw [List.drop_of_length_le (by omega)]
    simpa [unitsM] using Ev.now _
  | succ d ih =>
    intro i acc hd ha
    have hq := okN_rd hv (show i < l.length by omega)
    refine Ev.succ ?_
    simp only [spec_l16Units.l0]
    refine Ev.ite_pos (by omega) ?_
    refine spec_l16Units_l1 l i _ (by omega) (by omega) ((rd_T75 l i).f1).toNat 0 acc (by omega) (by omega) (by omega) ?_
    rw [w64 (x := (i : Int) + 1) (by omega) (by omega), unitsM_drop (by omega), ← List.append_assoc]
    simpa using ih (i + 1) (acc ++ List.replicate ((rd_T75 l i).f1).toNat (rd_T75 l i).f0) (by omega) (by simp; omega)
theorem spec_l16Units_ev (l : List S75) (h : melB l = true) : Ev (fun k => spec_l16Units.f k l) (unitsM l) := by
  unfold spec_l16Units.f
  simpa using spec_l16Units_l0 l (melB_all h).1 (melB_all h).2 l.length 0 [] (by omega) (by simp)
end Go.Proofs.Ytlgigomahobfbaa.P
end
