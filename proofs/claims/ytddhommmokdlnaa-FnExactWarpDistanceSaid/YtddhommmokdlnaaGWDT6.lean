/- Texts of this seat, merged: QSpecL12Edit, LEdit, LMax, LSAbs. -/
import Derived.Test.YtddhommmokdlnaaGWDT1
import Derived.Test.YtddhommmokdlnaaGWDT3
import Derived.Test.YtddhommmokdlnaaGWDT4
import Derived.Test.YtddhommmokdlnaaGWDT5
section
namespace Go.Proofs.Ytddhommmokdlnaa.P
open Go.RowKit Go.Proofs.YtddhommmokdlnaaW.PrintWords Go.Proofs.YtddhommmokdlnaaW.PrintLast Go.Proofs.YtddhommmokdlnaaW.PrintMore
attribute [local go_sem] max2_int min2_int max_two min_two max_three min_three max_four min_four   -- for this text's walks alone
set_option linter.unusedVariables false
set_option linter.unusedSimpArgs false

/-! ### spec_l12Edit: function 76 -/
mutual
def spec_l12Edit.l0 : Nat → List Int → List Int → Int → Int → List (List Int) → Int → Option ((List (List Int)))
  | 0, _, _, _, _, _, _ => none
  | k + 1, x0, x1, x2, x3, x9, x10 => if x10 ≤ (x0.length : Int) then (if 0 ≤ (wrap64 ((x1.length : Int) + 1)) then (if (wrap64 ((x1.length : Int) + 1) : Int).toNat ≤ 35184372088832 then (if x9.length < 5864062014805 then (spec_l12Edit.l0 k x0 x1 x2 x3 (x9 ++ [(List.replicate (wrap64 ((x1.length : Int) + 1) : Int).toNat 0)]) (wrap64 (x10 + 1))) else (none)) else (none)) else (none)) else (spec_l12Edit.l1 k x0 x1 x2 x3 x9 (x0.length : Int))
def spec_l12Edit.l1 : Nat → List Int → List Int → Int → Int → List (List Int) → Int → Option ((List (List Int)))
  | 0, _, _, _, _, _, _ => none
  | k + 1, x0, x1, x2, x3, x9, x11 => if x11 ≥ 0 then (spec_l12Edit.l2 k x0 x1 x2 x3 x9 x11 (x1.length : Int)) else (some x9)
def spec_l12Edit.l2 : Nat → List Int → List Int → Int → Int → List (List Int) → Int → Int → Option ((List (List Int)))
  | 0, _, _, _, _, _, _, _ => none
  | k + 1, x0, x1, x2, x3, x9, x11, x12 => if x12 ≥ 0 then (if x11 = (x0.length : Int) then (if 0 ≤ x11 then (if x11 < (x9.length : Int) then (if 0 ≤ x12 then (if x12 < ((rd_L1 x9 x11).length : Int) then (spec_l12Edit.l2 k x0 x1 x2 x3 (x9.set (x11 : Int).toNat ((rd_L1 x9 x11).set (x12 : Int).toNat (wrap64 (x3 * (wrap64 ((x1.length : Int) - x12)))))) x11 (wrap64 (x12 - 1))) else (none)) else (none)) else (none)) else (none)) else (if x12 = (x1.length : Int) then (if 0 ≤ x11 then (if x11 < (x9.length : Int) then (if 0 ≤ x12 then (if x12 < ((rd_L1 x9 x11).length : Int) then (spec_l12Edit.l2 k x0 x1 x2 x3 (x9.set (x11 : Int).toNat ((rd_L1 x9 x11).set (x12 : Int).toNat (wrap64 (x3 * (wrap64 ((x0.length : Int) - x11)))))) x11 (wrap64 (x12 - 1))) else (none)) else (none)) else (none)) else (none)) else (if 0 ≤ (wrap64 (x11 + 1)) then (if (wrap64 (x11 + 1)) < (x9.length : Int) then (if 0 ≤ (wrap64 (x12 + 1)) then (if (wrap64 (x12 + 1)) < ((rd_L1 x9 (wrap64 (x11 + 1))).length : Int) then (if 0 ≤ x11 then (if x11 < (x0.length : Int) then (if 0 ≤ x12 then (if x12 < (x1.length : Int) then (if (rd x0 x11) = (rd x1 x12) then (if x12 < ((rd_L1 x9 (wrap64 (x11 + 1))).length : Int) then ((spec_l00Min.f (rd (rd_L1 x9 (wrap64 (x11 + 1))) (wrap64 (x12 + 1))) (wrap64 ((rd (rd_L1 x9 (wrap64 (x11 + 1))) x12) + x3))).bind fun t977 => (if x11 < (x9.length : Int) then (if (wrap64 (x12 + 1)) < ((rd_L1 x9 x11).length : Int) then ((spec_l00Min.f t977 (wrap64 ((rd (rd_L1 x9 x11) (wrap64 (x12 + 1))) + x3))).bind fun t981 => (if x12 < ((rd_L1 x9 x11).length : Int) then (spec_l12Edit.l2 k x0 x1 x2 x3 (x9.set (x11 : Int).toNat ((rd_L1 x9 x11).set (x12 : Int).toNat t981)) x11 (wrap64 (x12 - 1))) else (none))) else (none)) else (none))) else (none)) else (if x12 < ((rd_L1 x9 (wrap64 (x11 + 1))).length : Int) then ((spec_l00Min.f (wrap64 ((rd (rd_L1 x9 (wrap64 (x11 + 1))) (wrap64 (x12 + 1))) + x2)) (wrap64 ((rd (rd_L1 x9 (wrap64 (x11 + 1))) x12) + x3))).bind fun t987 => (if x11 < (x9.length : Int) then (if (wrap64 (x12 + 1)) < ((rd_L1 x9 x11).length : Int) then ((spec_l00Min.f t987 (wrap64 ((rd (rd_L1 x9 x11) (wrap64 (x12 + 1))) + x3))).bind fun t991 => (if x12 < ((rd_L1 x9 x11).length : Int) then (spec_l12Edit.l2 k x0 x1 x2 x3 (x9.set (x11 : Int).toNat ((rd_L1 x9 x11).set (x12 : Int).toNat t991)) x11 (wrap64 (x12 - 1))) else (none))) else (none)) else (none))) else (none))) else (none)) else (none)) else (none)) else (none)) else (none)) else (none)) else (none)) else (none)))) else (spec_l12Edit.l1 k x0 x1 x2 x3 x9 (wrap64 (x11 - 1)))
end
def spec_l12Edit.f (k : Nat) (l0 : List Int) (l1 : List Int) (a2 : Int) (a3 : Int) : Option ((List (List Int))) := spec_l12Edit.l0 k l0 l1 a2 a3 (([] : List (List Int))) 0
theorem spec_l12Edit.mono_l : ∀ k, (∀ y0 y1 y2 y3 y4 y5, LeO (spec_l12Edit.l0 k y0 y1 y2 y3 y4 y5) (spec_l12Edit.l0 (k + 1) y0 y1 y2 y3 y4 y5)) ∧ (∀ y0 y1 y2 y3 y4 y5, LeO (spec_l12Edit.l1 k y0 y1 y2 y3 y4 y5) (spec_l12Edit.l1 (k + 1) y0 y1 y2 y3 y4 y5)) ∧ (∀ y0 y1 y2 y3 y4 y5 y6, LeO (spec_l12Edit.l2 k y0 y1 y2 y3 y4 y5 y6) (spec_l12Edit.l2 (k + 1) y0 y1 y2 y3 y4 y5 y6))
  | 0 => ⟨fun _ _ _ _ _ _ r h => by simp [spec_l12Edit.l0] at h, fun _ _ _ _ _ _ r h => by simp [spec_l12Edit.l1] at h, fun _ _ _ _ _ _ _ r h => by simp [spec_l12Edit.l2] at h⟩
  | k + 1 => by
    obtain ⟨ih0, ih1, ih2⟩ := spec_l12Edit.mono_l k
    refine ⟨?_, ?_, ?_⟩
    · intro y0 y1 y2 y3 y4 y5
      unfold spec_l12Edit.l0
      repeat' first
      | (with_reducible exact ih0 _ _ _ _ _ _)
      | (with_reducible exact ih1 _ _ _ _ _ _)
      | (with_reducible exact ih2 _ _ _ _ _ _ _)
      | (with_reducible exact LeO.refl _)
      | (with_reducible exact LeO.none _)
      | (with_reducible refine LeO.ite ?_ ?_)
      | (with_reducible refine LeO.bind ?_ (fun _ => ?_))
      | exact ih0 _ _ _ _ _ _
      | exact ih1 _ _ _ _ _ _
      | exact ih2 _ _ _ _ _ _ _
      | exact LeO.none _
      | refine LeO.ite ?_ ?_
      | refine LeO.bind ?_ (fun _ => ?_)
    · intro y0 y1 y2 y3 y4 y5
      unfold spec_l12Edit.l1
      repeat' first
      | (with_reducible exact ih0 _ _ _ _ _ _)
      | (with_reducible exact ih1 _ _ _ _ _ _)
      | (with_reducible exact ih2 _ _ _ _ _ _ _)
      | (with_reducible exact LeO.refl _)
      | (with_reducible exact LeO.none _)
      | (with_reducible refine LeO.ite ?_ ?_)
      | (with_reducible refine LeO.bind ?_ (fun _ => ?_))
      | exact ih0 _ _ _ _ _ _
      | exact ih1 _ _ _ _ _ _
      | exact ih2 _ _ _ _ _ _ _
      | exact LeO.none _
      | refine LeO.ite ?_ ?_
      | refine LeO.bind ?_ (fun _ => ?_)
    · intro y0 y1 y2 y3 y4 y5 y6
      unfold spec_l12Edit.l2
      repeat' first
      | (with_reducible exact ih0 _ _ _ _ _ _)
      | (with_reducible exact ih1 _ _ _ _ _ _)
      | (with_reducible exact ih2 _ _ _ _ _ _ _)
      | (with_reducible exact LeO.refl _)
      | (with_reducible exact LeO.none _)
      | (with_reducible refine LeO.ite ?_ ?_)
      | (with_reducible refine LeO.bind ?_ (fun _ => ?_))
      | exact ih0 _ _ _ _ _ _
      | exact ih1 _ _ _ _ _ _
      | exact ih2 _ _ _ _ _ _ _
      | exact LeO.none _
      | refine LeO.ite ?_ ?_
      | refine LeO.bind ?_ (fun _ => ?_)
theorem spec_l12Edit.mono : ∀ a0 a1 a2 a3 k, LeO (spec_l12Edit.f k a0 a1 a2 a3) (spec_l12Edit.f (k + 1) a0 a1 a2 a3) := by
  intro a0 a1 a2 a3 k
  obtain ⟨ih0, ih1, ih2⟩ := spec_l12Edit.mono_l k
  unfold spec_l12Edit.f
  repeat' first
      | (with_reducible exact ih0 _ _ _ _ _ _)
      | (with_reducible exact ih1 _ _ _ _ _ _)
      | (with_reducible exact ih2 _ _ _ _ _ _ _)
      | (with_reducible exact LeO.refl _)
      | (with_reducible exact LeO.none _)
      | (with_reducible refine LeO.ite ?_ ?_)
      | (with_reducible refine LeO.bind ?_ (fun _ => ?_))
      | exact ih0 _ _ _ _ _ _
      | exact ih1 _ _ _ _ _ _
      | exact ih2 _ _ _ _ _ _ _
      | exact LeO.none _
      | refine LeO.ite ?_ ?_
      | refine LeO.bind ?_ (fun _ => ?_)
def spec_l12Edit.T17 : Bool × List (List Nat × List Nat) := (true, [([], []), ([], []), ([0, 1], [0, 1]), ([2], [2]), ([], []), ([], []), ([4, 5], [4, 5]), ([6], [6]), ([3, 7], [3, 7])])
def spec_l12Edit.B17 : List Nat := [0, 0, 3, 7, 0, 0, 48, 112, 255]
theorem spec_l12Edit.tab17 : rtab .any (opsOf Try.f76 17) = spec_l12Edit.T17 := by kernel_rfl
theorem spec_l12Edit.bits17 : waitsOk spec_l12Edit.T17.2 spec_l12Edit.B17 = true := by kernel_rfl
def spec_l12Edit.T20 : Bool × List (List Nat × List Nat) := (true, [([], []), ([], []), ([0, 1], [0, 1]), ([2], [2]), ([], []), ([], []), ([], []), ([], []), ([6, 7], [6, 7]), ([8], [8]), ([], []), ([10], [10]), ([9, 11], [9, 11]), ([12], [12]), ([], []), ([13, 14], [13, 14]), ([5, 15], [5, 15]), ([3, 4, 0, 1, 2, 3, 4, 5, 6, 7, 8, 9, 10, 11, 12, 13, 14, 15, 16], [3, 4]), ([17, 16, 16, 0, 1, 2, 3, 4, 5, 6, 7, 8, 9, 10, 11, 12, 13, 14, 15, 16], [16, 17])])
def spec_l12Edit.B20 : List Nat := [0, 0, 3, 7, 0, 0, 0, 0, 192, 448, 0, 1024, 4032, 8128, 0, 32704, 65504, 131071, 262143]
theorem spec_l12Edit.tab20 : rtab .any (opsOf Try.f76 20) = spec_l12Edit.T20 := by kernel_rfl
theorem spec_l12Edit.bits20 : waitsOk spec_l12Edit.T20.2 spec_l12Edit.B20 = true := by kernel_rfl
set_option maxHeartbeats 8000000 in
set_option maxRecDepth 100000 in
theorem spec_l12Edit.calls (k : Nat) (A0 : Option Addr) (c0 : Nat) (l0 : List Int) (A1 : Option Addr) (c1 : Nat) (l1 : List Int) (a2 : Int) (a3 : Int) (r : List (List Int)) (w : World) (hr0 : Kd.C (Kd.int .i64) w A0 l0.length l0) (hc0 : l0.length ≤ c0) (hr1 : Kd.C (Kd.int .i64) w A1 l1.length l1) (hc1 : l1.length ≤ c1) (h : spec_l12Edit.f k l0 l1 a2 a3 = some r) :
    Calls Try.prog 76 #[.slice A0 l0.length c0, .slice A1 l1.length c1, .int .i64 a2, .int .i64 a3] w fun e w' => ∃ v0_ : Value, e = .returned (v0_) ∧ Kd.S (Kd.slice 2 (Kd.int .i64)) 22 w' w.heap.size (fun _ => True) v0_ r ∧ Below w.heap.size w w' := by
  have HR0 := Aside0.mk hr0
  have HC0 := Aside0.mk hc0
  clear hr0 hc0
  have HR1 := Aside0.mk hr1
  have HC1 := Aside0.mk hc1
  clear hr1 hc1
  have HB := Aside0.mk (Below.refl w.heap.size w)
  have H : (spec_l12Edit.l0 k l0 l1 a2 a3 (([] : List (List Int))) 0) = some r := h
  clear h
  obtain ⟨y954, hy954⟩ : ∃ y_ : List (List Int), y_ = (([] : List (List Int))) := ⟨_, rfl⟩
  replace H : (spec_l12Edit.l0 k l0 l1 a2 a3 y954 0) = some r := by first | (rw [hy954]; with_reducible exact H) | (have H2_ := (Option.bind_some _ _).symm.trans H; rw [hy954]; with_reducible exact H2_) | (have H2_ := (Option.bind_some _ _).symm.trans H; with_reducible exact H2_) | with_reducible exact H | (rw [hy954]; exact H) | exact H
  have Ny954 := Aside0.mk hy954
  clear hy954
  have H' := Aside0.mk H
  clear H
  go_enter Try.func76, Try.ntmps76
  go_wp2_with (first | ((with_reducible refine gate_dst (N := 14) rfl ?_); refine Kd.S_lit (Kd.slice 2 (Kd.int .i64)) _ 22 ?hg (N := 14) ?hd (xs := ([] : List (List Int))) (inner := []) (ok := fun _ => True) (okp := fun _ => True) ?hr ?hp (fun _ hk => hk) trivial (Below.refl _ _) (Nat.le_refl _) (by simp) ?_; (case hd => rfl); (case hg => rfl); (case hr => first | (go_simp; done) | (go_simp; rfl)); (case hp => exact (Reps.none _ _)); intro v955 w5 ho6 hb hg_ hnew_; clear hg_ hnew_; (first | rw [← Ny954.out] at ho6 | (simp only [Int.reduceToNat] at ho6; rw [← Ny954.out] at ho6)); have n0_ := Aside0.mk (Kd.S_lower ho6 (below_size (by repeat (first | (with_reducible first | exact HB.out | apply below_alloc | apply pw_below_drewN | apply below_drew1) | exact HB.out)))); have n1_ := Aside0.mk (below_step (by repeat (first | (with_reducible first | exact HB.out | apply below_alloc | apply pw_below_drewN | apply below_drew1) | exact HB.out)) hb); clear HB; have HO956 := n0_; have HB := n1_; clear n0_ n1_; clear hb ho6))
  go_loopg [9, 10] k (fun kq v9 v10 w' => ∃ (x9_1 : List (List Int)) (x10_1 : Int), v10 = .int .i64 x10_1 ∧ Aside0 (spec_l12Edit.l0 kq l0 l1 a2 a3 x9_1 x10_1 = some r) ∧ Aside0 (kq ≤ k) ∧ Aside0 (Kd.S (Kd.slice 2 (Kd.int .i64)) 22 w' w.heap.size (fun _ => True) v9 x9_1) ∧ Aside0 (Below w.heap.size w w'))
  case atStart => exact ⟨(y954), (0), (by first | rfl | (simp; done) | (simp [*]; done)), H', ⟨Nat.le_refl _⟩, ⟨by (with_reducible repeat (first | apply Kd.S_alloc | apply Kd.S_drewN | apply Kd.S_drew)); exact HO956.out⟩, ⟨by repeat (first | (with_reducible first | exact HB.out | apply below_alloc | apply pw_below_drewN | apply below_drew1) | exact HB.out)⟩⟩
  case round =>
    clear H'
    try clear c1
    try clear p2
    obtain ⟨x9_1, x10_1, rfl, HA, HK1, HO_9, HB⟩ := hrel
    cases gk with
    | zero => exact absurd HA.out (by simp [spec_l12Edit.l0])
    | succ k1 =>
      have H := HA.out
      clear HA
      simp only [spec_l12Edit.l0] at H
      by_cases c7 : x10_1 ≤ (l0.length : Int)
      · rw [if_pos c7] at H
        have c7b0 : decide (x10_1 ≤ (l0.length : Int)) = true := decide_eq_true c7
        clear c7
        obtain ⟨ji8, hji8⟩ : ∃ j_ : Int, (wrap64 ((l1.length : Int) + 1)) = j_ := ⟨_, rfl⟩
        replace H : (if 0 ≤ (ji8) then (if (ji8 : Int).toNat ≤ 35184372088832 then (if x9_1.length < 5864062014805 then (spec_l12Edit.l0 k1 l0 l1 a2 a3 (x9_1 ++ [(List.replicate (ji8 : Int).toNat 0)]) (wrap64 (x10_1 + 1))) else (none)) else (none)) else (none)) = some r := by first | (rw [hji8] at H; exact H) | (simp only [hji8] at H ⊢; exact H)
        have hji8w : (IntKind.i64.wrap ((l1.length : Int) + 1)) = ji8 := (i64_w _).trans hji8
        by_cases c9 : 0 ≤ (ji8)
        · rw [if_pos c9] at H
          have c9b0 := eq_true c9
          have c9b1 : decide (0 ≤ (ji8)) = true := decide_eq_true c9
          clear c9
          by_cases c10 : (ji8 : Int).toNat ≤ 35184372088832
          · rw [if_pos c10] at H
            have c10b0 := eq_true c10
            have c10b1 : decide ((ji8 : Int).toNat ≤ 35184372088832) = true := decide_eq_true c10
            clear c10
            obtain ⟨y957, hy957⟩ : ∃ y_ : List Int, y_ = (List.replicate (ji8 : Int).toNat 0) := ⟨_, rfl⟩
            replace H : (if x9_1.length < 5864062014805 then (spec_l12Edit.l0 k1 l0 l1 a2 a3 (x9_1 ++ [y957]) (wrap64 (x10_1 + 1))) else (none)) = some r := by first | (rw [hy957]; with_reducible exact H) | (have H2_ := (Option.bind_some _ _).symm.trans H; rw [hy957]; with_reducible exact H2_) | (have H2_ := (Option.bind_some _ _).symm.trans H; with_reducible exact H2_) | with_reducible exact H | (rw [hy957]; exact H) | exact H
            have Ny957 := Aside0.mk hy957
            clear hy957
            by_cases c11 : x9_1.length < 5864062014805
            · rw [if_pos c11] at H
              have LMc11 := Aside0.mk c11
              clear c11
              obtain ⟨y960, hy960⟩ : ∃ y_ : List (List Int), y_ = (x9_1 ++ [y957]) := ⟨_, rfl⟩
              replace H : (spec_l12Edit.l0 k1 l0 l1 a2 a3 y960 (wrap64 (x10_1 + 1))) = some r := by first | (rw [hy960]; with_reducible exact H) | (have H2_ := (Option.bind_some _ _).symm.trans H; rw [hy960]; with_reducible exact H2_) | (have H2_ := (Option.bind_some _ _).symm.trans H; with_reducible exact H2_) | with_reducible exact H | (rw [hy960]; exact H) | exact H
              have Ny960 := Aside0.mk hy960
              clear hy960
              have H' := Aside0.mk H
              clear H
              go_wp2_with (first | ((with_reducible refine gate_dst (N := 25) rfl ?_); refine Kd.R_make (Kd.int .i64) _ 2 rfl (N := 25) rfl 22 _ _ rfl ji8 rfl rfl Try.underlying22 (.int .i64 0) 8 info2 rfl (by decide) (by omega) 0 (ok := fun _ => True) (okp := fun _ => True) rfl (fun _ hk => hk) trivial (of_decide_eq_true (by first | (with_reducible assumption) | assumption)) (Nat.le_trans (Nat.mul_le_mul_right _ (of_decide_eq_true (by first | (with_reducible assumption) | assumption) : ji8.toNat ≤ 35184372088832)) (by omega)) (Below.refl _ _) (Nat.le_refl _) ?_; intro v958 w12 ho13 hb hg_ hnew_; clear hg_ hnew_; (first | rw [← Ny957.out] at ho13 | (simp only [Int.reduceToNat] at ho13; rw [← Ny957.out] at ho13)); have n0_ := Aside0.mk (Kd.S_elder' (by (with_reducible repeat (first | apply Kd.S_alloc | apply Kd.S_drewN | apply Kd.S_drew)); exact HO_9.out) (Kd.R_base ho13) hb); have n1_ := Aside0.mk (Kd.R_lower ho13 (below_size (by repeat (first | (with_reducible first | exact HB.out | apply below_alloc | apply pw_below_drewN | apply below_drew1) | exact HB.out)))); have n2_ := Aside0.mk (below_step (by repeat (first | (with_reducible first | exact HB.out | apply below_alloc | apply pw_below_drewN | apply below_drew1) | exact HB.out)) hb); clear HO_9; clear HB; have HO_9 := n0_; have HO959 := n1_; have HB := n2_; clear n0_ n1_ n2_; clear hb ho13; obtain ⟨Ao15, co15, eo15⟩ := Kd.R_slice HO959.out; subst eo15) | ((with_reducible refine gate_builtin (b := .append) (xs := #[.tmp 21, .tmp 26]) rfl ?_); at_builtin; refine Kd.S_append (Kd.slice 2 (Kd.int .i64)) (w0 := w) w.heap.size rfl (.tmp 21) (.tmp 26) 49 22 (.slice none 0 0) 24 rfl Try.underlying49 info22 rfl (by decide) (by omega) u9 x9_1 y957 [.slice Ao15 y957.length co15] (fun _ => True) (fun k_ => some k_ = (.slice Ao15 y957.length co15 : Value).ownBlock) rfl rfl ?aP (fun k_ hk_ => ((Kd.R_mono (ok' := fun k_ => ((fun _ => True)) k_ ∧ some k_ ≠ (u9 : Value).ownBlock) (Kd.R_apart' (HO959.out) (Kd.S_typed HO_9.out) (by decide)) (fun k_ hk => ⟨trivial, hk.2⟩))).1 k_ hk_.symm) ?aF ?aO ?aB ?aS ?aL ?_; (case aP => exact Kd.M_row (Kd.R_mono (Kd.R_tight rfl (Kd.R_mono (ok' := fun k_ => ((fun _ => True)) k_ ∧ some k_ ≠ (u9 : Value).ownBlock) (Kd.R_apart' (HO959.out) (Kd.S_typed HO_9.out) (by decide)) (fun k_ hk => ⟨trivial, hk.2⟩))) (fun _ h_ => h_))); (case aB => exact (by repeat (first | (with_reducible first | exact HB.out | apply below_alloc | apply pw_below_drewN | apply below_drew1) | exact HB.out))); (case aF => exact (fun _ _ => trivial)); (case aO => exact (by (with_reducible repeat (first | apply Kd.S_alloc | apply Kd.S_drewN | apply Kd.S_drew)); exact Kd.S_mono HO_9.out (fun k_ hk => ⟨trivial, fun e_ => hk.2 e_⟩))); (case aS => exact (below_size (by repeat (first | (with_reducible first | exact HB.out | apply below_alloc | apply pw_below_drewN | apply below_drew1) | exact HB.out)))); (case aL => have := LMc11.out; omega); intro v961 w14 ho hb hg hat; rw [← Ny960.out] at ho; have n0_ := Aside0.mk (hb); have n1_ := Aside0.mk (ho); clear HB; clear HO_9; clear HO959; have HB := n0_; have HO962 := n1_; clear n0_ n1_; clear ho hb hg hat))
              go_roundg k1
              case measure => have := HK1.out; omega
              case rel => exact ⟨(y960), (wrap64 (x10_1 + 1)), (by first | rfl | (simp; done) | (simp [*]; done)), H', ⟨by have := HK1.out; omega⟩, ⟨by (with_reducible repeat (first | apply Kd.S_alloc | apply Kd.S_drewN | apply Kd.S_drew)); exact HO962.out⟩, ⟨by repeat (first | (with_reducible first | exact HB.out | apply below_alloc | apply pw_below_drewN | apply below_drew1) | exact HB.out)⟩⟩
            · rw [if_neg c11] at H
              exact absurd H (by simp)
          · rw [if_neg c10] at H
            exact absurd H (by simp)
        · rw [if_neg c9] at H
          exact absurd H (by simp)
      · rw [if_neg c7] at H
        have c7b0 : decide (x10_1 ≤ (l0.length : Int)) = false := decide_eq_false c7
        clear c7
        have H' := Aside0.mk H
        clear H
        go_wp2
        go_loopg [11] k1 (fun kq v11 w' => ∃ (x9_2 : List (List Int)) (x11_2 : Int), v11 = .int .i64 x11_2 ∧ Aside0 (spec_l12Edit.l1 kq l0 l1 a2 a3 x9_2 x11_2 = some r) ∧ Aside0 (kq ≤ k1) ∧ Aside0 (Kd.S (Kd.slice 2 (Kd.int .i64)) 22 w' w.heap.size (fun _ => True) u9 x9_2) ∧ Aside0 (Below w.heap.size w w'))
        case atStart => exact ⟨(x9_1), ((l0.length : Int)), (by first | rfl | (simp; done) | (simp [*]; done)), H', ⟨Nat.le_refl _⟩, ⟨by (with_reducible repeat (first | apply Kd.S_alloc | apply Kd.S_drewN | apply Kd.S_drew)); exact HO_9.out⟩, ⟨by repeat (first | (with_reducible first | exact HB.out | apply below_alloc | apply pw_below_drewN | apply below_drew1) | exact HB.out)⟩⟩
        case round =>
          clear H'
          try clear c1
          try clear p2
          try clear p6
          try clear c7
          try clear c7b0
          try clear c9
          try clear c9b0
          try clear c9b1
          try clear c10
          try clear c10b0
          try clear c10b1
          try clear c11
          try clear p2
          obtain ⟨x9_2, x11_2, rfl, HA, HK2, HO_9, HB⟩ := hrel
          cases gk with
          | zero => exact absurd HA.out (by simp [spec_l12Edit.l1])
          | succ k2 =>
            have H := HA.out
            clear HA
            simp only [spec_l12Edit.l1] at H
            by_cases c16 : x11_2 ≥ 0
            · rw [if_pos c16] at H
              have c16b0 : decide (0 ≤ x11_2) = true := decide_eq_true c16
              clear c16
              have H' := Aside0.mk H
              clear H
              go_wp2
              go_loopg [12] k2 (fun kq v12 w' => ∃ (x9_3 : List (List Int)) (x12_3 : Int), v12 = .int .i64 x12_3 ∧ Aside0 (spec_l12Edit.l2 kq l0 l1 a2 a3 x9_3 x11_2 x12_3 = some r) ∧ Aside0 (kq ≤ k2) ∧ Aside0 (Kd.S (Kd.slice 2 (Kd.int .i64)) 22 w' w.heap.size (fun _ => True) u9 x9_3) ∧ Aside0 (Below w.heap.size w w'))
              case atStart => exact ⟨(x9_2), ((l1.length : Int)), (by first | rfl | (simp; done) | (simp [*]; done)), H', ⟨Nat.le_refl _⟩, ⟨by (with_reducible repeat (first | apply Kd.S_alloc | apply Kd.S_drewN | apply Kd.S_drew)); exact HO_9.out⟩, ⟨by repeat (first | (with_reducible first | exact HB.out | apply below_alloc | apply pw_below_drewN | apply below_drew1) | exact HB.out)⟩⟩
              case round =>
                clear H'
                try clear c1
                try clear p2
                try clear p6
                try clear c7
                try clear c7b0
                try clear c9
                try clear c9b0
                try clear c9b1
                try clear c10
                try clear c10b0
                try clear c10b1
                try clear c11
                try clear c16
                try clear c16b0
                try clear p2
                try clear p6
                obtain ⟨x9_3, x12_3, rfl, HA, HK3, HO_9, HB⟩ := hrel
                cases gk with
                | zero => exact absurd HA.out (by simp [spec_l12Edit.l2])
                | succ k3 =>
                  have H := HA.out
                  clear HA
                  simp only [spec_l12Edit.l2] at H
                  by_cases c17 : x12_3 ≥ 0
                  · rw [if_pos c17] at H
                    have c17b0 : decide (0 ≤ x12_3) = true := decide_eq_true c17
                    clear c17
                    by_cases c18 : x11_2 = (l0.length : Int)
                    · rw [if_pos c18] at H
                      have c18b0 : (x11_2 == (l0.length : Int)) = true := beq_iff_eq.mpr c18
                      have c18b1 : (x11_2 != (l0.length : Int)) = false := bne_eq_false_iff_eq.mpr c18
                      clear c18
                      by_cases c19 : 0 ≤ x11_2
                      · rw [if_pos c19] at H
                        have c19b0 : decide (0 ≤ x11_2) = true := decide_eq_true c19
                        clear c19
                        by_cases c20 : x11_2 < (x9_3.length : Int)
                        · rw [if_pos c20] at H
                          have c20b0 : decide (x11_2 < (x9_3.length : Int)) = true := decide_eq_true c20
                          clear c20
                          by_cases c21 : 0 ≤ x12_3
                          · rw [if_pos c21] at H
                            have c21b0 : decide (0 ≤ x12_3) = true := decide_eq_true c21
                            clear c21
                            by_cases c22 : x12_3 < ((rd_L1 x9_3 x11_2).length : Int)
                            · rw [if_pos c22] at H
                              have c22b0 : decide (x12_3 < ((rd_L1 x9_3 x11_2).length : Int)) = true := decide_eq_true c22
                              clear c22
                              obtain ⟨y964, hy964⟩ : ∃ y_ : List Int, y_ = ((rd_L1 x9_3 x11_2).set (x12_3 : Int).toNat (wrap64 (a3 * (wrap64 ((l1.length : Int) - x12_3))))) := ⟨_, rfl⟩
                              replace H : (spec_l12Edit.l2 k3 l0 l1 a2 a3 (x9_3.set (x11_2 : Int).toNat y964) x11_2 (wrap64 (x12_3 - 1))) = some r := by first | (rw [hy964]; with_reducible exact H) | (have H2_ := (Option.bind_some _ _).symm.trans H; rw [hy964]; with_reducible exact H2_) | (have H2_ := (Option.bind_some _ _).symm.trans H; with_reducible exact H2_) | with_reducible exact H | (rw [hy964]; exact H) | exact H
                              have Ny964 := Aside0.mk hy964
                              clear hy964
                              obtain ⟨y966, hy966⟩ : ∃ y_ : List (List Int), y_ = (x9_3.set (x11_2 : Int).toNat y964) := ⟨_, rfl⟩
                              replace H : (spec_l12Edit.l2 k3 l0 l1 a2 a3 y966 x11_2 (wrap64 (x12_3 - 1))) = some r := by first | (rw [hy966]; with_reducible exact H) | (have H2_ := (Option.bind_some _ _).symm.trans H; rw [hy966]; with_reducible exact H2_) | (have H2_ := (Option.bind_some _ _).symm.trans H; with_reducible exact H2_) | with_reducible exact H | (rw [hy966]; exact H) | exact H
                              have Ny966 := Aside0.mk hy966
                              clear hy966
                              have H' := Aside0.mk H
                              clear H
                              obtain ⟨Ao24, co24, eo24⟩ := Kd.S_slice HO_9.out
                              subst eo24
                              have p963 : 0 ≤ (x11_2 : Int) := of_decide_eq_true (by first | (with_reducible assumption) | assumption)
                              have q963 : x11_2 < (x9_3.length : Int) := of_decide_eq_true (by first | (with_reducible assumption) | assumption)
                              obtain ⟨ad963, A963_0, c963_0, e963, hx963_0, hl963_0, hi963_0⟩ := at_L1 (Kd.S_reads' HO_9.out).2.2 x11_2 p963 q963
                              cases e963
                              obtain ⟨ce963, hce963, hMe963, hcc963⟩ := Kd.S_get HO_9.out [] x11_2 p963 (by first | exact q963 | exact of_decide_eq_true (by first | (with_reducible assumption) | assumption) | (have e_ := (Kd.S_reads' HO_9.out).1; omega))
                              obtain ⟨ve963_0, rfl, ge963_0⟩ := hMe963
                              have hv963_0 := hcc963 0 _ rfl
                              rw [Nat.add_zero, show ((Kd.slice 2 (Kd.int .i64))).sz = 1 from rfl, Nat.mul_one] at hv963_0
                              replace hv963_0 := Option.some.inj (hv963_0.symm.trans hx963_0)
                              rw [hv963_0] at ge963_0
                              have HL963_0 := Aside0.mk (show Kd.R (Kd.int .i64) 2 _ _ _ _ (rd_L1 x9_3 x11_2) from ge963_0)
                              clear hv963_0 ge963_0
                              have HX963_0 := Aside0.mk hx963_0
                              clear hcc963 hce963
                              have HR963_0 := Aside0.mk hi963_0
                              have HC963_0 := Aside0.mk hl963_0
                              clear hi963_0 hl963_0
                              replace p963 := eq_true p963
                              replace q963 := eq_true q963
                              have p23 : 0 ≤ (x12_3 : Int) := of_decide_eq_true (by first | (with_reducible assumption) | assumption)
                              have q23 : (x12_3 : Int) < (((rd_L1 x9_3 x11_2).length : Int) : Int) := of_decide_eq_true (by first | (with_reducible assumption) | assumption)
                              obtain ⟨go23, co23, eo23, gb23, gl23, cl23, HG23⟩ := Kd.R_form HL963_0.out (by omega)
                              (first | cases eo23 | (injection eo23 with ea_ en_ ec_; (first | subst ea_ | (injection ea_ with ea_; subst ea_)); subst ec_; clear en_))
                              have GB23 := Aside0.mk gb23
                              have GG23 := Aside0.mk HG23
                              clear gb23 gl23 HG23
                              obtain ⟨hx23_0, hf23_0⟩ := Kd.R_celln 0 HL963_0.out (x12_3 : Int) p23 q23
                              replace p23 := eq_true p23
                              replace q23 := eq_true q23
                              have hq25 : (x11_2 : Int) < (x9_3.length : Int) := (by have h_ : (x11_2 : Int) < ((x9_3.length : Int) : Int) := of_decide_eq_true (by first | (with_reducible assumption) | assumption); first | exact h_ | (have e_ := (Kd.S_reads' HO_9.out).1; omega) | simpa only [List.length_set, List.length_set] using h_)
                              obtain ⟨oki25, ce25, hcl25, hM25, hcc25, hok25, hbk25⟩ := Kd.S_borrow HO_9.out [] (x11_2 : Int) (of_decide_eq_true (by first | (with_reducible assumption) | assumption)) hq25
                              obtain ⟨ve25_0, rfl, ge25_0⟩ := hM25
                              have hv25 := hcc25 0 _ rfl
                              rw [Nat.add_zero, show ((Kd.slice 2 (Kd.int .i64))).sz = 1 from rfl, Nat.mul_one] at hv25
                              replace hv25 := Option.some.inj (hv25.symm.trans HX963_0.out)
                              subst hv25
                              clear hcc25 hcl25
                              replace ge25_0 := (show Kd.R (Kd.int .i64) 2 _ _ _ _ (rd_L1 x9_3 x11_2) from ge25_0)
                              have HP25 := Kd.R_putg ge25_0 (x12_3 : Int) (wrap64 (a3 * (wrap64 ((l1.length : Int) - x12_3))))
                              go_wp2_with (first | ((with_reducible refine gate_store (t := 2) (p := 55) rfl ?_); refine store_event (t := 2) (p := 55) (v := ?vo_w26) (w1 := (wr.setCell ⟨go23, (x12_3 : Int).toNat, none⟩ (.int .i64 (wrap64 (a3 * (wrap64 ((l1.length : Int) - x12_3))))))) ?hg ?ho ?hn ?hr ?_; (case ho => rfl); (case hg => rfl); (case hn => rfl); (case hr => first | (go_simp; done) | (go_simp; rfl)); intro w26 hw; have hg : wr.grownBy w26 (some go23) := (by rw [hw]; exact HP25.2); have hz_ : Kd.R (Kd.int .i64) 2 w26 w.heap.size oki25 (.slice (some ⟨go23, 0, none⟩) (rd_L1 x9_3 x11_2).length c963_0) y964 := (by rw [hw, Ny964.out]; exact HP25.1); have hp_ : Kd.S (Kd.slice 2 (Kd.int .i64)) 22 w26 w.heap.size (fun _ => True) (.slice (some ad963) x9_3.length co24) y966 := (by rw [Ny966.out]; exact hbk25 hg (fun k_ e_ => by injection e_ with e_; subst e_; exact ge25_0.1 _ rfl) (Kd.M_row hz_)); have hm_ := Kd.R_mono hz_ hok25; clear HP25 hbk25; have n0_ := Aside0.mk (hp_); have n1_ := Aside0.mk ((by rw [hw]; exact below_set (HB.out) GB23.out : Below w.heap.size w w26)); have n2_ := Aside0.mk (hm_); have n3_ := Aside0.mk ((Kd.R_reads' hm_).2.1); clear HO_9; clear HB; clear HL963_0; have HO_9 := n0_; have HB := n1_; have HL995 := n2_; have HC965 := n3_; clear n0_ n1_ n2_ n3_; clear hg hw hp_ hz_ hm_ hok25))
                              go_roundg k3
                              case measure => have := HK1.out; have := HK2.out; have := HK3.out; omega
                              case rel => exact ⟨(y966), (wrap64 (x12_3 - 1)), (by first | rfl | (simp; done) | (simp [*]; done)), H', ⟨by have := HK1.out; have := HK2.out; have := HK3.out; omega⟩, ⟨by (with_reducible repeat (first | apply Kd.S_alloc | apply Kd.S_drewN | apply Kd.S_drew)); exact HO_9.out⟩, ⟨by repeat (first | (with_reducible first | exact HB.out | apply below_alloc | apply pw_below_drewN | apply below_drew1) | exact HB.out)⟩⟩
                            · rw [if_neg c22] at H
                              exact absurd H (by simp)
                          · rw [if_neg c21] at H
                            exact absurd H (by simp)
                        · rw [if_neg c20] at H
                          exact absurd H (by simp)
                      · rw [if_neg c19] at H
                        exact absurd H (by simp)
                    · rw [if_neg c18] at H
                      have c18b0 : (x11_2 == (l0.length : Int)) = false := beq_eq_false_iff_ne.mpr c18
                      have c18b1 : (x11_2 != (l0.length : Int)) = true := bne_iff_ne.mpr c18
                      by_cases c27 : x12_3 = (l1.length : Int)
                      · rw [if_pos c27] at H
                        have c27b0 : (x12_3 == (l1.length : Int)) = true := beq_iff_eq.mpr c27
                        have c27b1 : (x12_3 != (l1.length : Int)) = false := bne_eq_false_iff_eq.mpr c27
                        clear c27
                        by_cases c28 : 0 ≤ x11_2
                        · rw [if_pos c28] at H
                          have c28b0 : decide (0 ≤ x11_2) = true := decide_eq_true c28
                          clear c28
                          by_cases c29 : x11_2 < (x9_3.length : Int)
                          · rw [if_pos c29] at H
                            have c29b0 : decide (x11_2 < (x9_3.length : Int)) = true := decide_eq_true c29
                            clear c29
                            by_cases c30 : 0 ≤ x12_3
                            · rw [if_pos c30] at H
                              have c30b0 : decide (0 ≤ x12_3) = true := decide_eq_true c30
                              clear c30
                              by_cases c31 : x12_3 < ((rd_L1 x9_3 x11_2).length : Int)
                              · rw [if_pos c31] at H
                                have c31b0 : decide (x12_3 < ((rd_L1 x9_3 x11_2).length : Int)) = true := decide_eq_true c31
                                clear c31
                                obtain ⟨y968, hy968⟩ : ∃ y_ : List Int, y_ = ((rd_L1 x9_3 x11_2).set (x12_3 : Int).toNat (wrap64 (a3 * (wrap64 ((l0.length : Int) - x11_2))))) := ⟨_, rfl⟩
                                replace H : (spec_l12Edit.l2 k3 l0 l1 a2 a3 (x9_3.set (x11_2 : Int).toNat y968) x11_2 (wrap64 (x12_3 - 1))) = some r := by first | (rw [hy968]; with_reducible exact H) | (have H2_ := (Option.bind_some _ _).symm.trans H; rw [hy968]; with_reducible exact H2_) | (have H2_ := (Option.bind_some _ _).symm.trans H; with_reducible exact H2_) | with_reducible exact H | (rw [hy968]; exact H) | exact H
                                have Ny968 := Aside0.mk hy968
                                clear hy968
                                obtain ⟨y970, hy970⟩ : ∃ y_ : List (List Int), y_ = (x9_3.set (x11_2 : Int).toNat y968) := ⟨_, rfl⟩
                                replace H : (spec_l12Edit.l2 k3 l0 l1 a2 a3 y970 x11_2 (wrap64 (x12_3 - 1))) = some r := by first | (rw [hy970]; with_reducible exact H) | (have H2_ := (Option.bind_some _ _).symm.trans H; rw [hy970]; with_reducible exact H2_) | (have H2_ := (Option.bind_some _ _).symm.trans H; with_reducible exact H2_) | with_reducible exact H | (rw [hy970]; exact H) | exact H
                                have Ny970 := Aside0.mk hy970
                                clear hy970
                                have H' := Aside0.mk H
                                clear H
                                obtain ⟨Ao33, co33, eo33⟩ := Kd.S_slice HO_9.out
                                subst eo33
                                have p967 : 0 ≤ (x11_2 : Int) := of_decide_eq_true (by first | (with_reducible assumption) | assumption)
                                have q967 : x11_2 < (x9_3.length : Int) := of_decide_eq_true (by first | (with_reducible assumption) | assumption)
                                obtain ⟨ad967, A967_0, c967_0, e967, hx967_0, hl967_0, hi967_0⟩ := at_L1 (Kd.S_reads' HO_9.out).2.2 x11_2 p967 q967
                                cases e967
                                obtain ⟨ce967, hce967, hMe967, hcc967⟩ := Kd.S_get HO_9.out [] x11_2 p967 (by first | exact q967 | exact of_decide_eq_true (by first | (with_reducible assumption) | assumption) | (have e_ := (Kd.S_reads' HO_9.out).1; omega))
                                obtain ⟨ve967_0, rfl, ge967_0⟩ := hMe967
                                have hv967_0 := hcc967 0 _ rfl
                                rw [Nat.add_zero, show ((Kd.slice 2 (Kd.int .i64))).sz = 1 from rfl, Nat.mul_one] at hv967_0
                                replace hv967_0 := Option.some.inj (hv967_0.symm.trans hx967_0)
                                rw [hv967_0] at ge967_0
                                have HL967_0 := Aside0.mk (show Kd.R (Kd.int .i64) 2 _ _ _ _ (rd_L1 x9_3 x11_2) from ge967_0)
                                clear hv967_0 ge967_0
                                have HX967_0 := Aside0.mk hx967_0
                                clear hcc967 hce967
                                have HR967_0 := Aside0.mk hi967_0
                                have HC967_0 := Aside0.mk hl967_0
                                clear hi967_0 hl967_0
                                replace p967 := eq_true p967
                                replace q967 := eq_true q967
                                have p32 : 0 ≤ (x12_3 : Int) := of_decide_eq_true (by first | (with_reducible assumption) | assumption)
                                have q32 : (x12_3 : Int) < (((rd_L1 x9_3 x11_2).length : Int) : Int) := of_decide_eq_true (by first | (with_reducible assumption) | assumption)
                                obtain ⟨go32, co32, eo32, gb32, gl32, cl32, HG32⟩ := Kd.R_form HL967_0.out (by omega)
                                (first | cases eo32 | (injection eo32 with ea_ en_ ec_; (first | subst ea_ | (injection ea_ with ea_; subst ea_)); subst ec_; clear en_))
                                have GB32 := Aside0.mk gb32
                                have GG32 := Aside0.mk HG32
                                clear gb32 gl32 HG32
                                obtain ⟨hx32_0, hf32_0⟩ := Kd.R_celln 0 HL967_0.out (x12_3 : Int) p32 q32
                                replace p32 := eq_true p32
                                replace q32 := eq_true q32
                                have hq34 : (x11_2 : Int) < (x9_3.length : Int) := (by have h_ : (x11_2 : Int) < ((x9_3.length : Int) : Int) := of_decide_eq_true (by first | (with_reducible assumption) | assumption); first | exact h_ | (have e_ := (Kd.S_reads' HO_9.out).1; omega) | simpa only [List.length_set, List.length_set] using h_)
                                obtain ⟨oki34, ce34, hcl34, hM34, hcc34, hok34, hbk34⟩ := Kd.S_borrow HO_9.out [] (x11_2 : Int) (of_decide_eq_true (by first | (with_reducible assumption) | assumption)) hq34
                                obtain ⟨ve34_0, rfl, ge34_0⟩ := hM34
                                have hv34 := hcc34 0 _ rfl
                                rw [Nat.add_zero, show ((Kd.slice 2 (Kd.int .i64))).sz = 1 from rfl, Nat.mul_one] at hv34
                                replace hv34 := Option.some.inj (hv34.symm.trans HX967_0.out)
                                subst hv34
                                clear hcc34 hcl34
                                replace ge34_0 := (show Kd.R (Kd.int .i64) 2 _ _ _ _ (rd_L1 x9_3 x11_2) from ge34_0)
                                have HP34 := Kd.R_putg ge34_0 (x12_3 : Int) (wrap64 (a3 * (wrap64 ((l0.length : Int) - x11_2))))
                                go_wp2_with (first | ((with_reducible refine gate_store (t := 2) (p := 71) rfl ?_); refine store_event (t := 2) (p := 71) (v := ?vo_w35) (w1 := (wr.setCell ⟨go32, (x12_3 : Int).toNat, none⟩ (.int .i64 (wrap64 (a3 * (wrap64 ((l0.length : Int) - x11_2))))))) ?hg ?ho ?hn ?hr ?_; (case ho => rfl); (case hg => rfl); (case hn => rfl); (case hr => first | (go_simp; done) | (go_simp; rfl)); intro w35 hw; have hg : wr.grownBy w35 (some go32) := (by rw [hw]; exact HP34.2); have hz_ : Kd.R (Kd.int .i64) 2 w35 w.heap.size oki34 (.slice (some ⟨go32, 0, none⟩) (rd_L1 x9_3 x11_2).length c967_0) y968 := (by rw [hw, Ny968.out]; exact HP34.1); have hp_ : Kd.S (Kd.slice 2 (Kd.int .i64)) 22 w35 w.heap.size (fun _ => True) (.slice (some ad967) x9_3.length co33) y970 := (by rw [Ny970.out]; exact hbk34 hg (fun k_ e_ => by injection e_ with e_; subst e_; exact ge34_0.1 _ rfl) (Kd.M_row hz_)); have hm_ := Kd.R_mono hz_ hok34; clear HP34 hbk34; have n0_ := Aside0.mk (hp_); have n1_ := Aside0.mk ((by rw [hw]; exact below_set (HB.out) GB32.out : Below w.heap.size w w35)); have n2_ := Aside0.mk (hm_); have n3_ := Aside0.mk ((Kd.R_reads' hm_).2.1); clear HO_9; clear HB; clear HL967_0; have HO_9 := n0_; have HB := n1_; have HL996 := n2_; have HC969 := n3_; clear n0_ n1_ n2_ n3_; clear hg hw hp_ hz_ hm_ hok34))
                                go_roundg k3
                                case measure => have := HK1.out; have := HK2.out; have := HK3.out; omega
                                case rel => exact ⟨(y970), (wrap64 (x12_3 - 1)), (by first | rfl | (simp; done) | (simp [*]; done)), H', ⟨by have := HK1.out; have := HK2.out; have := HK3.out; omega⟩, ⟨by (with_reducible repeat (first | apply Kd.S_alloc | apply Kd.S_drewN | apply Kd.S_drew)); exact HO_9.out⟩, ⟨by repeat (first | (with_reducible first | exact HB.out | apply below_alloc | apply pw_below_drewN | apply below_drew1) | exact HB.out)⟩⟩
                              · rw [if_neg c31] at H
                                exact absurd H (by simp)
                            · rw [if_neg c30] at H
                              exact absurd H (by simp)
                          · rw [if_neg c29] at H
                            exact absurd H (by simp)
                        · rw [if_neg c28] at H
                          exact absurd H (by simp)
                      · rw [if_neg c27] at H
                        have c27b0 : (x12_3 == (l1.length : Int)) = false := beq_eq_false_iff_ne.mpr c27
                        have c27b1 : (x12_3 != (l1.length : Int)) = true := bne_iff_ne.mpr c27
                        obtain ⟨ji36, hji36⟩ : ∃ j_ : Int, (wrap64 (x11_2 + 1)) = j_ := ⟨_, rfl⟩
                        replace H : (if 0 ≤ (ji36) then (if (ji36) < (x9_3.length : Int) then (if 0 ≤ (wrap64 (x12_3 + 1)) then (if (wrap64 (x12_3 + 1)) < ((rd_L1 x9_3 (ji36)).length : Int) then (if 0 ≤ x11_2 then (if x11_2 < (l0.length : Int) then (if 0 ≤ x12_3 then (if x12_3 < (l1.length : Int) then (if (rd l0 x11_2) = (rd l1 x12_3) then (if x12_3 < ((rd_L1 x9_3 (ji36)).length : Int) then ((spec_l00Min.f (rd (rd_L1 x9_3 (ji36)) (wrap64 (x12_3 + 1))) (wrap64 ((rd (rd_L1 x9_3 (ji36)) x12_3) + a3))).bind fun t977 => (if x11_2 < (x9_3.length : Int) then (if (wrap64 (x12_3 + 1)) < ((rd_L1 x9_3 x11_2).length : Int) then ((spec_l00Min.f t977 (wrap64 ((rd (rd_L1 x9_3 x11_2) (wrap64 (x12_3 + 1))) + a3))).bind fun t981 => (if x12_3 < ((rd_L1 x9_3 x11_2).length : Int) then (spec_l12Edit.l2 k3 l0 l1 a2 a3 (x9_3.set (x11_2 : Int).toNat ((rd_L1 x9_3 x11_2).set (x12_3 : Int).toNat t981)) x11_2 (wrap64 (x12_3 - 1))) else (none))) else (none)) else (none))) else (none)) else (if x12_3 < ((rd_L1 x9_3 (ji36)).length : Int) then ((spec_l00Min.f (wrap64 ((rd (rd_L1 x9_3 (ji36)) (wrap64 (x12_3 + 1))) + a2)) (wrap64 ((rd (rd_L1 x9_3 (ji36)) x12_3) + a3))).bind fun t987 => (if x11_2 < (x9_3.length : Int) then (if (wrap64 (x12_3 + 1)) < ((rd_L1 x9_3 x11_2).length : Int) then ((spec_l00Min.f t987 (wrap64 ((rd (rd_L1 x9_3 x11_2) (wrap64 (x12_3 + 1))) + a3))).bind fun t991 => (if x12_3 < ((rd_L1 x9_3 x11_2).length : Int) then (spec_l12Edit.l2 k3 l0 l1 a2 a3 (x9_3.set (x11_2 : Int).toNat ((rd_L1 x9_3 x11_2).set (x12_3 : Int).toNat t991)) x11_2 (wrap64 (x12_3 - 1))) else (none))) else (none)) else (none))) else (none))) else (none)) else (none)) else (none)) else (none)) else (none)) else (none)) else (none)) else (none)) = some r := by first | (rw [hji36] at H; exact H) | (simp only [hji36] at H ⊢; exact H)
                        have hji36w : (IntKind.i64.wrap (x11_2 + 1)) = ji36 := (i64_w _).trans hji36
                        by_cases c37 : 0 ≤ (ji36)
                        · rw [if_pos c37] at H
                          have c37b0 : decide (0 ≤ (ji36)) = true := decide_eq_true c37
                          clear c37
                          by_cases c38 : (ji36) < (x9_3.length : Int)
                          · rw [if_pos c38] at H
                            have c38b0 : decide ((ji36) < (x9_3.length : Int)) = true := decide_eq_true c38
                            clear c38
                            obtain ⟨ji39, hji39⟩ : ∃ j_ : Int, (wrap64 (x12_3 + 1)) = j_ := ⟨_, rfl⟩
                            replace H : (if 0 ≤ (ji39) then (if (ji39) < ((rd_L1 x9_3 (ji36)).length : Int) then (if 0 ≤ x11_2 then (if x11_2 < (l0.length : Int) then (if 0 ≤ x12_3 then (if x12_3 < (l1.length : Int) then (if (rd l0 x11_2) = (rd l1 x12_3) then (if x12_3 < ((rd_L1 x9_3 (ji36)).length : Int) then ((spec_l00Min.f (rd (rd_L1 x9_3 (ji36)) (ji39)) (wrap64 ((rd (rd_L1 x9_3 (ji36)) x12_3) + a3))).bind fun t977 => (if x11_2 < (x9_3.length : Int) then (if (ji39) < ((rd_L1 x9_3 x11_2).length : Int) then ((spec_l00Min.f t977 (wrap64 ((rd (rd_L1 x9_3 x11_2) (ji39)) + a3))).bind fun t981 => (if x12_3 < ((rd_L1 x9_3 x11_2).length : Int) then (spec_l12Edit.l2 k3 l0 l1 a2 a3 (x9_3.set (x11_2 : Int).toNat ((rd_L1 x9_3 x11_2).set (x12_3 : Int).toNat t981)) x11_2 (wrap64 (x12_3 - 1))) else (none))) else (none)) else (none))) else (none)) else (if x12_3 < ((rd_L1 x9_3 (ji36)).length : Int) then ((spec_l00Min.f (wrap64 ((rd (rd_L1 x9_3 (ji36)) (ji39)) + a2)) (wrap64 ((rd (rd_L1 x9_3 (ji36)) x12_3) + a3))).bind fun t987 => (if x11_2 < (x9_3.length : Int) then (if (ji39) < ((rd_L1 x9_3 x11_2).length : Int) then ((spec_l00Min.f t987 (wrap64 ((rd (rd_L1 x9_3 x11_2) (ji39)) + a3))).bind fun t991 => (if x12_3 < ((rd_L1 x9_3 x11_2).length : Int) then (spec_l12Edit.l2 k3 l0 l1 a2 a3 (x9_3.set (x11_2 : Int).toNat ((rd_L1 x9_3 x11_2).set (x12_3 : Int).toNat t991)) x11_2 (wrap64 (x12_3 - 1))) else (none))) else (none)) else (none))) else (none))) else (none)) else (none)) else (none)) else (none)) else (none)) else (none)) = some r := by first | (rw [hji39] at H; exact H) | (simp only [hji39] at H ⊢; exact H)
                            have hji39w : (IntKind.i64.wrap (x12_3 + 1)) = ji39 := (i64_w _).trans hji39
                            by_cases c40 : 0 ≤ (ji39)
                            · rw [if_pos c40] at H
                              have c40b0 : decide (0 ≤ (ji39)) = true := decide_eq_true c40
                              clear c40
                              by_cases c41 : (ji39) < ((rd_L1 x9_3 (ji36)).length : Int)
                              · rw [if_pos c41] at H
                                have c41b0 : decide ((ji39) < ((rd_L1 x9_3 (ji36)).length : Int)) = true := decide_eq_true c41
                                clear c41
                                by_cases c42 : 0 ≤ x11_2
                                · rw [if_pos c42] at H
                                  have c42b0 : decide (0 ≤ x11_2) = true := decide_eq_true c42
                                  clear c42
                                  by_cases c43 : x11_2 < (l0.length : Int)
                                  · rw [if_pos c43] at H
                                    have c43b0 : decide (x11_2 < (l0.length : Int)) = true := decide_eq_true c43
                                    clear c43
                                    by_cases c44 : 0 ≤ x12_3
                                    · rw [if_pos c44] at H
                                      have c44b0 : decide (0 ≤ x12_3) = true := decide_eq_true c44
                                      clear c44
                                      by_cases c45 : x12_3 < (l1.length : Int)
                                      · rw [if_pos c45] at H
                                        have c45b0 : decide (x12_3 < (l1.length : Int)) = true := decide_eq_true c45
                                        clear c45
                                        by_cases c46 : (rd l0 x11_2) = (rd l1 x12_3)
                                        · rw [if_pos c46] at H
                                          have c46b0 : ((rd l0 x11_2) == (rd l1 x12_3)) = true := beq_iff_eq.mpr c46
                                          have c46b1 : ((rd l0 x11_2) != (rd l1 x12_3)) = false := bne_eq_false_iff_eq.mpr c46
                                          clear c46
                                          by_cases c47 : x12_3 < ((rd_L1 x9_3 (ji36)).length : Int)
                                          · rw [if_pos c47] at H
                                            have c47b0 : decide (x12_3 < ((rd_L1 x9_3 (ji36)).length : Int)) = true := decide_eq_true c47
                                            clear c47
                                            replace H := Option.bind_eq_some_iff.mp H
                                            obtain ⟨t977, A480, H⟩ := H
                                            replace H : (if x11_2 < (x9_3.length : Int) then (if (ji39) < ((rd_L1 x9_3 x11_2).length : Int) then ((spec_l00Min.f t977 (wrap64 ((rd (rd_L1 x9_3 x11_2) (ji39)) + a3))).bind fun t981 => (if x12_3 < ((rd_L1 x9_3 x11_2).length : Int) then (spec_l12Edit.l2 k3 l0 l1 a2 a3 (x9_3.set (x11_2 : Int).toNat ((rd_L1 x9_3 x11_2).set (x12_3 : Int).toNat t981)) x11_2 (wrap64 (x12_3 - 1))) else (none))) else (none)) else (none)) = some r := H
                                            have A48 := Aside0.mk A480
                                            clear A480
                                            by_cases c49 : x11_2 < (x9_3.length : Int)
                                            · rw [if_pos c49] at H
                                              have c49b0 : decide (x11_2 < (x9_3.length : Int)) = true := decide_eq_true c49
                                              clear c49
                                              by_cases c50 : (ji39) < ((rd_L1 x9_3 x11_2).length : Int)
                                              · rw [if_pos c50] at H
                                                have c50b0 : decide ((ji39) < ((rd_L1 x9_3 x11_2).length : Int)) = true := decide_eq_true c50
                                                clear c50
                                                replace H := Option.bind_eq_some_iff.mp H
                                                obtain ⟨t981, A510, H⟩ := H
                                                replace H : (if x12_3 < ((rd_L1 x9_3 x11_2).length : Int) then (spec_l12Edit.l2 k3 l0 l1 a2 a3 (x9_3.set (x11_2 : Int).toNat ((rd_L1 x9_3 x11_2).set (x12_3 : Int).toNat t981)) x11_2 (wrap64 (x12_3 - 1))) else (none)) = some r := H
                                                have A51 := Aside0.mk A510
                                                clear A510
                                                by_cases c52 : x12_3 < ((rd_L1 x9_3 x11_2).length : Int)
                                                · rw [if_pos c52] at H
                                                  have c52b0 : decide (x12_3 < ((rd_L1 x9_3 x11_2).length : Int)) = true := decide_eq_true c52
                                                  clear c52
                                                  obtain ⟨y982, hy982⟩ : ∃ y_ : List Int, y_ = ((rd_L1 x9_3 x11_2).set (x12_3 : Int).toNat t981) := ⟨_, rfl⟩
                                                  replace H : (spec_l12Edit.l2 k3 l0 l1 a2 a3 (x9_3.set (x11_2 : Int).toNat y982) x11_2 (wrap64 (x12_3 - 1))) = some r := by first | (rw [hy982]; with_reducible exact H) | (have H2_ := (Option.bind_some _ _).symm.trans H; rw [hy982]; with_reducible exact H2_) | (have H2_ := (Option.bind_some _ _).symm.trans H; with_reducible exact H2_) | with_reducible exact H | (rw [hy982]; exact H) | exact H
                                                  have Ny982 := Aside0.mk hy982
                                                  clear hy982
                                                  obtain ⟨y984, hy984⟩ : ∃ y_ : List (List Int), y_ = (x9_3.set (x11_2 : Int).toNat y982) := ⟨_, rfl⟩
                                                  replace H : (spec_l12Edit.l2 k3 l0 l1 a2 a3 y984 x11_2 (wrap64 (x12_3 - 1))) = some r := by first | (rw [hy984]; with_reducible exact H) | (have H2_ := (Option.bind_some _ _).symm.trans H; rw [hy984]; with_reducible exact H2_) | (have H2_ := (Option.bind_some _ _).symm.trans H; with_reducible exact H2_) | with_reducible exact H | (rw [hy984]; exact H) | exact H
                                                  have Ny984 := Aside0.mk hy984
                                                  clear hy984
                                                  have H' := Aside0.mk H
                                                  clear H
                                                  obtain ⟨Ao54, co54, eo54⟩ := Kd.S_slice HO_9.out
                                                  subst eo54
                                                  have p971 : 0 ≤ ((ji36) : Int) := of_decide_eq_true (by first | (with_reducible assumption) | assumption)
                                                  have q971 : (ji36) < (x9_3.length : Int) := of_decide_eq_true (by first | (with_reducible assumption) | assumption)
                                                  obtain ⟨ad971, A971_0, c971_0, e971, hx971_0, hl971_0, hi971_0⟩ := at_L1 (Kd.S_reads' HO_9.out).2.2 (ji36) p971 q971
                                                  cases e971
                                                  obtain ⟨ce971, hce971, hMe971, hcc971⟩ := Kd.S_get HO_9.out [] (ji36) p971 (by first | exact q971 | exact of_decide_eq_true (by first | (with_reducible assumption) | assumption) | (have e_ := (Kd.S_reads' HO_9.out).1; omega))
                                                  obtain ⟨ve971_0, rfl, ge971_0⟩ := hMe971
                                                  have hv971_0 := hcc971 0 _ rfl
                                                  rw [Nat.add_zero, show ((Kd.slice 2 (Kd.int .i64))).sz = 1 from rfl, Nat.mul_one] at hv971_0
                                                  replace hv971_0 := Option.some.inj (hv971_0.symm.trans hx971_0)
                                                  rw [hv971_0] at ge971_0
                                                  have HL971_0 := Aside0.mk (show Kd.R (Kd.int .i64) 2 _ _ _ _ (rd_L1 x9_3 (ji36)) from ge971_0)
                                                  clear hv971_0 ge971_0
                                                  have HX971_0 := Aside0.mk hx971_0
                                                  clear hcc971 hce971
                                                  have HR971_0 := Aside0.mk hi971_0
                                                  have HC971_0 := Aside0.mk hl971_0
                                                  clear hi971_0 hl971_0
                                                  replace p971 := eq_true p971
                                                  replace q971 := eq_true q971
                                                  have p972 : 0 ≤ ((ji39) : Int) := of_decide_eq_true (by first | (with_reducible assumption) | assumption)
                                                  have q972 : (ji39) < ((rd_L1 x9_3 (ji36)).length : Int) := of_decide_eq_true (by first | (with_reducible assumption) | assumption)
                                                  obtain ⟨ad972, e972, hx972_0⟩ := Kd.at_int (by repeat (first | (with_reducible exact HR971_0.out) | (with_reducible refine Kd.C_alloc ?_ _) | (with_reducible refine Kd.C_drewN ?_ _) | (with_reducible refine Kd.C_drew ?_) | exact HR971_0.out)) (ji39) p972 q972
                                                  cases e972
                                                  replace p972 := eq_true p972
                                                  replace q972 := eq_true q972
                                                  try go_wp2
                                                  have n0_ := Aside0.mk (Kd.S_drew HO_9.out)
                                                  have n1_ := Aside0.mk (Kd.R_drew HL971_0.out)
                                                  have n2_ := Aside0.mk (Kd.C_drew HR971_0.out)
                                                  have n3_ := Aside0.mk (below_drew1 HB.out)
                                                  clear HO_9
                                                  clear HL971_0
                                                  clear HR971_0
                                                  clear HB
                                                  have HO_9 := n0_
                                                  have HL971_0 := n1_
                                                  have HR971_0 := n2_
                                                  have HB := n3_
                                                  clear n0_ n1_ n2_ n3_
                                                  have p973 : 0 ≤ (x11_2 : Int) := of_decide_eq_true (by first | (with_reducible assumption) | assumption)
                                                  have q973 : x11_2 < (l0.length : Int) := of_decide_eq_true (by first | (with_reducible assumption) | assumption)
                                                  obtain ⟨ad973, e973, hx973_0⟩ := Kd.at_int HR0.out x11_2 p973 q973
                                                  have hw973_0 := hx973_0
                                                  cases e973
                                                  replace hx973_0 := (HB.out.cell (World.block_lt_of_cell? w _ hx973_0)).trans hx973_0
                                                  replace p973 := eq_true p973
                                                  replace q973 := eq_true q973
                                                  have p974 : 0 ≤ (x12_3 : Int) := of_decide_eq_true (by first | (with_reducible assumption) | assumption)
                                                  have q974 : x12_3 < (l1.length : Int) := of_decide_eq_true (by first | (with_reducible assumption) | assumption)
                                                  obtain ⟨ad974, e974, hx974_0⟩ := Kd.at_int HR1.out x12_3 p974 q974
                                                  have hw974_0 := hx974_0
                                                  cases e974
                                                  replace hx974_0 := (HB.out.cell (World.block_lt_of_cell? w _ hx974_0)).trans hx974_0
                                                  replace p974 := eq_true p974
                                                  replace q974 := eq_true q974
                                                  refine start_ (n := 9) (S := fun w' => w'.cell? (ad973.add (x11_2).toNat) = some (.int .i64 (rd l0 x11_2)) ∧ w'.cell? (ad974.add (x12_3).toNat) = some (.int .i64 (rd l1 x12_3))) (ds := []) #[false, false, false, false, false, false, false, false, false] (by kernel_rfl) rfl rfl ⟨((HB.out.cell (World.block_lt_of_cell? w _ hw973_0)).trans hw973_0), ((HB.out.cell (World.block_lt_of_cell? w _ hw974_0)).trans hw974_0)⟩ (fun hHeld => ?_); refine with_tabW spec_l12Edit.tab17 spec_l12Edit.bits17 (fun HT_ HW_ => ?_)
                                                  generalize wr.drew = w55 at HO_9 HL971_0 HR971_0 HB hx973_0 hx974_0 hHeld ⊢
                                                  refine pure_ (i := 0) (N := some 81) (v := ?_) (a' := ?_) #[true, false, false, false, false, false, false, false, false] rfl rfl (any_of HT_.out (by kernel_rfl)) (fun _ _ _ h => h) (Or.inl ⟨by rfl, ?_⟩) ?_ ?_
                                                  rotate_left
                                                  · intro w'
                                                    go_simp
                                                    with_reducible rfl
                                                  rotate_left
                                                  · simp only [Act.put, List.setIfInBounds_toArray, List.set_cons_zero, List.set_cons_succ, i64_w, i32_w]
                                                    rfl
                                                  refine pure_ (i := 1) (N := some 82) (v := ?_) (a' := ?_) #[true, true, false, false, false, false, false, false, false] rfl rfl (any_of HT_.out (by kernel_rfl)) (fun _ _ _ h => h) (Or.inl ⟨by rfl, ?_⟩) ?_ ?_
                                                  rotate_left
                                                  · intro w'
                                                    go_simp
                                                    with_reducible rfl
                                                  rotate_left
                                                  · simp only [Act.put, List.setIfInBounds_toArray, List.set_cons_zero, List.set_cons_succ, i64_w, i32_w]
                                                    rfl
                                                  refine pure_ (i := 2) (N := some 83) (v := ?_) (a' := ?_) #[true, true, true, false, false, false, false, false, false] rfl rfl (any_of HT_.out (by kernel_rfl)) (fun _ _ _ h => h) (Or.inl ⟨by rfl, ?_⟩) ?_ ?_
                                                  rotate_left
                                                  · intro w'
                                                    go_simp
                                                    with_reducible rfl
                                                  rotate_left
                                                  · simp only [Act.put, List.setIfInBounds_toArray, List.set_cons_zero, List.set_cons_succ, i64_w, i32_w]
                                                    rfl
                                                  refine pure_ (i := 4) (N := some 85) (v := ?_) (a' := ?_) #[true, true, true, false, true, false, false, false, false] rfl rfl (any_of HT_.out (by kernel_rfl)) (fun _ _ _ h => h) (Or.inl ⟨by rfl, ?_⟩) ?_ ?_
                                                  rotate_left
                                                  · intro w'
                                                    go_simp
                                                    with_reducible rfl
                                                  rotate_left
                                                  · simp only [Act.put, List.setIfInBounds_toArray, List.set_cons_zero, List.set_cons_succ, i64_w, i32_w]
                                                    rfl
                                                  refine pure_ (i := 5) (N := some 86) (v := ?_) (a' := ?_) #[true, true, true, false, true, true, false, false, false] rfl rfl (any_of HT_.out (by kernel_rfl)) (fun _ _ _ h => h) (Or.inl ⟨by rfl, ?_⟩) ?_ ?_
                                                  rotate_left
                                                  · intro w'
                                                    go_simp
                                                    with_reducible rfl
                                                  rotate_left
                                                  · simp only [Act.put, List.setIfInBounds_toArray, List.set_cons_zero, List.set_cons_succ, i64_w, i32_w]
                                                    rfl
                                                  refine pure_ (i := 6) (N := some 87) (v := ?_) (a' := ?_) #[true, true, true, false, true, true, true, false, false] rfl rfl (any_of HT_.out (by kernel_rfl)) (fun _ _ _ h => h) (Or.inl ⟨by rfl, ?_⟩) ?_ ?_
                                                  rotate_left
                                                  · intro w'
                                                    go_simp
                                                    with_reducible rfl
                                                  rotate_left
                                                  · simp only [Act.put, List.setIfInBounds_toArray, List.set_cons_zero, List.set_cons_succ, i64_w, i32_w]
                                                    rfl
                                                  refine take_ (i := 3) (N := some 84) (v := ?_) (a' := ?_) #[true, true, true, true, true, true, true, false, false] rfl rfl (take_ofW HT_.out HW_.out (by kernel_rfl)) (fun _ _ _ h => h) (Or.inl ⟨by rfl, ?_⟩) hHeld ?_ ?_
                                                  rotate_left
                                                  · rintro w' ⟨s0, s1⟩
                                                    go_simp
                                                    with_reducible rfl
                                                  rotate_left
                                                  · simp only [Act.put, List.setIfInBounds_toArray, List.set_cons_zero, List.set_cons_succ, i64_w, i32_w]
                                                    rfl
                                                  refine take_ (i := 7) (N := some 88) (v := ?_) (a' := ?_) #[true, true, true, true, true, true, true, true, false] rfl rfl (take_ofW HT_.out HW_.out (by kernel_rfl)) (fun _ _ _ h => h) (Or.inl ⟨by rfl, ?_⟩) hHeld ?_ ?_
                                                  rotate_left
                                                  · rintro w' ⟨s0, s1⟩
                                                    go_simp
                                                    with_reducible rfl
                                                  rotate_left
                                                  · simp only [Act.put, List.setIfInBounds_toArray, List.set_cons_zero, List.set_cons_succ, i64_w, i32_w]
                                                    rfl
                                                  refine pure_ (i := 8) (N := some 89) (v := ?_) (a' := ?_) #[true, true, true, true, true, true, true, true, true] rfl rfl (any_of HT_.out (by kernel_rfl)) (fun _ _ _ h => h) (Or.inl ⟨by rfl, ?_⟩) ?_ ?_
                                                  rotate_left
                                                  · intro w'
                                                    go_simp
                                                    with_reducible rfl
                                                  rotate_left
                                                  · simp only [Act.put, List.setIfInBounds_toArray, List.set_cons_zero, List.set_cons_succ, i64_w, i32_w]
                                                    rfl
                                                  refine done_ (done_of HT_.out (by kernel_rfl)) ?_
                                                  have p975 : 0 ≤ ((ji36) : Int) := of_decide_eq_true (by first | (with_reducible assumption) | assumption)
                                                  have q975 : (ji36) < (x9_3.length : Int) := of_decide_eq_true (by first | (with_reducible assumption) | assumption)
                                                  obtain ⟨ad975, A975_0, c975_0, e975, hx975_0, hl975_0, hi975_0⟩ := at_L1 (Kd.S_reads' HO_9.out).2.2 (ji36) p975 q975
                                                  obtain rfl : ad971 = ad975 := (by injection e975)
                                                  obtain ⟨ce975, hce975, hMe975, hcc975⟩ := Kd.S_get HO_9.out [] (ji36) p975 (by first | exact q975 | exact of_decide_eq_true (by first | (with_reducible assumption) | assumption) | (have e_ := (Kd.S_reads' HO_9.out).1; omega))
                                                  obtain ⟨ve975_0, rfl, ge975_0⟩ := hMe975
                                                  have hv975_0 := hcc975 0 _ rfl
                                                  rw [Nat.add_zero, show ((Kd.slice 2 (Kd.int .i64))).sz = 1 from rfl, Nat.mul_one] at hv975_0
                                                  replace hv975_0 := Option.some.inj (hv975_0.symm.trans hx975_0)
                                                  rw [hv975_0] at ge975_0
                                                  have HL975_0 := Aside0.mk (show Kd.R (Kd.int .i64) 2 _ _ _ _ (rd_L1 x9_3 (ji36)) from ge975_0)
                                                  clear hv975_0 ge975_0
                                                  have HX975_0 := Aside0.mk hx975_0
                                                  clear hcc975 hce975
                                                  have HR975_0 := Aside0.mk hi975_0
                                                  have HC975_0 := Aside0.mk hl975_0
                                                  clear hi975_0 hl975_0
                                                  replace p975 := eq_true p975
                                                  replace q975 := eq_true q975
                                                  have p976 : 0 ≤ (x12_3 : Int) := of_decide_eq_true (by first | (with_reducible assumption) | assumption)
                                                  have q976 : x12_3 < ((rd_L1 x9_3 (ji36)).length : Int) := of_decide_eq_true (by first | (with_reducible assumption) | assumption)
                                                  obtain ⟨ad976, e976, hx976_0⟩ := Kd.at_int (by repeat (first | (with_reducible exact HR975_0.out) | (with_reducible refine Kd.C_alloc ?_ _) | (with_reducible refine Kd.C_drewN ?_ _) | (with_reducible refine Kd.C_drew ?_) | exact HR975_0.out)) x12_3 p976 q976
                                                  cases e976
                                                  replace p976 := eq_true p976
                                                  replace q976 := eq_true q976
                                                  try go_wp2_with (first | ((with_reducible refine gate_callee (f := 72) rfl ?_); refine goesL_ (some 104) rfl rfl Try.func72 (by kernel_rfl) rfl #[.int .i64 (rd (rd_L1 x9_3 (ji36)) (ji39)), .int .i64 (wrap64 ((rd (rd_L1 x9_3 (ji36)) x12_3) + a3))] rfl (by (try simp only [List.map_toArray, List.map_cons, List.map_nil]); first | done | (simp only [hji36, hji39]; rfl) | rfl | (simp only [List.length_drop, List.length_take]; rfl)) ?_; (with_reducible refine (spec_l00Min.calls (rd (rd_L1 x9_3 (ji36)) (ji39)) (wrap64 ((rd (rd_L1 x9_3 (ji36)) x12_3) + a3)) t977 _ A48.out).mono ?_); rintro e w' ⟨rfl, ⟨nd, rfl⟩⟩; refine ⟨_, rfl, ?_⟩; (try (rw [drewN_self w55]; generalize hq_ : World.drewN w55 _ = w55; have n0_ : Aside0 (Kd.R (Kd.int .i64) 2 w55 w.heap.size (fun k_ => some k_ ≠ (.slice (some ad971) x9_3.length co54 : Value).ownBlock) (.slice (some ad972) (rd_L1 x9_3 (ji36)).length c971_0) (rd_L1 x9_3 (ji36))) := ⟨by rw [← hq_]; exact (by (with_reducible repeat (first | apply Kd.R_alloc | apply Kd.R_drewN | apply Kd.R_drew)); exact Kd.R_mono HL971_0.out (fun _ hk => hk.2))⟩; have n1_ : Aside0 (Kd.R (Kd.int .i64) 2 w55 w.heap.size (fun k_ => some k_ ≠ (.slice (some ad971) x9_3.length co54 : Value).ownBlock) (.slice (some ad976) (rd_L1 x9_3 (ji36)).length c975_0) (rd_L1 x9_3 (ji36))) := ⟨by rw [← hq_]; exact (by (with_reducible repeat (first | apply Kd.R_alloc | apply Kd.R_drewN | apply Kd.R_drew)); exact Kd.R_mono HL975_0.out (fun _ hk => hk.2))⟩; have n2_ : Aside0 (Kd.S (Kd.slice 2 (Kd.int .i64)) 22 w55 w.heap.size (fun _ => True) (.slice (some ad971) x9_3.length co54) x9_3) := ⟨by rw [← hq_]; exact (by (with_reducible repeat (first | apply Kd.S_alloc | apply Kd.S_drewN | apply Kd.S_drew)); exact HO_9.out)⟩; have n3_ : Aside0 (Below w.heap.size w w55) := ⟨by rw [← hq_]; exact (by repeat (first | (with_reducible first | exact HB.out | apply below_alloc | apply pw_below_drewN | apply below_drew1) | exact HB.out))⟩; have n4_ : Aside0 (Kd.C (Kd.int .i64) w55 (some ad972) (rd_L1 x9_3 (ji36)).length (rd_L1 x9_3 (ji36))) := ⟨by rw [← hq_]; exact (by repeat (first | (with_reducible exact HR971_0.out) | (with_reducible refine Kd.C_alloc ?_ _) | (with_reducible refine Kd.C_drewN ?_ _) | (with_reducible refine Kd.C_drew ?_) | exact HR971_0.out))⟩; have n5_ : Aside0 (Kd.C (Kd.int .i64) w55 (some ad976) (rd_L1 x9_3 (ji36)).length (rd_L1 x9_3 (ji36))) := ⟨by rw [← hq_]; exact (by repeat (first | (with_reducible exact HR975_0.out) | (with_reducible refine Kd.C_alloc ?_ _) | (with_reducible refine Kd.C_drewN ?_ _) | (with_reducible refine Kd.C_drew ?_) | exact HR975_0.out))⟩; clear HL971_0 HL975_0 HO_9 HB HR971_0 HR975_0 hq_; have HL971_0 := n0_; have HL975_0 := n1_; have HO_9 := n2_; have HB := n3_; have HR971_0 := n4_; have HR975_0 := n5_; clear n0_ n1_ n2_ n3_ n4_ n5_))))
                                                  have n0_ := Aside0.mk (Kd.S_drew HO_9.out)
                                                  have n1_ := Aside0.mk (Kd.R_drew HL971_0.out)
                                                  have n2_ := Aside0.mk (Kd.R_drew HL975_0.out)
                                                  have n3_ := Aside0.mk (Kd.C_drew HR971_0.out)
                                                  have n4_ := Aside0.mk (Kd.C_drew HR975_0.out)
                                                  have n5_ := Aside0.mk (below_drew1 HB.out)
                                                  clear HO_9
                                                  clear HL971_0
                                                  clear HL975_0
                                                  clear HR971_0
                                                  clear HR975_0
                                                  clear HB
                                                  have HO_9 := n0_
                                                  have HL971_0 := n1_
                                                  have HL975_0 := n2_
                                                  have HR971_0 := n3_
                                                  have HR975_0 := n4_
                                                  have HB := n5_
                                                  clear n0_ n1_ n2_ n3_ n4_ n5_
                                                  have p978 : 0 ≤ (x11_2 : Int) := of_decide_eq_true (by first | (with_reducible assumption) | assumption)
                                                  have q978 : x11_2 < (x9_3.length : Int) := of_decide_eq_true (by first | (with_reducible assumption) | assumption)
                                                  obtain ⟨ad978, A978_0, c978_0, e978, hx978_0, hl978_0, hi978_0⟩ := at_L1 (Kd.S_reads' HO_9.out).2.2 x11_2 p978 q978
                                                  obtain rfl : ad971 = ad978 := (by injection e978)
                                                  obtain ⟨ce978, hce978, hMe978, hcc978⟩ := Kd.S_get HO_9.out [] x11_2 p978 (by first | exact q978 | exact of_decide_eq_true (by first | (with_reducible assumption) | assumption) | (have e_ := (Kd.S_reads' HO_9.out).1; omega))
                                                  obtain ⟨ve978_0, rfl, ge978_0⟩ := hMe978
                                                  have hv978_0 := hcc978 0 _ rfl
                                                  rw [Nat.add_zero, show ((Kd.slice 2 (Kd.int .i64))).sz = 1 from rfl, Nat.mul_one] at hv978_0
                                                  replace hv978_0 := Option.some.inj (hv978_0.symm.trans hx978_0)
                                                  rw [hv978_0] at ge978_0
                                                  have HL978_0 := Aside0.mk (show Kd.R (Kd.int .i64) 2 _ _ _ _ (rd_L1 x9_3 x11_2) from ge978_0)
                                                  clear hv978_0 ge978_0
                                                  have HX978_0 := Aside0.mk hx978_0
                                                  clear hcc978 hce978
                                                  have HR978_0 := Aside0.mk hi978_0
                                                  have HC978_0 := Aside0.mk hl978_0
                                                  clear hi978_0 hl978_0
                                                  replace p978 := eq_true p978
                                                  replace q978 := eq_true q978
                                                  have p979 : 0 ≤ (x11_2 : Int) := of_decide_eq_true (by first | (with_reducible assumption) | assumption)
                                                  have q979 : x11_2 < (x9_3.length : Int) := of_decide_eq_true (by first | (with_reducible assumption) | assumption)
                                                  obtain ⟨ad979, A979_0, c979_0, e979, hx979_0, hl979_0, hi979_0⟩ := at_L1 (Kd.S_reads' HO_9.out).2.2 x11_2 p979 q979
                                                  obtain rfl : ad971 = ad979 := (by injection e979)
                                                  obtain ⟨ce979, hce979, hMe979, hcc979⟩ := Kd.S_get HO_9.out [] x11_2 p979 (by first | exact q979 | exact of_decide_eq_true (by first | (with_reducible assumption) | assumption) | (have e_ := (Kd.S_reads' HO_9.out).1; omega))
                                                  obtain ⟨ve979_0, rfl, ge979_0⟩ := hMe979
                                                  have hv979_0 := hcc979 0 _ rfl
                                                  rw [Nat.add_zero, show ((Kd.slice 2 (Kd.int .i64))).sz = 1 from rfl, Nat.mul_one] at hv979_0
                                                  replace hv979_0 := Option.some.inj (hv979_0.symm.trans hx979_0)
                                                  rw [hv979_0] at ge979_0
                                                  have HL979_0 := Aside0.mk (show Kd.R (Kd.int .i64) 2 _ _ _ _ (rd_L1 x9_3 x11_2) from ge979_0)
                                                  clear hv979_0 ge979_0
                                                  have HX979_0 := Aside0.mk hx979_0
                                                  clear hcc979 hce979
                                                  have HR979_0 := Aside0.mk hi979_0
                                                  have HC979_0 := Aside0.mk hl979_0
                                                  clear hi979_0 hl979_0
                                                  replace p979 := eq_true p979
                                                  replace q979 := eq_true q979
                                                  have ea_ := Option.some.inj (hx978_0.symm.trans hx979_0)
                                                  injection ea_ with ea_ en_ ec_
                                                  subst ea_
                                                  subst ec_
                                                  clear en_
                                                  have p980 : 0 ≤ ((ji39) : Int) := of_decide_eq_true (by first | (with_reducible assumption) | assumption)
                                                  have q980 : (ji39) < ((rd_L1 x9_3 x11_2).length : Int) := of_decide_eq_true (by first | (with_reducible assumption) | assumption)
                                                  obtain ⟨ad980, e980, hx980_0⟩ := Kd.at_int (by repeat (first | (with_reducible exact HR979_0.out) | (with_reducible refine Kd.C_alloc ?_ _) | (with_reducible refine Kd.C_drewN ?_ _) | (with_reducible refine Kd.C_drew ?_) | exact HR979_0.out)) (ji39) p980 q980
                                                  cases e980
                                                  replace p980 := eq_true p980
                                                  replace q980 := eq_true q980
                                                  refine start_ (n := 19) (S := fun w' => w'.cell? (ad971.add (x11_2).toNat) = some (.slice (some ad980) (rd_L1 x9_3 x11_2).length c978_0) ∧ w'.cell? (ad971.add (x11_2).toNat) = some (.slice (some ad980) (rd_L1 x9_3 x11_2).length c978_0) ∧ w'.cell? (ad980.add ((ji39)).toNat) = some (.int .i64 (rd (rd_L1 x9_3 x11_2) (ji39)))) (ds := [18]) #[false, false, false, false, false, false, false, false, false, false, false, false, false, false, false, false, false, false, false] (by kernel_rfl) rfl rfl ⟨hx978_0, hx979_0, hx980_0⟩ (fun hHeld => ?_); refine with_tabW spec_l12Edit.tab20 spec_l12Edit.bits20 (fun HT_ HW_ => ?_)
                                                  generalize w55.drew = w56 at HO_9 HL971_0 HL975_0 HR971_0 HR975_0 HB HL978_0 HL979_0 HR978_0 HR979_0 HX978_0 HX979_0 hx978_0 hx979_0 hx980_0 hHeld ⊢
                                                  refine pure_ (i := 0) (N := some 105) (v := ?_) (a' := ?_) #[true, false, false, false, false, false, false, false, false, false, false, false, false, false, false, false, false, false, false] rfl rfl (any_of HT_.out (by kernel_rfl)) (fun _ _ _ h => h) (Or.inl ⟨by rfl, ?_⟩) ?_ ?_
                                                  rotate_left
                                                  · intro w'
                                                    go_simp
                                                    with_reducible rfl
                                                  rotate_left
                                                  · simp only [Act.put, List.setIfInBounds_toArray, List.set_cons_zero, List.set_cons_succ, i64_w, i32_w]
                                                    rfl
                                                  refine pure_ (i := 1) (N := some 106) (v := ?_) (a' := ?_) #[true, true, false, false, false, false, false, false, false, false, false, false, false, false, false, false, false, false, false] rfl rfl (any_of HT_.out (by kernel_rfl)) (fun _ _ _ h => h) (Or.inl ⟨by rfl, ?_⟩) ?_ ?_
                                                  rotate_left
                                                  · intro w'
                                                    go_simp
                                                    with_reducible rfl
                                                  rotate_left
                                                  · simp only [Act.put, List.setIfInBounds_toArray, List.set_cons_zero, List.set_cons_succ, i64_w, i32_w]
                                                    rfl
                                                  refine pure_ (i := 2) (N := some 107) (v := ?_) (a' := ?_) #[true, true, true, false, false, false, false, false, false, false, false, false, false, false, false, false, false, false, false] rfl rfl (any_of HT_.out (by kernel_rfl)) (fun _ _ _ h => h) (Or.inl ⟨by rfl, ?_⟩) ?_ ?_
                                                  rotate_left
                                                  · intro w'
                                                    go_simp
                                                    with_reducible rfl
                                                  rotate_left
                                                  · simp only [Act.put, List.setIfInBounds_toArray, List.set_cons_zero, List.set_cons_succ, i64_w, i32_w]
                                                    rfl
                                                  refine pure_ (i := 4) (N := some 109) (v := ?_) (a' := ?_) #[true, true, true, false, true, false, false, false, false, false, false, false, false, false, false, false, false, false, false] rfl rfl (any_of HT_.out (by kernel_rfl)) (fun _ _ _ h => h) (Or.inl ⟨by rfl, ?_⟩) ?_ ?_
                                                  rotate_left
                                                  · intro w'
                                                    go_simp
                                                    with_reducible rfl
                                                  rotate_left
                                                  · simp only [Act.put, List.setIfInBounds_toArray, List.set_cons_zero, List.set_cons_succ, i64_w, i32_w]
                                                    rfl
                                                  refine pure_ (i := 5) (N := some 110) (v := ?_) (a' := ?_) #[true, true, true, false, true, true, false, false, false, false, false, false, false, false, false, false, false, false, false] rfl rfl (any_of HT_.out (by kernel_rfl)) (fun _ _ _ h => h) (Or.inl ⟨by rfl, ?_⟩) ?_ ?_
                                                  rotate_left
                                                  · intro w'
                                                    go_simp
                                                    with_reducible rfl
                                                  rotate_left
                                                  · simp only [Act.put, List.setIfInBounds_toArray, List.set_cons_zero, List.set_cons_succ, i64_w, i32_w]
                                                    rfl
                                                  refine pure_ (i := 6) (N := some 111) (v := ?_) (a' := ?_) #[true, true, true, false, true, true, true, false, false, false, false, false, false, false, false, false, false, false, false] rfl rfl (any_of HT_.out (by kernel_rfl)) (fun _ _ _ h => h) (Or.inl ⟨by rfl, ?_⟩) ?_ ?_
                                                  rotate_left
                                                  · intro w'
                                                    go_simp
                                                    with_reducible rfl
                                                  rotate_left
                                                  · simp only [Act.put, List.setIfInBounds_toArray, List.set_cons_zero, List.set_cons_succ, i64_w, i32_w]
                                                    rfl
                                                  refine pure_ (i := 7) (N := some 112) (v := ?_) (a' := ?_) #[true, true, true, false, true, true, true, true, false, false, false, false, false, false, false, false, false, false, false] rfl rfl (any_of HT_.out (by kernel_rfl)) (fun _ _ _ h => h) (Or.inl ⟨by rfl, ?_⟩) ?_ ?_
                                                  rotate_left
                                                  · intro w'
                                                    go_simp
                                                    with_reducible rfl
                                                  rotate_left
                                                  · simp only [Act.put, List.setIfInBounds_toArray, List.set_cons_zero, List.set_cons_succ, i64_w, i32_w]
                                                    rfl
                                                  refine pure_ (i := 8) (N := some 113) (v := ?_) (a' := ?_) #[true, true, true, false, true, true, true, true, true, false, false, false, false, false, false, false, false, false, false] rfl rfl (any_of HT_.out (by kernel_rfl)) (fun _ _ _ h => h) (Or.inl ⟨by rfl, ?_⟩) ?_ ?_
                                                  rotate_left
                                                  · intro w'
                                                    go_simp
                                                    with_reducible rfl
                                                  rotate_left
                                                  · simp only [Act.put, List.setIfInBounds_toArray, List.set_cons_zero, List.set_cons_succ, i64_w, i32_w]
                                                    rfl
                                                  refine pure_ (i := 10) (N := some 115) (v := ?_) (a' := ?_) #[true, true, true, false, true, true, true, true, true, false, true, false, false, false, false, false, false, false, false] rfl rfl (any_of HT_.out (by kernel_rfl)) (fun _ _ _ h => h) (Or.inl ⟨by rfl, ?_⟩) ?_ ?_
                                                  rotate_left
                                                  · intro w'
                                                    go_simp
                                                    with_reducible rfl
                                                  rotate_left
                                                  · simp only [Act.put, List.setIfInBounds_toArray, List.set_cons_zero, List.set_cons_succ, i64_w, i32_w]
                                                    rfl
                                                  refine pure_ (i := 11) (N := some 116) (v := ?_) (a' := ?_) #[true, true, true, false, true, true, true, true, true, false, true, true, false, false, false, false, false, false, false] rfl rfl (any_of HT_.out (by kernel_rfl)) (fun _ _ _ h => h) (Or.inl ⟨by rfl, ?_⟩) ?_ ?_
                                                  rotate_left
                                                  · intro w'
                                                    go_simp
                                                    with_reducible rfl
                                                  rotate_left
                                                  · simp only [Act.put, List.setIfInBounds_toArray, List.set_cons_zero, List.set_cons_succ, i64_w, i32_w]
                                                    rfl
                                                  refine pure_ (i := 14) (N := some 119) (v := ?_) (a' := ?_) #[true, true, true, false, true, true, true, true, true, false, true, true, false, false, true, false, false, false, false] rfl rfl (any_of HT_.out (by kernel_rfl)) (fun _ _ _ h => h) (Or.inl ⟨by rfl, ?_⟩) ?_ ?_
                                                  rotate_left
                                                  · intro w'
                                                    go_simp
                                                    with_reducible rfl
                                                  rotate_left
                                                  · simp only [Act.put, List.setIfInBounds_toArray, List.set_cons_zero, List.set_cons_succ, i64_w, i32_w]
                                                    rfl
                                                  refine take_ (i := 3) (N := some 108) (v := ?_) (a' := ?_) #[true, true, true, true, true, true, true, true, true, false, true, true, false, false, true, false, false, false, false] rfl rfl (take_ofW HT_.out HW_.out (by kernel_rfl)) (fun _ _ _ h => h) (Or.inl ⟨by rfl, ?_⟩) hHeld ?_ ?_
                                                  rotate_left
                                                  · rintro w' ⟨s0, s1, s2⟩
                                                    go_simp
                                                    with_reducible rfl
                                                  rotate_left
                                                  · simp only [Act.put, List.setIfInBounds_toArray, List.set_cons_zero, List.set_cons_succ, i64_w, i32_w]
                                                    rfl
                                                  refine take_ (i := 9) (N := some 114) (v := ?_) (a' := ?_) #[true, true, true, true, true, true, true, true, true, true, true, true, false, false, true, false, false, false, false] rfl rfl (take_ofW HT_.out HW_.out (by kernel_rfl)) (fun _ _ _ h => h) (Or.inl ⟨by rfl, ?_⟩) hHeld ?_ ?_
                                                  rotate_left
                                                  · rintro w' ⟨s0, s1, s2⟩
                                                    go_simp
                                                    with_reducible rfl
                                                  rotate_left
                                                  · simp only [Act.put, List.setIfInBounds_toArray, List.set_cons_zero, List.set_cons_succ, i64_w, i32_w]
                                                    rfl
                                                  refine pure_ (i := 12) (N := some 117) (v := ?_) (a' := ?_) #[true, true, true, true, true, true, true, true, true, true, true, true, true, false, true, false, false, false, false] rfl rfl (any_of HT_.out (by kernel_rfl)) (fun _ _ _ h => h) (Or.inl ⟨by rfl, ?_⟩) ?_ ?_
                                                  rotate_left
                                                  · intro w'
                                                    go_simp
                                                    with_reducible rfl
                                                  rotate_left
                                                  · simp only [Act.put, List.setIfInBounds_toArray, List.set_cons_zero, List.set_cons_succ, i64_w, i32_w]
                                                    rfl
                                                  refine take_ (i := 13) (N := some 118) (v := ?_) (a' := ?_) #[true, true, true, true, true, true, true, true, true, true, true, true, true, true, true, false, false, false, false] rfl rfl (take_ofW HT_.out HW_.out (by kernel_rfl)) (fun _ _ _ h => h) (Or.inl ⟨by rfl, ?_⟩) hHeld ?_ ?_
                                                  rotate_left
                                                  · rintro w' ⟨s0, s1, s2⟩
                                                    go_simp
                                                    with_reducible rfl
                                                  rotate_left
                                                  · simp only [Act.put, List.setIfInBounds_toArray, List.set_cons_zero, List.set_cons_succ, i64_w, i32_w]
                                                    rfl
                                                  refine pure_ (i := 15) (N := some 120) (v := ?_) (a' := ?_) #[true, true, true, true, true, true, true, true, true, true, true, true, true, true, true, true, false, false, false] rfl rfl (any_of HT_.out (by kernel_rfl)) (fun _ _ _ h => h) (Or.inl ⟨by rfl, ?_⟩) ?_ ?_
                                                  rotate_left
                                                  · intro w'
                                                    go_simp
                                                    with_reducible rfl
                                                  rotate_left
                                                  · simp only [Act.put, List.setIfInBounds_toArray, List.set_cons_zero, List.set_cons_succ, i64_w, i32_w]
                                                    rfl
                                                  refine one_ (i := 16) (N := some 121) #[true, true, true, true, true, true, true, true, true, true, true, true, true, true, true, true, true, false, false] rfl rfl (one_of HT_.out (by kernel_rfl)) (by decide) (fun K hK => ?_)
                                                  refine goes_ Try.func72 (by kernel_rfl) rfl #[.int .i64 t977, .int .i64 (wrap64 ((rd (rd_L1 x9_3 x11_2) (ji39)) + a3))] (by rfl) rfl rfl (by (try simp only [List.map_toArray, List.map_cons, List.map_nil]); first | done | (simp only [hji39]; rfl) | rfl | (simp only [List.length_drop, List.length_take]; rfl)) ?_
                                                  with_reducible refine (spec_l00Min.calls t977 (wrap64 ((rd (rd_L1 x9_3 x11_2) (ji39)) + a3)) t981 _ A51.out).mono ?_
                                                  rintro e w' ⟨rfl, ⟨nd, rfl⟩⟩
                                                  refine ⟨_, rfl, ?_⟩
                                                  have p53 : 0 ≤ (x12_3 : Int) := of_decide_eq_true (by first | (with_reducible assumption) | assumption)
                                                  have q53 : (x12_3 : Int) < (((rd_L1 x9_3 x11_2).length : Int) : Int) := of_decide_eq_true (by first | (with_reducible assumption) | assumption)
                                                  obtain ⟨go53, co53, eo53, gb53, gl53, cl53, HG53⟩ := Kd.R_form HL978_0.out (by omega)
                                                  (first | cases eo53 | (injection eo53 with ea_ en_ ec_; (first | subst ea_ | (injection ea_ with ea_; subst ea_)); subst ec_; clear en_))
                                                  have GB53 := Aside0.mk gb53
                                                  have GG53 := Aside0.mk HG53
                                                  clear gb53 gl53 HG53
                                                  (first | simp only [add_plain] at hx980_0 | skip)
                                                  obtain ⟨hx53_0, hf53_0⟩ := Kd.R_celln 0 HL978_0.out (x12_3 : Int) p53 q53
                                                  replace p53 := eq_true p53
                                                  replace q53 := eq_true q53
                                                  have hq57 : (x11_2 : Int) < (x9_3.length : Int) := (by have h_ : (x11_2 : Int) < ((x9_3.length : Int) : Int) := of_decide_eq_true (by first | (with_reducible assumption) | assumption); first | exact h_ | (have e_ := (Kd.S_reads' HO_9.out).1; omega) | simpa only [List.length_set, List.length_set] using h_)
                                                  obtain ⟨oki57, ce57, hcl57, hM57, hcc57, hok57, hbk57⟩ := Kd.S_borrow HO_9.out [] (x11_2 : Int) (of_decide_eq_true (by first | (with_reducible assumption) | assumption)) hq57
                                                  obtain ⟨ve57_0, rfl, ge57_0⟩ := hM57
                                                  have hv57 := hcc57 0 _ rfl
                                                  rw [Nat.add_zero, show ((Kd.slice 2 (Kd.int .i64))).sz = 1 from rfl, Nat.mul_one] at hv57
                                                  replace hv57 := Option.some.inj (hv57.symm.trans HX978_0.out)
                                                  subst hv57
                                                  clear hcc57 hcl57
                                                  replace ge57_0 := (show Kd.R (Kd.int .i64) 2 _ _ _ _ (rd_L1 x9_3 x11_2) from ge57_0)
                                                  have HP57 := Kd.R_putg ge57_0 (x12_3 : Int) t981
                                                  rw [← Ny982.out] at HP57
                                                  have HS57 := hbk57 HP57.2 (fun k_ e_ => by injection e_ with e_; subst e_; exact ge57_0.1 _ rfl) (x' := y982) (Kd.M_row HP57.1)
                                                  rw [← Ny984.out] at HS57
                                                  have HQ57 := Aside0.mk HS57
                                                  clear HP57 HS57 hbk57 hok57
                                                  refine hK.out _ _ ⟨hHeld.1, hHeld.2.1, hHeld.2.2⟩ (fun hHeld => ?_)
                                                  clear hK K
                                                  refine norm_ (a' := ?_) ?_ ?_
                                                  rotate_left
                                                  · show Act.put _ (some 121) _ = _
                                                    simp only [Act.put, List.setIfInBounds_toArray, List.set_cons_zero, List.set_cons_succ, i64_w, i32_w]
                                                    rfl
                                                  refine pure_ (i := 17) (N := some 122) (v := ?_) (a' := ?_) #[true, true, true, true, true, true, true, true, true, true, true, true, true, true, true, true, true, true, false] rfl rfl (any_of HT_.out (by kernel_rfl)) (fun _ _ _ h => h) (Or.inl ⟨by rfl, ?_⟩) ?_ ?_
                                                  rotate_left
                                                  · intro w'
                                                    go_simp
                                                    with_reducible rfl
                                                  rotate_left
                                                  · simp only [Act.put, List.setIfInBounds_toArray, List.set_cons_zero, List.set_cons_succ, i64_w, i32_w]
                                                    rfl
                                                  refine last_ (i := 18) (N := none) #[true, true, true, true, true, true, true, true, true, true, true, true, true, true, true, true, true, true, true] rfl rfl (one_of HT_.out (by kernel_rfl)) (by decide) (fun K hK => ?_)
                                                  refine skip_ (w1 := ?_) (by rfl) rfl ?_ ?_
                                                  rotate_left
                                                  · go_simp
                                                    rfl
                                                  refine hK.out _ _ ?_
                                                  clear hK K
                                                  refine done_ (done_of HT_.out (by kernel_rfl)) ?_
                                                  try go_wp2
                                                  go_roundg k3
                                                  case measure => have := HK1.out; have := HK2.out; have := HK3.out; omega
                                                  case rel => exact ⟨(y984), (wrap64 (x12_3 - 1)), (by first | rfl | (simp; done) | (simp [*]; done)), H', ⟨by have := HK1.out; have := HK2.out; have := HK3.out; omega⟩, ⟨by (with_reducible repeat (first | apply Kd.S_alloc | apply Kd.S_drewN | apply Kd.S_drew)); exact HQ57.out⟩, ⟨by repeat (first | (with_reducible first | exact HB.out | apply below_alloc | apply pw_below_drewN | apply below_drew1 | refine below_set ?_ GB53.out) | exact HB.out)⟩⟩
                                                · rw [if_neg c52] at H
                                                  exact absurd H (by simp)
                                              · rw [if_neg c50] at H
                                                exact absurd H (by simp)
                                            · rw [if_neg c49] at H
                                              exact absurd H (by simp)
                                          · rw [if_neg c47] at H
                                            exact absurd H (by simp)
                                        · rw [if_neg c46] at H
                                          have c46b0 : ((rd l0 x11_2) == (rd l1 x12_3)) = false := beq_eq_false_iff_ne.mpr c46
                                          have c46b1 : ((rd l0 x11_2) != (rd l1 x12_3)) = true := bne_iff_ne.mpr c46
                                          by_cases c59 : x12_3 < ((rd_L1 x9_3 (ji36)).length : Int)
                                          · rw [if_pos c59] at H
                                            have c59b0 : decide (x12_3 < ((rd_L1 x9_3 (ji36)).length : Int)) = true := decide_eq_true c59
                                            clear c59
                                            replace H := Option.bind_eq_some_iff.mp H
                                            obtain ⟨t987, A600, H⟩ := H
                                            replace H : (if x11_2 < (x9_3.length : Int) then (if (ji39) < ((rd_L1 x9_3 x11_2).length : Int) then ((spec_l00Min.f t987 (wrap64 ((rd (rd_L1 x9_3 x11_2) (ji39)) + a3))).bind fun t991 => (if x12_3 < ((rd_L1 x9_3 x11_2).length : Int) then (spec_l12Edit.l2 k3 l0 l1 a2 a3 (x9_3.set (x11_2 : Int).toNat ((rd_L1 x9_3 x11_2).set (x12_3 : Int).toNat t991)) x11_2 (wrap64 (x12_3 - 1))) else (none))) else (none)) else (none)) = some r := H
                                            have A60 := Aside0.mk A600
                                            clear A600
                                            by_cases c61 : x11_2 < (x9_3.length : Int)
                                            · rw [if_pos c61] at H
                                              have c61b0 : decide (x11_2 < (x9_3.length : Int)) = true := decide_eq_true c61
                                              clear c61
                                              by_cases c62 : (ji39) < ((rd_L1 x9_3 x11_2).length : Int)
                                              · rw [if_pos c62] at H
                                                have c62b0 : decide ((ji39) < ((rd_L1 x9_3 x11_2).length : Int)) = true := decide_eq_true c62
                                                clear c62
                                                replace H := Option.bind_eq_some_iff.mp H
                                                obtain ⟨t991, A630, H⟩ := H
                                                replace H : (if x12_3 < ((rd_L1 x9_3 x11_2).length : Int) then (spec_l12Edit.l2 k3 l0 l1 a2 a3 (x9_3.set (x11_2 : Int).toNat ((rd_L1 x9_3 x11_2).set (x12_3 : Int).toNat t991)) x11_2 (wrap64 (x12_3 - 1))) else (none)) = some r := H
                                                have A63 := Aside0.mk A630
                                                clear A630
                                                by_cases c64 : x12_3 < ((rd_L1 x9_3 x11_2).length : Int)
                                                · rw [if_pos c64] at H
                                                  have c64b0 : decide (x12_3 < ((rd_L1 x9_3 x11_2).length : Int)) = true := decide_eq_true c64
                                                  clear c64
                                                  obtain ⟨y992, hy992⟩ : ∃ y_ : List Int, y_ = ((rd_L1 x9_3 x11_2).set (x12_3 : Int).toNat t991) := ⟨_, rfl⟩
                                                  replace H : (spec_l12Edit.l2 k3 l0 l1 a2 a3 (x9_3.set (x11_2 : Int).toNat y992) x11_2 (wrap64 (x12_3 - 1))) = some r := by first | (rw [hy992]; with_reducible exact H) | (have H2_ := (Option.bind_some _ _).symm.trans H; rw [hy992]; with_reducible exact H2_) | (have H2_ := (Option.bind_some _ _).symm.trans H; with_reducible exact H2_) | with_reducible exact H | (rw [hy992]; exact H) | exact H
                                                  have Ny992 := Aside0.mk hy992
                                                  clear hy992
                                                  obtain ⟨y994, hy994⟩ : ∃ y_ : List (List Int), y_ = (x9_3.set (x11_2 : Int).toNat y992) := ⟨_, rfl⟩
                                                  replace H : (spec_l12Edit.l2 k3 l0 l1 a2 a3 y994 x11_2 (wrap64 (x12_3 - 1))) = some r := by first | (rw [hy994]; with_reducible exact H) | (have H2_ := (Option.bind_some _ _).symm.trans H; rw [hy994]; with_reducible exact H2_) | (have H2_ := (Option.bind_some _ _).symm.trans H; with_reducible exact H2_) | with_reducible exact H | (rw [hy994]; exact H) | exact H
                                                  have Ny994 := Aside0.mk hy994
                                                  clear hy994
                                                  have H' := Aside0.mk H
                                                  clear H
                                                  obtain ⟨Ao66, co66, eo66⟩ := Kd.S_slice HO_9.out
                                                  subst eo66
                                                  have p971 : 0 ≤ ((ji36) : Int) := of_decide_eq_true (by first | (with_reducible assumption) | assumption)
                                                  have q971 : (ji36) < (x9_3.length : Int) := of_decide_eq_true (by first | (with_reducible assumption) | assumption)
                                                  obtain ⟨ad971, A971_0, c971_0, e971, hx971_0, hl971_0, hi971_0⟩ := at_L1 (Kd.S_reads' HO_9.out).2.2 (ji36) p971 q971
                                                  cases e971
                                                  obtain ⟨ce971, hce971, hMe971, hcc971⟩ := Kd.S_get HO_9.out [] (ji36) p971 (by first | exact q971 | exact of_decide_eq_true (by first | (with_reducible assumption) | assumption) | (have e_ := (Kd.S_reads' HO_9.out).1; omega))
                                                  obtain ⟨ve971_0, rfl, ge971_0⟩ := hMe971
                                                  have hv971_0 := hcc971 0 _ rfl
                                                  rw [Nat.add_zero, show ((Kd.slice 2 (Kd.int .i64))).sz = 1 from rfl, Nat.mul_one] at hv971_0
                                                  replace hv971_0 := Option.some.inj (hv971_0.symm.trans hx971_0)
                                                  rw [hv971_0] at ge971_0
                                                  have HL971_0 := Aside0.mk (show Kd.R (Kd.int .i64) 2 _ _ _ _ (rd_L1 x9_3 (ji36)) from ge971_0)
                                                  clear hv971_0 ge971_0
                                                  have HX971_0 := Aside0.mk hx971_0
                                                  clear hcc971 hce971
                                                  have HR971_0 := Aside0.mk hi971_0
                                                  have HC971_0 := Aside0.mk hl971_0
                                                  clear hi971_0 hl971_0
                                                  replace p971 := eq_true p971
                                                  replace q971 := eq_true q971
                                                  have p972 : 0 ≤ ((ji39) : Int) := of_decide_eq_true (by first | (with_reducible assumption) | assumption)
                                                  have q972 : (ji39) < ((rd_L1 x9_3 (ji36)).length : Int) := of_decide_eq_true (by first | (with_reducible assumption) | assumption)
                                                  obtain ⟨ad972, e972, hx972_0⟩ := Kd.at_int (by repeat (first | (with_reducible exact HR971_0.out) | (with_reducible refine Kd.C_alloc ?_ _) | (with_reducible refine Kd.C_drewN ?_ _) | (with_reducible refine Kd.C_drew ?_) | exact HR971_0.out)) (ji39) p972 q972
                                                  cases e972
                                                  replace p972 := eq_true p972
                                                  replace q972 := eq_true q972
                                                  try go_wp2
                                                  have n0_ := Aside0.mk (Kd.S_drew HO_9.out)
                                                  have n1_ := Aside0.mk (Kd.R_drew HL971_0.out)
                                                  have n2_ := Aside0.mk (Kd.C_drew HR971_0.out)
                                                  have n3_ := Aside0.mk (below_drew1 HB.out)
                                                  clear HO_9
                                                  clear HL971_0
                                                  clear HR971_0
                                                  clear HB
                                                  have HO_9 := n0_
                                                  have HL971_0 := n1_
                                                  have HR971_0 := n2_
                                                  have HB := n3_
                                                  clear n0_ n1_ n2_ n3_
                                                  have p973 : 0 ≤ (x11_2 : Int) := of_decide_eq_true (by first | (with_reducible assumption) | assumption)
                                                  have q973 : x11_2 < (l0.length : Int) := of_decide_eq_true (by first | (with_reducible assumption) | assumption)
                                                  obtain ⟨ad973, e973, hx973_0⟩ := Kd.at_int HR0.out x11_2 p973 q973
                                                  have hw973_0 := hx973_0
                                                  cases e973
                                                  replace hx973_0 := (HB.out.cell (World.block_lt_of_cell? w _ hx973_0)).trans hx973_0
                                                  replace p973 := eq_true p973
                                                  replace q973 := eq_true q973
                                                  have p974 : 0 ≤ (x12_3 : Int) := of_decide_eq_true (by first | (with_reducible assumption) | assumption)
                                                  have q974 : x12_3 < (l1.length : Int) := of_decide_eq_true (by first | (with_reducible assumption) | assumption)
                                                  obtain ⟨ad974, e974, hx974_0⟩ := Kd.at_int HR1.out x12_3 p974 q974
                                                  have hw974_0 := hx974_0
                                                  cases e974
                                                  replace hx974_0 := (HB.out.cell (World.block_lt_of_cell? w _ hx974_0)).trans hx974_0
                                                  replace p974 := eq_true p974
                                                  replace q974 := eq_true q974
                                                  refine start_ (n := 9) (S := fun w' => w'.cell? (ad973.add (x11_2).toNat) = some (.int .i64 (rd l0 x11_2)) ∧ w'.cell? (ad974.add (x12_3).toNat) = some (.int .i64 (rd l1 x12_3))) (ds := []) #[false, false, false, false, false, false, false, false, false] (by kernel_rfl) rfl rfl ⟨((HB.out.cell (World.block_lt_of_cell? w _ hw973_0)).trans hw973_0), ((HB.out.cell (World.block_lt_of_cell? w _ hw974_0)).trans hw974_0)⟩ (fun hHeld => ?_); refine with_tabW spec_l12Edit.tab17 spec_l12Edit.bits17 (fun HT_ HW_ => ?_)
                                                  generalize wr.drew = w67 at HO_9 HL971_0 HR971_0 HB hx973_0 hx974_0 hHeld ⊢
                                                  refine pure_ (i := 0) (N := some 81) (v := ?_) (a' := ?_) #[true, false, false, false, false, false, false, false, false] rfl rfl (any_of HT_.out (by kernel_rfl)) (fun _ _ _ h => h) (Or.inl ⟨by rfl, ?_⟩) ?_ ?_
                                                  rotate_left
                                                  · intro w'
                                                    go_simp
                                                    with_reducible rfl
                                                  rotate_left
                                                  · simp only [Act.put, List.setIfInBounds_toArray, List.set_cons_zero, List.set_cons_succ, i64_w, i32_w]
                                                    rfl
                                                  refine pure_ (i := 1) (N := some 82) (v := ?_) (a' := ?_) #[true, true, false, false, false, false, false, false, false] rfl rfl (any_of HT_.out (by kernel_rfl)) (fun _ _ _ h => h) (Or.inl ⟨by rfl, ?_⟩) ?_ ?_
                                                  rotate_left
                                                  · intro w'
                                                    go_simp
                                                    with_reducible rfl
                                                  rotate_left
                                                  · simp only [Act.put, List.setIfInBounds_toArray, List.set_cons_zero, List.set_cons_succ, i64_w, i32_w]
                                                    rfl
                                                  refine pure_ (i := 2) (N := some 83) (v := ?_) (a' := ?_) #[true, true, true, false, false, false, false, false, false] rfl rfl (any_of HT_.out (by kernel_rfl)) (fun _ _ _ h => h) (Or.inl ⟨by rfl, ?_⟩) ?_ ?_
                                                  rotate_left
                                                  · intro w'
                                                    go_simp
                                                    with_reducible rfl
                                                  rotate_left
                                                  · simp only [Act.put, List.setIfInBounds_toArray, List.set_cons_zero, List.set_cons_succ, i64_w, i32_w]
                                                    rfl
                                                  refine pure_ (i := 4) (N := some 85) (v := ?_) (a' := ?_) #[true, true, true, false, true, false, false, false, false] rfl rfl (any_of HT_.out (by kernel_rfl)) (fun _ _ _ h => h) (Or.inl ⟨by rfl, ?_⟩) ?_ ?_
                                                  rotate_left
                                                  · intro w'
                                                    go_simp
                                                    with_reducible rfl
                                                  rotate_left
                                                  · simp only [Act.put, List.setIfInBounds_toArray, List.set_cons_zero, List.set_cons_succ, i64_w, i32_w]
                                                    rfl
                                                  refine pure_ (i := 5) (N := some 86) (v := ?_) (a' := ?_) #[true, true, true, false, true, true, false, false, false] rfl rfl (any_of HT_.out (by kernel_rfl)) (fun _ _ _ h => h) (Or.inl ⟨by rfl, ?_⟩) ?_ ?_
                                                  rotate_left
                                                  · intro w'
                                                    go_simp
                                                    with_reducible rfl
                                                  rotate_left
                                                  · simp only [Act.put, List.setIfInBounds_toArray, List.set_cons_zero, List.set_cons_succ, i64_w, i32_w]
                                                    rfl
                                                  refine pure_ (i := 6) (N := some 87) (v := ?_) (a' := ?_) #[true, true, true, false, true, true, true, false, false] rfl rfl (any_of HT_.out (by kernel_rfl)) (fun _ _ _ h => h) (Or.inl ⟨by rfl, ?_⟩) ?_ ?_
                                                  rotate_left
                                                  · intro w'
                                                    go_simp
                                                    with_reducible rfl
                                                  rotate_left
                                                  · simp only [Act.put, List.setIfInBounds_toArray, List.set_cons_zero, List.set_cons_succ, i64_w, i32_w]
                                                    rfl
                                                  refine take_ (i := 3) (N := some 84) (v := ?_) (a' := ?_) #[true, true, true, true, true, true, true, false, false] rfl rfl (take_ofW HT_.out HW_.out (by kernel_rfl)) (fun _ _ _ h => h) (Or.inl ⟨by rfl, ?_⟩) hHeld ?_ ?_
                                                  rotate_left
                                                  · rintro w' ⟨s0, s1⟩
                                                    go_simp
                                                    with_reducible rfl
                                                  rotate_left
                                                  · simp only [Act.put, List.setIfInBounds_toArray, List.set_cons_zero, List.set_cons_succ, i64_w, i32_w]
                                                    rfl
                                                  refine take_ (i := 7) (N := some 88) (v := ?_) (a' := ?_) #[true, true, true, true, true, true, true, true, false] rfl rfl (take_ofW HT_.out HW_.out (by kernel_rfl)) (fun _ _ _ h => h) (Or.inl ⟨by rfl, ?_⟩) hHeld ?_ ?_
                                                  rotate_left
                                                  · rintro w' ⟨s0, s1⟩
                                                    go_simp
                                                    with_reducible rfl
                                                  rotate_left
                                                  · simp only [Act.put, List.setIfInBounds_toArray, List.set_cons_zero, List.set_cons_succ, i64_w, i32_w]
                                                    rfl
                                                  refine pure_ (i := 8) (N := some 89) (v := ?_) (a' := ?_) #[true, true, true, true, true, true, true, true, true] rfl rfl (any_of HT_.out (by kernel_rfl)) (fun _ _ _ h => h) (Or.inl ⟨by rfl, ?_⟩) ?_ ?_
                                                  rotate_left
                                                  · intro w'
                                                    go_simp
                                                    with_reducible rfl
                                                  rotate_left
                                                  · simp only [Act.put, List.setIfInBounds_toArray, List.set_cons_zero, List.set_cons_succ, i64_w, i32_w]
                                                    rfl
                                                  refine done_ (done_of HT_.out (by kernel_rfl)) ?_
                                                  have p985 : 0 ≤ ((ji36) : Int) := of_decide_eq_true (by first | (with_reducible assumption) | assumption)
                                                  have q985 : (ji36) < (x9_3.length : Int) := of_decide_eq_true (by first | (with_reducible assumption) | assumption)
                                                  obtain ⟨ad985, A985_0, c985_0, e985, hx985_0, hl985_0, hi985_0⟩ := at_L1 (Kd.S_reads' HO_9.out).2.2 (ji36) p985 q985
                                                  obtain rfl : ad971 = ad985 := (by injection e985)
                                                  obtain ⟨ce985, hce985, hMe985, hcc985⟩ := Kd.S_get HO_9.out [] (ji36) p985 (by first | exact q985 | exact of_decide_eq_true (by first | (with_reducible assumption) | assumption) | (have e_ := (Kd.S_reads' HO_9.out).1; omega))
                                                  obtain ⟨ve985_0, rfl, ge985_0⟩ := hMe985
                                                  have hv985_0 := hcc985 0 _ rfl
                                                  rw [Nat.add_zero, show ((Kd.slice 2 (Kd.int .i64))).sz = 1 from rfl, Nat.mul_one] at hv985_0
                                                  replace hv985_0 := Option.some.inj (hv985_0.symm.trans hx985_0)
                                                  rw [hv985_0] at ge985_0
                                                  have HL985_0 := Aside0.mk (show Kd.R (Kd.int .i64) 2 _ _ _ _ (rd_L1 x9_3 (ji36)) from ge985_0)
                                                  clear hv985_0 ge985_0
                                                  have HX985_0 := Aside0.mk hx985_0
                                                  clear hcc985 hce985
                                                  have HR985_0 := Aside0.mk hi985_0
                                                  have HC985_0 := Aside0.mk hl985_0
                                                  clear hi985_0 hl985_0
                                                  replace p985 := eq_true p985
                                                  replace q985 := eq_true q985
                                                  have p986 : 0 ≤ (x12_3 : Int) := of_decide_eq_true (by first | (with_reducible assumption) | assumption)
                                                  have q986 : x12_3 < ((rd_L1 x9_3 (ji36)).length : Int) := of_decide_eq_true (by first | (with_reducible assumption) | assumption)
                                                  obtain ⟨ad986, e986, hx986_0⟩ := Kd.at_int (by repeat (first | (with_reducible exact HR985_0.out) | (with_reducible refine Kd.C_alloc ?_ _) | (with_reducible refine Kd.C_drewN ?_ _) | (with_reducible refine Kd.C_drew ?_) | exact HR985_0.out)) x12_3 p986 q986
                                                  cases e986
                                                  replace p986 := eq_true p986
                                                  replace q986 := eq_true q986
                                                  try go_wp2_with (first | ((with_reducible refine gate_callee (f := 72) rfl ?_); refine goesL_ (some 104) rfl rfl Try.func72 (by kernel_rfl) rfl #[.int .i64 (wrap64 ((rd (rd_L1 x9_3 (ji36)) (ji39)) + a2)), .int .i64 (wrap64 ((rd (rd_L1 x9_3 (ji36)) x12_3) + a3))] rfl (by (try simp only [List.map_toArray, List.map_cons, List.map_nil]); first | done | (simp only [hji36, hji39]; rfl) | rfl | (simp only [List.length_drop, List.length_take]; rfl)) ?_; (with_reducible refine (spec_l00Min.calls (wrap64 ((rd (rd_L1 x9_3 (ji36)) (ji39)) + a2)) (wrap64 ((rd (rd_L1 x9_3 (ji36)) x12_3) + a3)) t987 _ A60.out).mono ?_); rintro e w' ⟨rfl, ⟨nd, rfl⟩⟩; refine ⟨_, rfl, ?_⟩; (try (rw [drewN_self w67]; generalize hq_ : World.drewN w67 _ = w67; have n0_ : Aside0 (Kd.R (Kd.int .i64) 2 w67 w.heap.size (fun k_ => some k_ ≠ (.slice (some ad971) x9_3.length co66 : Value).ownBlock) (.slice (some ad972) (rd_L1 x9_3 (ji36)).length c971_0) (rd_L1 x9_3 (ji36))) := ⟨by rw [← hq_]; exact (by (with_reducible repeat (first | apply Kd.R_alloc | apply Kd.R_drewN | apply Kd.R_drew)); exact Kd.R_mono HL971_0.out (fun _ hk => hk.2))⟩; have n1_ : Aside0 (Kd.R (Kd.int .i64) 2 w67 w.heap.size (fun k_ => some k_ ≠ (.slice (some ad971) x9_3.length co66 : Value).ownBlock) (.slice (some ad986) (rd_L1 x9_3 (ji36)).length c985_0) (rd_L1 x9_3 (ji36))) := ⟨by rw [← hq_]; exact (by (with_reducible repeat (first | apply Kd.R_alloc | apply Kd.R_drewN | apply Kd.R_drew)); exact Kd.R_mono HL985_0.out (fun _ hk => hk.2))⟩; have n2_ : Aside0 (Kd.S (Kd.slice 2 (Kd.int .i64)) 22 w67 w.heap.size (fun _ => True) (.slice (some ad971) x9_3.length co66) x9_3) := ⟨by rw [← hq_]; exact (by (with_reducible repeat (first | apply Kd.S_alloc | apply Kd.S_drewN | apply Kd.S_drew)); exact HO_9.out)⟩; have n3_ : Aside0 (Below w.heap.size w w67) := ⟨by rw [← hq_]; exact (by repeat (first | (with_reducible first | exact HB.out | apply below_alloc | apply pw_below_drewN | apply below_drew1) | exact HB.out))⟩; have n4_ : Aside0 (Kd.C (Kd.int .i64) w67 (some ad972) (rd_L1 x9_3 (ji36)).length (rd_L1 x9_3 (ji36))) := ⟨by rw [← hq_]; exact (by repeat (first | (with_reducible exact HR971_0.out) | (with_reducible refine Kd.C_alloc ?_ _) | (with_reducible refine Kd.C_drewN ?_ _) | (with_reducible refine Kd.C_drew ?_) | exact HR971_0.out))⟩; have n5_ : Aside0 (Kd.C (Kd.int .i64) w67 (some ad986) (rd_L1 x9_3 (ji36)).length (rd_L1 x9_3 (ji36))) := ⟨by rw [← hq_]; exact (by repeat (first | (with_reducible exact HR985_0.out) | (with_reducible refine Kd.C_alloc ?_ _) | (with_reducible refine Kd.C_drewN ?_ _) | (with_reducible refine Kd.C_drew ?_) | exact HR985_0.out))⟩; clear HL971_0 HL985_0 HO_9 HB HR971_0 HR985_0 hq_; have HL971_0 := n0_; have HL985_0 := n1_; have HO_9 := n2_; have HB := n3_; have HR971_0 := n4_; have HR985_0 := n5_; clear n0_ n1_ n2_ n3_ n4_ n5_))))
                                                  have n0_ := Aside0.mk (Kd.S_drew HO_9.out)
                                                  have n1_ := Aside0.mk (Kd.R_drew HL971_0.out)
                                                  have n2_ := Aside0.mk (Kd.R_drew HL985_0.out)
                                                  have n3_ := Aside0.mk (Kd.C_drew HR971_0.out)
                                                  have n4_ := Aside0.mk (Kd.C_drew HR985_0.out)
                                                  have n5_ := Aside0.mk (below_drew1 HB.out)
                                                  clear HO_9
                                                  clear HL971_0
                                                  clear HL985_0
                                                  clear HR971_0
                                                  clear HR985_0
                                                  clear HB
                                                  have HO_9 := n0_
                                                  have HL971_0 := n1_
                                                  have HL985_0 := n2_
                                                  have HR971_0 := n3_
                                                  have HR985_0 := n4_
                                                  have HB := n5_
                                                  clear n0_ n1_ n2_ n3_ n4_ n5_
                                                  have p988 : 0 ≤ (x11_2 : Int) := of_decide_eq_true (by first | (with_reducible assumption) | assumption)
                                                  have q988 : x11_2 < (x9_3.length : Int) := of_decide_eq_true (by first | (with_reducible assumption) | assumption)
                                                  obtain ⟨ad988, A988_0, c988_0, e988, hx988_0, hl988_0, hi988_0⟩ := at_L1 (Kd.S_reads' HO_9.out).2.2 x11_2 p988 q988
                                                  obtain rfl : ad971 = ad988 := (by injection e988)
                                                  obtain ⟨ce988, hce988, hMe988, hcc988⟩ := Kd.S_get HO_9.out [] x11_2 p988 (by first | exact q988 | exact of_decide_eq_true (by first | (with_reducible assumption) | assumption) | (have e_ := (Kd.S_reads' HO_9.out).1; omega))
                                                  obtain ⟨ve988_0, rfl, ge988_0⟩ := hMe988
                                                  have hv988_0 := hcc988 0 _ rfl
                                                  rw [Nat.add_zero, show ((Kd.slice 2 (Kd.int .i64))).sz = 1 from rfl, Nat.mul_one] at hv988_0
                                                  replace hv988_0 := Option.some.inj (hv988_0.symm.trans hx988_0)
                                                  rw [hv988_0] at ge988_0
                                                  have HL988_0 := Aside0.mk (show Kd.R (Kd.int .i64) 2 _ _ _ _ (rd_L1 x9_3 x11_2) from ge988_0)
                                                  clear hv988_0 ge988_0
                                                  have HX988_0 := Aside0.mk hx988_0
                                                  clear hcc988 hce988
                                                  have HR988_0 := Aside0.mk hi988_0
                                                  have HC988_0 := Aside0.mk hl988_0
                                                  clear hi988_0 hl988_0
                                                  replace p988 := eq_true p988
                                                  replace q988 := eq_true q988
                                                  have p989 : 0 ≤ (x11_2 : Int) := of_decide_eq_true (by first | (with_reducible assumption) | assumption)
                                                  have q989 : x11_2 < (x9_3.length : Int) := of_decide_eq_true (by first | (with_reducible assumption) | assumption)
                                                  obtain ⟨ad989, A989_0, c989_0, e989, hx989_0, hl989_0, hi989_0⟩ := at_L1 (Kd.S_reads' HO_9.out).2.2 x11_2 p989 q989
                                                  obtain rfl : ad971 = ad989 := (by injection e989)
                                                  obtain ⟨ce989, hce989, hMe989, hcc989⟩ := Kd.S_get HO_9.out [] x11_2 p989 (by first | exact q989 | exact of_decide_eq_true (by first | (with_reducible assumption) | assumption) | (have e_ := (Kd.S_reads' HO_9.out).1; omega))
                                                  obtain ⟨ve989_0, rfl, ge989_0⟩ := hMe989
                                                  have hv989_0 := hcc989 0 _ rfl
                                                  rw [Nat.add_zero, show ((Kd.slice 2 (Kd.int .i64))).sz = 1 from rfl, Nat.mul_one] at hv989_0
                                                  replace hv989_0 := Option.some.inj (hv989_0.symm.trans hx989_0)
                                                  rw [hv989_0] at ge989_0
                                                  have HL989_0 := Aside0.mk (show Kd.R (Kd.int .i64) 2 _ _ _ _ (rd_L1 x9_3 x11_2) from ge989_0)
                                                  clear hv989_0 ge989_0
                                                  have HX989_0 := Aside0.mk hx989_0
                                                  clear hcc989 hce989
                                                  have HR989_0 := Aside0.mk hi989_0
                                                  have HC989_0 := Aside0.mk hl989_0
                                                  clear hi989_0 hl989_0
                                                  replace p989 := eq_true p989
                                                  replace q989 := eq_true q989
                                                  have ea_ := Option.some.inj (hx988_0.symm.trans hx989_0)
                                                  injection ea_ with ea_ en_ ec_
                                                  subst ea_
                                                  subst ec_
                                                  clear en_
                                                  have p990 : 0 ≤ ((ji39) : Int) := of_decide_eq_true (by first | (with_reducible assumption) | assumption)
                                                  have q990 : (ji39) < ((rd_L1 x9_3 x11_2).length : Int) := of_decide_eq_true (by first | (with_reducible assumption) | assumption)
                                                  obtain ⟨ad990, e990, hx990_0⟩ := Kd.at_int (by repeat (first | (with_reducible exact HR989_0.out) | (with_reducible refine Kd.C_alloc ?_ _) | (with_reducible refine Kd.C_drewN ?_ _) | (with_reducible refine Kd.C_drew ?_) | exact HR989_0.out)) (ji39) p990 q990
                                                  cases e990
                                                  replace p990 := eq_true p990
                                                  replace q990 := eq_true q990
                                                  refine start_ (n := 19) (S := fun w' => w'.cell? (ad971.add (x11_2).toNat) = some (.slice (some ad990) (rd_L1 x9_3 x11_2).length c988_0) ∧ w'.cell? (ad971.add (x11_2).toNat) = some (.slice (some ad990) (rd_L1 x9_3 x11_2).length c988_0) ∧ w'.cell? (ad990.add ((ji39)).toNat) = some (.int .i64 (rd (rd_L1 x9_3 x11_2) (ji39)))) (ds := [18]) #[false, false, false, false, false, false, false, false, false, false, false, false, false, false, false, false, false, false, false] (by kernel_rfl) rfl rfl ⟨hx988_0, hx989_0, hx990_0⟩ (fun hHeld => ?_); refine with_tabW spec_l12Edit.tab20 spec_l12Edit.bits20 (fun HT_ HW_ => ?_)
                                                  generalize w67.drew = w68 at HO_9 HL971_0 HL985_0 HR971_0 HR985_0 HB HL988_0 HL989_0 HR988_0 HR989_0 HX988_0 HX989_0 hx988_0 hx989_0 hx990_0 hHeld ⊢
                                                  refine pure_ (i := 0) (N := some 105) (v := ?_) (a' := ?_) #[true, false, false, false, false, false, false, false, false, false, false, false, false, false, false, false, false, false, false] rfl rfl (any_of HT_.out (by kernel_rfl)) (fun _ _ _ h => h) (Or.inl ⟨by rfl, ?_⟩) ?_ ?_
                                                  rotate_left
                                                  · intro w'
                                                    go_simp
                                                    with_reducible rfl
                                                  rotate_left
                                                  · simp only [Act.put, List.setIfInBounds_toArray, List.set_cons_zero, List.set_cons_succ, i64_w, i32_w]
                                                    rfl
                                                  refine pure_ (i := 1) (N := some 106) (v := ?_) (a' := ?_) #[true, true, false, false, false, false, false, false, false, false, false, false, false, false, false, false, false, false, false] rfl rfl (any_of HT_.out (by kernel_rfl)) (fun _ _ _ h => h) (Or.inl ⟨by rfl, ?_⟩) ?_ ?_
                                                  rotate_left
                                                  · intro w'
                                                    go_simp
                                                    with_reducible rfl
                                                  rotate_left
                                                  · simp only [Act.put, List.setIfInBounds_toArray, List.set_cons_zero, List.set_cons_succ, i64_w, i32_w]
                                                    rfl
                                                  refine pure_ (i := 2) (N := some 107) (v := ?_) (a' := ?_) #[true, true, true, false, false, false, false, false, false, false, false, false, false, false, false, false, false, false, false] rfl rfl (any_of HT_.out (by kernel_rfl)) (fun _ _ _ h => h) (Or.inl ⟨by rfl, ?_⟩) ?_ ?_
                                                  rotate_left
                                                  · intro w'
                                                    go_simp
                                                    with_reducible rfl
                                                  rotate_left
                                                  · simp only [Act.put, List.setIfInBounds_toArray, List.set_cons_zero, List.set_cons_succ, i64_w, i32_w]
                                                    rfl
                                                  refine pure_ (i := 4) (N := some 109) (v := ?_) (a' := ?_) #[true, true, true, false, true, false, false, false, false, false, false, false, false, false, false, false, false, false, false] rfl rfl (any_of HT_.out (by kernel_rfl)) (fun _ _ _ h => h) (Or.inl ⟨by rfl, ?_⟩) ?_ ?_
                                                  rotate_left
                                                  · intro w'
                                                    go_simp
                                                    with_reducible rfl
                                                  rotate_left
                                                  · simp only [Act.put, List.setIfInBounds_toArray, List.set_cons_zero, List.set_cons_succ, i64_w, i32_w]
                                                    rfl
                                                  refine pure_ (i := 5) (N := some 110) (v := ?_) (a' := ?_) #[true, true, true, false, true, true, false, false, false, false, false, false, false, false, false, false, false, false, false] rfl rfl (any_of HT_.out (by kernel_rfl)) (fun _ _ _ h => h) (Or.inl ⟨by rfl, ?_⟩) ?_ ?_
                                                  rotate_left
                                                  · intro w'
                                                    go_simp
                                                    with_reducible rfl
                                                  rotate_left
                                                  · simp only [Act.put, List.setIfInBounds_toArray, List.set_cons_zero, List.set_cons_succ, i64_w, i32_w]
                                                    rfl
                                                  refine pure_ (i := 6) (N := some 111) (v := ?_) (a' := ?_) #[true, true, true, false, true, true, true, false, false, false, false, false, false, false, false, false, false, false, false] rfl rfl (any_of HT_.out (by kernel_rfl)) (fun _ _ _ h => h) (Or.inl ⟨by rfl, ?_⟩) ?_ ?_
                                                  rotate_left
                                                  · intro w'
                                                    go_simp
                                                    with_reducible rfl
                                                  rotate_left
                                                  · simp only [Act.put, List.setIfInBounds_toArray, List.set_cons_zero, List.set_cons_succ, i64_w, i32_w]
                                                    rfl
                                                  refine pure_ (i := 7) (N := some 112) (v := ?_) (a' := ?_) #[true, true, true, false, true, true, true, true, false, false, false, false, false, false, false, false, false, false, false] rfl rfl (any_of HT_.out (by kernel_rfl)) (fun _ _ _ h => h) (Or.inl ⟨by rfl, ?_⟩) ?_ ?_
                                                  rotate_left
                                                  · intro w'
                                                    go_simp
                                                    with_reducible rfl
                                                  rotate_left
                                                  · simp only [Act.put, List.setIfInBounds_toArray, List.set_cons_zero, List.set_cons_succ, i64_w, i32_w]
                                                    rfl
                                                  refine pure_ (i := 8) (N := some 113) (v := ?_) (a' := ?_) #[true, true, true, false, true, true, true, true, true, false, false, false, false, false, false, false, false, false, false] rfl rfl (any_of HT_.out (by kernel_rfl)) (fun _ _ _ h => h) (Or.inl ⟨by rfl, ?_⟩) ?_ ?_
                                                  rotate_left
                                                  · intro w'
                                                    go_simp
                                                    with_reducible rfl
                                                  rotate_left
                                                  · simp only [Act.put, List.setIfInBounds_toArray, List.set_cons_zero, List.set_cons_succ, i64_w, i32_w]
                                                    rfl
                                                  refine pure_ (i := 10) (N := some 115) (v := ?_) (a' := ?_) #[true, true, true, false, true, true, true, true, true, false, true, false, false, false, false, false, false, false, false] rfl rfl (any_of HT_.out (by kernel_rfl)) (fun _ _ _ h => h) (Or.inl ⟨by rfl, ?_⟩) ?_ ?_
                                                  rotate_left
                                                  · intro w'
                                                    go_simp
                                                    with_reducible rfl
                                                  rotate_left
                                                  · simp only [Act.put, List.setIfInBounds_toArray, List.set_cons_zero, List.set_cons_succ, i64_w, i32_w]
                                                    rfl
                                                  refine pure_ (i := 11) (N := some 116) (v := ?_) (a' := ?_) #[true, true, true, false, true, true, true, true, true, false, true, true, false, false, false, false, false, false, false] rfl rfl (any_of HT_.out (by kernel_rfl)) (fun _ _ _ h => h) (Or.inl ⟨by rfl, ?_⟩) ?_ ?_
                                                  rotate_left
                                                  · intro w'
                                                    go_simp
                                                    with_reducible rfl
                                                  rotate_left
                                                  · simp only [Act.put, List.setIfInBounds_toArray, List.set_cons_zero, List.set_cons_succ, i64_w, i32_w]
                                                    rfl
                                                  refine pure_ (i := 14) (N := some 119) (v := ?_) (a' := ?_) #[true, true, true, false, true, true, true, true, true, false, true, true, false, false, true, false, false, false, false] rfl rfl (any_of HT_.out (by kernel_rfl)) (fun _ _ _ h => h) (Or.inl ⟨by rfl, ?_⟩) ?_ ?_
                                                  rotate_left
                                                  · intro w'
                                                    go_simp
                                                    with_reducible rfl
                                                  rotate_left
                                                  · simp only [Act.put, List.setIfInBounds_toArray, List.set_cons_zero, List.set_cons_succ, i64_w, i32_w]
                                                    rfl
                                                  refine take_ (i := 3) (N := some 108) (v := ?_) (a' := ?_) #[true, true, true, true, true, true, true, true, true, false, true, true, false, false, true, false, false, false, false] rfl rfl (take_ofW HT_.out HW_.out (by kernel_rfl)) (fun _ _ _ h => h) (Or.inl ⟨by rfl, ?_⟩) hHeld ?_ ?_
                                                  rotate_left
                                                  · rintro w' ⟨s0, s1, s2⟩
                                                    go_simp
                                                    with_reducible rfl
                                                  rotate_left
                                                  · simp only [Act.put, List.setIfInBounds_toArray, List.set_cons_zero, List.set_cons_succ, i64_w, i32_w]
                                                    rfl
                                                  refine take_ (i := 9) (N := some 114) (v := ?_) (a' := ?_) #[true, true, true, true, true, true, true, true, true, true, true, true, false, false, true, false, false, false, false] rfl rfl (take_ofW HT_.out HW_.out (by kernel_rfl)) (fun _ _ _ h => h) (Or.inl ⟨by rfl, ?_⟩) hHeld ?_ ?_
                                                  rotate_left
                                                  · rintro w' ⟨s0, s1, s2⟩
                                                    go_simp
                                                    with_reducible rfl
                                                  rotate_left
                                                  · simp only [Act.put, List.setIfInBounds_toArray, List.set_cons_zero, List.set_cons_succ, i64_w, i32_w]
                                                    rfl
                                                  refine pure_ (i := 12) (N := some 117) (v := ?_) (a' := ?_) #[true, true, true, true, true, true, true, true, true, true, true, true, true, false, true, false, false, false, false] rfl rfl (any_of HT_.out (by kernel_rfl)) (fun _ _ _ h => h) (Or.inl ⟨by rfl, ?_⟩) ?_ ?_
                                                  rotate_left
                                                  · intro w'
                                                    go_simp
                                                    with_reducible rfl
                                                  rotate_left
                                                  · simp only [Act.put, List.setIfInBounds_toArray, List.set_cons_zero, List.set_cons_succ, i64_w, i32_w]
                                                    rfl
                                                  refine take_ (i := 13) (N := some 118) (v := ?_) (a' := ?_) #[true, true, true, true, true, true, true, true, true, true, true, true, true, true, true, false, false, false, false] rfl rfl (take_ofW HT_.out HW_.out (by kernel_rfl)) (fun _ _ _ h => h) (Or.inl ⟨by rfl, ?_⟩) hHeld ?_ ?_
                                                  rotate_left
                                                  · rintro w' ⟨s0, s1, s2⟩
                                                    go_simp
                                                    with_reducible rfl
                                                  rotate_left
                                                  · simp only [Act.put, List.setIfInBounds_toArray, List.set_cons_zero, List.set_cons_succ, i64_w, i32_w]
                                                    rfl
                                                  refine pure_ (i := 15) (N := some 120) (v := ?_) (a' := ?_) #[true, true, true, true, true, true, true, true, true, true, true, true, true, true, true, true, false, false, false] rfl rfl (any_of HT_.out (by kernel_rfl)) (fun _ _ _ h => h) (Or.inl ⟨by rfl, ?_⟩) ?_ ?_
                                                  rotate_left
                                                  · intro w'
                                                    go_simp
                                                    with_reducible rfl
                                                  rotate_left
                                                  · simp only [Act.put, List.setIfInBounds_toArray, List.set_cons_zero, List.set_cons_succ, i64_w, i32_w]
                                                    rfl
                                                  refine one_ (i := 16) (N := some 121) #[true, true, true, true, true, true, true, true, true, true, true, true, true, true, true, true, true, false, false] rfl rfl (one_of HT_.out (by kernel_rfl)) (by decide) (fun K hK => ?_)
                                                  refine goes_ Try.func72 (by kernel_rfl) rfl #[.int .i64 t987, .int .i64 (wrap64 ((rd (rd_L1 x9_3 x11_2) (ji39)) + a3))] (by rfl) rfl rfl (by (try simp only [List.map_toArray, List.map_cons, List.map_nil]); first | done | (simp only [hji39]; rfl) | rfl | (simp only [List.length_drop, List.length_take]; rfl)) ?_
                                                  with_reducible refine (spec_l00Min.calls t987 (wrap64 ((rd (rd_L1 x9_3 x11_2) (ji39)) + a3)) t991 _ A63.out).mono ?_
                                                  rintro e w' ⟨rfl, ⟨nd, rfl⟩⟩
                                                  refine ⟨_, rfl, ?_⟩
                                                  have p65 : 0 ≤ (x12_3 : Int) := of_decide_eq_true (by first | (with_reducible assumption) | assumption)
                                                  have q65 : (x12_3 : Int) < (((rd_L1 x9_3 x11_2).length : Int) : Int) := of_decide_eq_true (by first | (with_reducible assumption) | assumption)
                                                  obtain ⟨go65, co65, eo65, gb65, gl65, cl65, HG65⟩ := Kd.R_form HL988_0.out (by omega)
                                                  (first | cases eo65 | (injection eo65 with ea_ en_ ec_; (first | subst ea_ | (injection ea_ with ea_; subst ea_)); subst ec_; clear en_))
                                                  have GB65 := Aside0.mk gb65
                                                  have GG65 := Aside0.mk HG65
                                                  clear gb65 gl65 HG65
                                                  (first | simp only [add_plain] at hx990_0 | skip)
                                                  obtain ⟨hx65_0, hf65_0⟩ := Kd.R_celln 0 HL988_0.out (x12_3 : Int) p65 q65
                                                  replace p65 := eq_true p65
                                                  replace q65 := eq_true q65
                                                  have hq69 : (x11_2 : Int) < (x9_3.length : Int) := (by have h_ : (x11_2 : Int) < ((x9_3.length : Int) : Int) := of_decide_eq_true (by first | (with_reducible assumption) | assumption); first | exact h_ | (have e_ := (Kd.S_reads' HO_9.out).1; omega) | simpa only [List.length_set, List.length_set] using h_)
                                                  obtain ⟨oki69, ce69, hcl69, hM69, hcc69, hok69, hbk69⟩ := Kd.S_borrow HO_9.out [] (x11_2 : Int) (of_decide_eq_true (by first | (with_reducible assumption) | assumption)) hq69
                                                  obtain ⟨ve69_0, rfl, ge69_0⟩ := hM69
                                                  have hv69 := hcc69 0 _ rfl
                                                  rw [Nat.add_zero, show ((Kd.slice 2 (Kd.int .i64))).sz = 1 from rfl, Nat.mul_one] at hv69
                                                  replace hv69 := Option.some.inj (hv69.symm.trans HX988_0.out)
                                                  subst hv69
                                                  clear hcc69 hcl69
                                                  replace ge69_0 := (show Kd.R (Kd.int .i64) 2 _ _ _ _ (rd_L1 x9_3 x11_2) from ge69_0)
                                                  have HP69 := Kd.R_putg ge69_0 (x12_3 : Int) t991
                                                  rw [← Ny992.out] at HP69
                                                  have HS69 := hbk69 HP69.2 (fun k_ e_ => by injection e_ with e_; subst e_; exact ge69_0.1 _ rfl) (x' := y992) (Kd.M_row HP69.1)
                                                  rw [← Ny994.out] at HS69
                                                  have HQ69 := Aside0.mk HS69
                                                  clear HP69 HS69 hbk69 hok69
                                                  refine hK.out _ _ ⟨hHeld.1, hHeld.2.1, hHeld.2.2⟩ (fun hHeld => ?_)
                                                  clear hK K
                                                  refine norm_ (a' := ?_) ?_ ?_
                                                  rotate_left
                                                  · show Act.put _ (some 121) _ = _
                                                    simp only [Act.put, List.setIfInBounds_toArray, List.set_cons_zero, List.set_cons_succ, i64_w, i32_w]
                                                    rfl
                                                  refine pure_ (i := 17) (N := some 122) (v := ?_) (a' := ?_) #[true, true, true, true, true, true, true, true, true, true, true, true, true, true, true, true, true, true, false] rfl rfl (any_of HT_.out (by kernel_rfl)) (fun _ _ _ h => h) (Or.inl ⟨by rfl, ?_⟩) ?_ ?_
                                                  rotate_left
                                                  · intro w'
                                                    go_simp
                                                    with_reducible rfl
                                                  rotate_left
                                                  · simp only [Act.put, List.setIfInBounds_toArray, List.set_cons_zero, List.set_cons_succ, i64_w, i32_w]
                                                    rfl
                                                  refine last_ (i := 18) (N := none) #[true, true, true, true, true, true, true, true, true, true, true, true, true, true, true, true, true, true, true] rfl rfl (one_of HT_.out (by kernel_rfl)) (by decide) (fun K hK => ?_)
                                                  refine skip_ (w1 := ?_) (by rfl) rfl ?_ ?_
                                                  rotate_left
                                                  · go_simp
                                                    rfl
                                                  refine hK.out _ _ ?_
                                                  clear hK K
                                                  refine done_ (done_of HT_.out (by kernel_rfl)) ?_
                                                  try go_wp2
                                                  go_roundg k3
                                                  case measure => have := HK1.out; have := HK2.out; have := HK3.out; omega
                                                  case rel => exact ⟨(y994), (wrap64 (x12_3 - 1)), (by first | rfl | (simp; done) | (simp [*]; done)), H', ⟨by have := HK1.out; have := HK2.out; have := HK3.out; omega⟩, ⟨by (with_reducible repeat (first | apply Kd.S_alloc | apply Kd.S_drewN | apply Kd.S_drew)); exact HQ69.out⟩, ⟨by repeat (first | (with_reducible first | exact HB.out | apply below_alloc | apply pw_below_drewN | apply below_drew1 | refine below_set ?_ GB65.out) | exact HB.out)⟩⟩
                                                · rw [if_neg c64] at H
                                                  exact absurd H (by simp)
                                              · rw [if_neg c62] at H
                                                exact absurd H (by simp)
                                            · rw [if_neg c61] at H
                                              exact absurd H (by simp)
                                          · rw [if_neg c59] at H
                                            exact absurd H (by simp)
                                      · rw [if_neg c45] at H
                                        exact absurd H (by simp)
                                    · rw [if_neg c44] at H
                                      exact absurd H (by simp)
                                  · rw [if_neg c43] at H
                                    exact absurd H (by simp)
                                · rw [if_neg c42] at H
                                  exact absurd H (by simp)
                              · rw [if_neg c41] at H
                                exact absurd H (by simp)
                            · rw [if_neg c40] at H
                              exact absurd H (by simp)
                          · rw [if_neg c38] at H
                            exact absurd H (by simp)
                        · rw [if_neg c37] at H
                          exact absurd H (by simp)
                  · rw [if_neg c17] at H
                    have c17b0 : decide (0 ≤ x12_3) = false := decide_eq_false c17
                    clear c17
                    have H' := Aside0.mk H
                    clear H
                    go_wp2
                    go_roundg k3
                    case measure => have := HK1.out; have := HK2.out; have := HK3.out; omega
                    case rel => exact ⟨(x9_3), (wrap64 (x11_2 - 1)), (by first | rfl | (simp; done) | (simp [*]; done)), H', ⟨by have := HK1.out; have := HK2.out; have := HK3.out; omega⟩, ⟨by (with_reducible repeat (first | apply Kd.S_alloc | apply Kd.S_drewN | apply Kd.S_drew)); exact HO_9.out⟩, ⟨by repeat (first | (with_reducible first | exact HB.out | apply below_alloc | apply pw_below_drewN | apply below_drew1) | exact HB.out)⟩⟩
            · rw [if_neg c16] at H
              have c16b0 : decide (0 ≤ x11_2) = false := decide_eq_false c16
              clear c16
              obtain rfl := Option.some.inj H
              go_wp2
              go_ret
              exact ⟨_, by first | rfl | (simp [errW_none, errW_some] <;> rfl) | (simp [*, errW_none, errW_some] <;> rfl), by (with_reducible repeat (first | apply Kd.S_alloc | apply Kd.S_drewN | apply Kd.S_drew)); exact HO_9.out, by repeat (first | (with_reducible first | exact HB.out | apply below_alloc | apply pw_below_drewN | apply below_drew1) | exact HB.out)⟩

end Go.Proofs.Ytddhommmokdlnaa.P
end

section
/- The table of the least costs: the reference and the program make the same one. Plain Lean. -/
namespace Go.Proofs.Ytddhommmokdlnaa.P
open Go.RowKit Go.Proofs.Ytddhommmokdlnaa.P Go.Proofs.YtddhommmokdlnaaW.PrintWords Go.Proofs.YtddhommmokdlnaaW.PrintLast Go.Proofs.YtddhommmokdlnaaW.PrintMore
set_option linter.unusedVariables false
set_option linter.unusedSimpArgs false

def ecell (a b : List Int) (ch g : Int) (T : List (List Int)) (i c : Nat) : Int :=
  if i = a.length then wrap64 (g * ((b.length : Int) - c)) else if c = b.length then wrap64 (g * ((a.length : Int) - i)) else
  min (min (if rd a i = rd b c then rd (rd_L1 T ((i : Int) + 1)) ((c : Int) + 1) else wrap64 (rd (rd_L1 T ((i : Int) + 1)) ((c : Int) + 1) + ch)) (wrap64 (rd (rd_L1 T ((i : Int) + 1)) c + g))) (wrap64 (rd (rd_L1 T i) ((c : Int) + 1) + g))
def estep (a b : List Int) (ch g : Int) (i c : Nat) (T : List (List Int)) : List (List Int) := T.set i ((rd_L1 T i).set c (ecell a b ch g T i c))
def erow (a b : List Int) (ch g : Int) (i : Nat) : Nat → List (List Int) → List (List Int)
  | 0, T => T
  | c + 1, T => erow a b ch g i c (estep a b ch g i c T)
def eallS (a b : List Int) (ch g : Int) : Nat → List (List Int) → List (List Int)
  | 0, T => T
  | r + 1, T => eallS a b ch g r (erow a b ch g r (b.length + 1) T)
def eallI (a b : List Int) (ch g : Int) : Nat → List (List Int) → List (List Int)
  | 0, T => T
  | r + 1, T => eallI a b ch g r (erow a b ch g r (b.length + 1) (T.set r (List.replicate (b.length + 1) 0)))
theorem rdL_set_eq {T : List (List Int)} {i : Nat} {R : List Int} (h : i < T.length) : rd_L1 (T.set i R) (i : Int) = R := by
  simp [rd_L1, h]
theorem rdL_set_ne {T : List (List Int)} {i : Nat} {R : List Int} {j : Int} (hj : 0 ≤ j) (h : j ≠ i) : rd_L1 (T.set i R) j = rd_L1 T j := by
  obtain ⟨n, rfl⟩ := Int.eq_ofNat_of_zero_le hj
  have : i ≠ n := by omega
  simp [rd_L1, List.getElem?_set, this]
theorem rdI_set_ne {T : List Int} {i : Nat} {R : Int} {j : Int} (hj : 0 ≤ j) (h : j ≠ i) : rd (T.set i R) j = rd T j := by
  obtain ⟨n, rfl⟩ := Int.eq_ofNat_of_zero_le hj
  have : i ≠ n := by omega
  simp [rd, List.getElem?_set, this]
theorem rdI_set_eq {T : List Int} {i : Nat} {R : Int} (h : i < T.length) : rd (T.set i R) (i : Int) = R := by
  simp [rd, h]
theorem estep_len (a b : List Int) (ch g : Int) (i c : Nat) (T : List (List Int)) : (estep a b ch g i c T).length = T.length := by simp [estep]
theorem estep_ne (a b : List Int) (ch g : Int) (i c : Nat) (T : List (List Int)) {j : Int} (hj : 0 ≤ j) (h : j ≠ i) : rd_L1 (estep a b ch g i c T) j = rd_L1 T j := rdL_set_ne hj h
theorem estep_eq (a b : List Int) (ch g : Int) (i c : Nat) (T : List (List Int)) (h : i < T.length) : rd_L1 (estep a b ch g i c T) i = (rd_L1 T i).set c (ecell a b ch g T i c) := rdL_set_eq h
theorem erow_len (a b : List Int) (ch g : Int) (i : Nat) : ∀ c T, (erow a b ch g i c T).length = T.length
  | 0, T => rfl
  | c + 1, T => by rw [erow, erow_len, estep_len]
theorem erow_ne (a b : List Int) (ch g : Int) (i : Nat) {j : Int} (hj : 0 ≤ j) (h : j ≠ i) : ∀ c T, rd_L1 (erow a b ch g i c T) j = rd_L1 T j
  | 0, T => rfl
  | c + 1, T => by rw [erow, erow_ne a b ch g i hj h, estep_ne a b ch g i c T hj h]
theorem erow_row (a b : List Int) (ch g : Int) (i : Nat) : ∀ c T, i < T.length → (rd_L1 (erow a b ch g i c T) i).length = (rd_L1 T i).length
  | 0, T, _ => rfl
  | c + 1, T, h => by rw [erow, erow_row a b ch g i c _ (by rw [estep_len]; exact h), estep_eq _ _ _ _ _ _ _ h, List.length_set]
theorem erow_ge (a b : List Int) (ch g : Int) (i : Nat) {q : Int} : ∀ (c : Nat) T, (c : Int) ≤ q → i < T.length → rd (rd_L1 (erow a b ch g i c T) i) q = rd (rd_L1 T i) q
  | 0, T, _, _ => rfl
  | c + 1, T, hc, h => by rw [erow, erow_ge a b ch g i c _ (by omega) (by rw [estep_len]; exact h), estep_eq _ _ _ _ _ _ _ h, rdI_set_ne (by omega) (by omega)]
theorem erow_last (a b : List Int) (ch g : Int) (i : Nat) (T : List (List Int)) (h : i < T.length) (hr : (rd_L1 T i).length = b.length + 1) : rd (rd_L1 (erow a b ch g i (b.length + 1) T) i) b.length = wrap64 (g * ((a.length : Int) - i)) := by
  rw [erow, erow_ge a b ch g i b.length _ (by omega) (by rw [estep_len]; exact h), estep_eq _ _ _ _ _ _ _ h, rdI_set_eq (by omega), ecell]
  by_cases e : i = a.length
  · rw [if_pos e, e]; simp
  · rw [if_neg e, if_pos rfl]
theorem erow_agree (a b : List Int) (ch g : Int) (i : Nat) : ∀ (c : Nat) (X Y : List (List Int)), i < X.length → i < Y.length → (∀ j : Int, (i : Int) ≤ j → rd_L1 X j = rd_L1 Y j) → ∀ j : Int, (i : Int) ≤ j → rd_L1 (erow a b ch g i c X) j = rd_L1 (erow a b ch g i c Y) j
  | 0, X, Y, _, _, h => h
  | c + 1, X, Y, hx, hy, h => by
    refine erow_agree a b ch g i c _ _ (by rw [estep_len]; exact hx) (by rw [estep_len]; exact hy) ?_
    intro j hj
    by_cases e : j = i
    · subst e
      rw [estep_eq _ _ _ _ _ _ _ hx, estep_eq _ _ _ _ _ _ _ hy]
      have e1 := h i (by omega)
      have e2 := h ((i : Int) + 1) (by omega)
      rw [e1, ecell, ecell, e1, e2]
    · rw [estep_ne _ _ _ _ _ _ _ (by omega) e, estep_ne _ _ _ _ _ _ _ (by omega) e, h j hj]
theorem tab_ext {X Y : List (List Int)} (hl : X.length = Y.length) (h : ∀ j : Int, 0 ≤ j → rd_L1 X j = rd_L1 Y j) : X = Y := by
  refine List.ext_getElem hl fun n h1 h2 => ?_
  have := h n (by omega)
  rwa [rdL_at h1, rdL_at h2] at this
theorem eall_eq (a b : List Int) (ch g : Int) (n : Nat) : ∀ (r : Nat) (S I : List (List Int)), r ≤ n → S.length = n → I.length = n → (∀ j : Int, (r : Int) ≤ j → rd_L1 S j = rd_L1 I j) → (∀ j : Int, 0 ≤ j → j < r → rd_L1 S j = List.replicate (b.length + 1) 0) → eallS a b ch g r S = eallI a b ch g r I
  | 0, S, I, _, hs, hi, h, _ => tab_ext (hs.trans hi.symm) (fun j hj => h j (by omega))
  | r + 1, S, I, hr, hs, hi, h, h0 => by
    rw [eallS, eallI]
    refine eall_eq a b ch g n r _ _ (by omega) (by rw [erow_len]; exact hs) (by rw [erow_len, List.length_set]; exact hi) ?_ ?_
    · refine erow_agree a b ch g r _ _ _ (by omega) (by rw [List.length_set]; omega) ?_
      intro j hj
      by_cases e : j = r
      · subst e
        rw [rdL_set_eq (by omega), h0 r (by omega) (by omega)]
      · rw [rdL_set_ne (by omega) e, h j (by omega)]
    · intro j h1 h2
      rw [erow_ne _ _ _ _ _ h1 (by omega), h0 j h1 (by omega)]
def egood (a b : List Int) (g : Int) (T : List (List Int)) (r : Nat) : Prop := ∀ j : Int, (r : Int) ≤ j → j ≤ a.length → (rd_L1 T j).length = b.length + 1 ∧ rd (rd_L1 T j) b.length = wrap64 (g * ((a.length : Int) - j))
theorem erow_good (a b : List Int) (ch g : Int) (r : Nat) (I : List (List Int)) (hr : r ≤ a.length) (hi : I.length = a.length + 1) (h : egood a b g I (r + 1)) : egood a b g (erow a b ch g r (b.length + 1) (I.set r (List.replicate (b.length + 1) 0))) r := by
  intro j h1 h2
  by_cases e : j = r
  · subst e
    have h3 : (rd_L1 (I.set r (List.replicate (b.length + 1) 0)) (r : Int)).length = b.length + 1 := by rw [rdL_set_eq (by omega)]; simp
    exact ⟨by rw [erow_row _ _ _ _ _ _ _ (by rw [List.length_set]; omega), h3], erow_last a b ch g r _ (by rw [List.length_set]; omega) h3⟩
  · rw [erow_ne _ _ _ _ _ (by omega) e, rdL_set_ne (by omega) e]
    exact h j (by omega) h2
theorem eall_good (a b : List Int) (ch g : Int) : ∀ (r : Nat) (I : List (List Int)), r ≤ a.length + 1 → I.length = a.length + 1 → egood a b g I r → (eallI a b ch g r I).length = a.length + 1 ∧ egood a b g (eallI a b ch g r I) 0
  | 0, I, _, hi, h => ⟨hi, h⟩
  | r + 1, I, hr, hi, h => by
    rw [eallI]
    exact eall_good a b ch g r _ (by omega) (by rw [erow_len, List.length_set]; exact hi) (erow_good a b ch g r I (by omega) hi h)
def etab (a b : List Int) (ch g : Int) : List (List Int) := eallI a b ch g (a.length + 1) (List.replicate (a.length + 1) [])
theorem etab_good (a b : List Int) (ch g : Int) : (etab a b ch g).length = a.length + 1 ∧ egood a b g (etab a b ch g) 0 := by
  refine eall_good a b ch g _ _ (Nat.le_refl _) (by simp) ?_
  intro j h1 h2
  exact absurd h1 (by omega)
theorem etab_ref (a b : List Int) (ch g : Int) : eallS a b ch g (a.length + 1) (List.replicate (a.length + 1) (List.replicate (b.length + 1) 0)) = etab a b ch g := by
  refine eall_eq a b ch g (a.length + 1) _ _ _ (Nat.le_refl _) (by simp) (by simp) ?_ ?_
  · intro j hj
    obtain ⟨n, rfl⟩ := Int.eq_ofNat_of_zero_le (show 0 ≤ j by omega)
    have : ¬ n < a.length + 1 := by omega
    simp [rd_L1, List.getElem?_replicate, this]
  · intro j h1 h2
    obtain ⟨n, rfl⟩ := Int.eq_ofNat_of_zero_le h1
    have : n < a.length + 1 := by omega
    simp [rd_L1, List.getElem?_replicate, this]
theorem spec_l12Edit_l2 (a b : List Int) (ch g : Int) (ha : a.length ≤ 64) (hb : b.length ≤ 64) (i : Nat) (hi : i ≤ a.length) (r : List (List Int)) : ∀ (c : Nat) (T : List (List Int)), c ≤ b.length + 1 → T.length = a.length + 1 → (rd_L1 T i).length = b.length + 1 → (i < a.length → (rd_L1 T ((i : Int) + 1)).length = b.length + 1) → Ev (fun k => spec_l12Edit.l1 k a b ch g (erow a b ch g i c T) ((i : Int) - 1)) r → Ev (fun k => spec_l12Edit.l2 k a b ch g T i ((c : Int) - 1)) r
  | 0, T, _, _, _, _, h => by
    refine Ev.succ ?_
    simp only [spec_l12Edit.l2]
    refine Ev.ite_neg (by omega) ?_
    rw [w64 (by omega) (by omega)]
    exact h
  | c + 1, T, hc, hT, hr, hr1, h => by
    have e1 : ((c + 1 : Nat) : Int) - 1 = c := by omega
    have ih := spec_l12Edit_l2 a b ch g ha hb i hi r c (estep a b ch g i c T) (by omega) (by rw [estep_len]; exact hT) (by rw [estep_eq _ _ _ _ _ _ _ (by omega), List.length_set]; exact hr) (fun q => by rw [estep_ne _ _ _ _ _ _ _ (by omega) (by omega)]; exact hr1 q) h
    rw [e1]
    refine Ev.succ ?_
    simp only [spec_l12Edit.l2]
    refine Ev.ite_pos (by omega) ?_
    rw [w64 (x := (c : Int) - 1) (by omega) (by omega), w64 (x := (c : Int) + 1) (by omega) (by omega), w64 (x := (i : Int) + 1) (by omega) (by omega), w64 (x := (b.length : Int) - c) (by omega) (by omega), w64 (x := (a.length : Int) - i) (by omega) (by omega)]
    simp only [Int.toNat_natCast]
    rw [estep] at ih
    by_cases hn : i = a.length
    · refine Ev.ite_pos (by omega) (Ev.ite_pos (by omega) (Ev.ite_pos (by omega) (Ev.ite_pos (by omega) (Ev.ite_pos (by omega) ?_))))
      rw [ecell, if_pos hn] at ih
      exact ih
    · refine Ev.ite_neg (by omega) ?_
      by_cases hm : c = b.length
      · refine Ev.ite_pos (by omega) (Ev.ite_pos (by omega) (Ev.ite_pos (by omega) (Ev.ite_pos (by omega) (Ev.ite_pos (by omega) ?_))))
        rw [ecell, if_neg hn, if_pos hm] at ih
        exact ih
      · have hr2 := hr1 (by omega)
        refine Ev.ite_neg (by omega) (Ev.ite_pos (by omega) (Ev.ite_pos (by omega) (Ev.ite_pos (by omega) (Ev.ite_pos (by omega) (Ev.ite_pos (by omega) (Ev.ite_pos (by omega) (Ev.ite_pos (by omega) (Ev.ite_pos (by omega) ?_))))))))
        rw [ecell, if_neg hn, if_neg hm] at ih
        by_cases hv : rd a i = rd b c
        · rw [if_pos hv] at ih
          exact Ev.ite_pos hv (Ev.ite_pos (by omega) (Ev.bindc (spec_l00Min_eq _ _) (Ev.ite_pos (by omega) (Ev.ite_pos (by omega) (Ev.bindc (spec_l00Min_eq _ _) (Ev.ite_pos (by omega) ih))))))
        · rw [if_neg hv] at ih
          exact Ev.ite_neg hv (Ev.ite_pos (by omega) (Ev.bindc (spec_l00Min_eq _ _) (Ev.ite_pos (by omega) (Ev.ite_pos (by omega) (Ev.bindc (spec_l00Min_eq _ _) (Ev.ite_pos (by omega) ih))))))
theorem spec_l12Edit_l1 (a b : List Int) (ch g : Int) (ha : a.length ≤ 64) (hb : b.length ≤ 64) : ∀ (r : Nat) (T : List (List Int)), r ≤ a.length + 1 → T.length = a.length + 1 → (∀ j : Int, 0 ≤ j → j ≤ a.length → (rd_L1 T j).length = b.length + 1) → Ev (fun k => spec_l12Edit.l1 k a b ch g T ((r : Int) - 1)) (eallS a b ch g r T)
  | 0, T, _, _, _ => by
    refine Ev.succ ?_
    simp only [spec_l12Edit.l1]
    exact Ev.ite_neg (by omega) (Ev.now _)
  | r + 1, T, hr, hT, h => by
    have e1 : ((r + 1 : Nat) : Int) - 1 = r := by omega
    have ih := spec_l12Edit_l1 a b ch g ha hb r (erow a b ch g r (b.length + 1) T) (by omega) (by rw [erow_len]; exact hT) (by
      intro j h1 h2
      by_cases e : j = r
      · subst e
        rw [erow_row _ _ _ _ _ _ _ (by omega)]
        exact h _ h1 h2
      · rw [erow_ne _ _ _ _ _ h1 e]
        exact h _ h1 h2)
    rw [e1]
    refine Ev.succ ?_
    simp only [spec_l12Edit.l1]
    refine Ev.ite_pos (by omega) ?_
    have := spec_l12Edit_l2 a b ch g ha hb r (by omega) _ (b.length + 1) T (Nat.le_refl _) hT (h _ (by omega) (by omega)) (fun q => h _ (by omega) (by omega)) ih
    have e2 : ((b.length + 1 : Nat) : Int) - 1 = b.length := by omega
    rw [e2] at this
    exact this
theorem spec_l12Edit_l0 (a b : List Int) (ch g : Int) (ha : a.length ≤ 64) (hb : b.length ≤ 64) : ∀ (d i : Nat), a.length + 1 - i = d → i ≤ a.length + 1 → Ev (fun k => spec_l12Edit.l0 k a b ch g (List.replicate i (List.replicate (b.length + 1) 0)) i) (etab a b ch g) := by
  intro d
  induction d with
  | zero =>
    intro i hd hi
    have : i = a.length + 1 := by omega
    subst this
    refine Ev.succ ?_
    simp only [spec_l12Edit.l0]
    refine Ev.ite_neg (by omega) ?_
    have := spec_l12Edit_l1 a b ch g ha hb (a.length + 1) (List.replicate (a.length + 1) (List.replicate (b.length + 1) 0)) (Nat.le_refl _) (by simp) (by
      intro j h1 h2
      obtain ⟨n, rfl⟩ := Int.eq_ofNat_of_zero_le h1
      have : n < a.length + 1 := by omega
      simp [rd_L1, List.getElem?_replicate, this])
    rw [etab_ref] at this
    have e2 : ((a.length + 1 : Nat) : Int) - 1 = a.length := by omega
    rw [e2] at this
    exact this
  | succ d ih =>
    intro i hd hi
    refine Ev.succ ?_
    simp only [spec_l12Edit.l0]
    have e0 : wrap64 ((b.length : Int) + 1) = ((b.length + 1 : Nat) : Int) := by rw [w64 (by omega) (by omega)]; omega
    rw [e0, w64 (x := (i : Int) + 1) (by omega) (by omega)]
    simp only [Int.toNat_natCast]
    refine Ev.ite_pos (by omega) (Ev.ite_pos (by omega) (Ev.ite_pos (by omega) (Ev.ite_pos (by simp; omega) ?_)))
    have := ih (i + 1) (by omega) (by omega)
    rw [List.replicate_succ'] at this
    exact this
theorem spec_l12Edit_ev (a b : List Int) (ch g : Int) (ha : a.length ≤ 64) (hb : b.length ≤ 64) : Ev (fun k => spec_l12Edit.f k a b ch g) (etab a b ch g) := by
  unfold spec_l12Edit.f
  exact spec_l12Edit_l0 a b ch g ha hb _ 0 rfl (by omega)
theorem impl_editCosts_l1 (a b : List Int) (ch g : Int) (ha : a.length ≤ 64) (hb : b.length ≤ 64) (i : Nat) (hi : i ≤ a.length) (r : List (List Int)) : ∀ (c : Nat) (T : List (List Int)), c ≤ b.length + 1 → T.length = a.length + 1 → (rd_L1 T i).length = b.length + 1 → (i < a.length → (rd_L1 T ((i : Int) + 1)).length = b.length + 1) → Ev (fun k => impl_editCosts.l0 k a b ch g (erow a b ch g i c T) ((i : Int) - 1)) r → Ev (fun k => impl_editCosts.l1 k a b ch g T i ((c : Int) - 1)) r
  | 0, T, _, _, _, _, h => by
    refine Ev.succ ?_
    simp only [impl_editCosts.l1]
    refine Ev.ite_neg (by omega) ?_
    rw [w64 (by omega) (by omega)]
    exact h
  | c + 1, T, hc, hT, hr, hr1, h => by
    have e1 : ((c + 1 : Nat) : Int) - 1 = c := by omega
    have ih := impl_editCosts_l1 a b ch g ha hb i hi r c (estep a b ch g i c T) (by omega) (by rw [estep_len]; exact hT) (by rw [estep_eq _ _ _ _ _ _ _ (by omega), List.length_set]; exact hr) (fun q => by rw [estep_ne _ _ _ _ _ _ _ (by omega) (by omega)]; exact hr1 q) h
    rw [e1]
    refine Ev.succ ?_
    simp only [impl_editCosts.l1]
    refine Ev.ite_pos (by omega) ?_
    rw [w64 (x := (c : Int) - 1) (by omega) (by omega), w64 (x := (c : Int) + 1) (by omega) (by omega), w64 (x := (i : Int) + 1) (by omega) (by omega), w64 (x := (b.length : Int) - c) (by omega) (by omega), w64 (x := (a.length : Int) - i) (by omega) (by omega)]
    simp only [Int.toNat_natCast, mn_eq, Int.add_comm g]
    rw [estep] at ih
    by_cases hn : i = a.length
    · refine Ev.ite_pos (by omega) (Ev.ite_pos (by omega) (Ev.ite_pos (by omega) (Ev.ite_pos (by omega) (Ev.ite_pos (by omega) ?_))))
      rw [ecell, if_pos hn] at ih
      exact ih
    · refine Ev.ite_neg (by omega) ?_
      by_cases hm : c = b.length
      · refine Ev.ite_pos (by omega) (Ev.ite_pos (by omega) (Ev.ite_pos (by omega) (Ev.ite_pos (by omega) (Ev.ite_pos (by omega) ?_))))
        rw [ecell, if_neg hn, if_pos hm] at ih
        exact ih
      · have hr2 := hr1 (by omega)
        refine Ev.ite_neg (by omega) (Ev.ite_pos (by omega) (Ev.ite_pos (by omega) (Ev.ite_pos (by omega) (Ev.ite_pos (by omega) (Ev.ite_pos (by omega) (Ev.ite_pos (by omega) (Ev.ite_pos (by omega) (Ev.ite_pos (by omega) ?_))))))))
        rw [ecell, if_neg hn, if_neg hm] at ih
        by_cases hv : rd a i = rd b c
        · rw [if_pos hv] at ih
          exact Ev.ite_pos hv (Ev.ite_pos (by omega) (Ev.ite_pos (by omega) (Ev.ite_pos (by omega) (Ev.ite_pos (by omega) ih))))
        · rw [if_neg hv] at ih
          exact Ev.ite_neg hv (Ev.ite_pos (by omega) (Ev.ite_pos (by omega) (Ev.ite_pos (by omega) (Ev.ite_pos (by omega) ih))))
theorem impl_editCosts_l0 (a b : List Int) (ch g : Int) (ha : a.length ≤ 64) (hb : b.length ≤ 64) : ∀ (r : Nat) (T : List (List Int)), r ≤ a.length + 1 → T.length = a.length + 1 → egood a b g T r → Ev (fun k => impl_editCosts.l0 k a b ch g T ((r : Int) - 1)) (eallI a b ch g r T)
  | 0, T, _, _, _ => by
    refine Ev.succ ?_
    simp only [impl_editCosts.l0]
    exact Ev.ite_neg (by omega) (Ev.now _)
  | r + 1, T, hr, hT, h => by
    have e1 : ((r + 1 : Nat) : Int) - 1 = r := by omega
    have ih := impl_editCosts_l0 a b ch g ha hb r _ (by omega) (by rw [erow_len, List.length_set]; exact hT) (erow_good a b ch g r T (by omega) hT h)
    rw [e1]
    refine Ev.succ ?_
    simp only [impl_editCosts.l0]
    have e0 : wrap64 ((b.length : Int) + 1) = ((b.length + 1 : Nat) : Int) := by rw [w64 (by omega) (by omega)]; omega
    rw [e0]
    simp only [Int.toNat_natCast]
    refine Ev.ite_pos (by omega) (Ev.ite_pos (by omega) (Ev.ite_pos (by omega) (Ev.ite_pos (by omega) (Ev.ite_pos (by omega) ?_))))
    have := impl_editCosts_l1 a b ch g ha hb r (by omega) _ (b.length + 1) (T.set r (List.replicate (b.length + 1) 0)) (Nat.le_refl _) (by rw [List.length_set]; exact hT) (by rw [rdL_set_eq (by omega)]; simp) (fun q => by rw [rdL_set_ne (by omega) (by omega)]; exact (h _ (by omega) (by omega)).1) ih
    have e2 : ((b.length + 1 : Nat) : Int) - 1 = b.length := by omega
    rw [e2] at this
    exact this
theorem impl_editCosts_ev (a b : List Int) (ch g : Int) (ha : a.length ≤ 64) (hb : b.length ≤ 64) : Ev (fun k => impl_editCosts.f k a b ch g) (etab a b ch g) := by
  unfold impl_editCosts.f
  have e0 : wrap64 ((a.length : Int) + 1) = ((a.length + 1 : Nat) : Int) := by rw [w64 (by omega) (by omega)]; omega
  rw [e0]
  simp only [Int.toNat_natCast]
  refine Ev.ite_pos (by omega) (Ev.ite_pos (by omega) ?_)
  have := impl_editCosts_l0 a b ch g ha hb (a.length + 1) (List.replicate (a.length + 1) []) (Nat.le_refl _) (by simp) (fun j h1 h2 => absurd h1 (by omega))
  have e2 : ((a.length + 1 : Nat) : Int) - 1 = a.length := by omega
  rw [e2] at this
  exact this
def ecode (a b : List Int) (ch g : Int) : Int := if pitchesB a && pitchesB b then (if (0 ≤ ch ∧ ch ≤ 100) ∧ 0 ≤ g ∧ g ≤ 100 then 0 else 2) else 7
theorem spec_l12Ask_j0 (ch g : Int) (e : Bool) : Ev (fun k => spec_l12Ask.j0 k ch g e) (if e then 7 else if (0 ≤ ch ∧ ch ≤ 100) ∧ 0 ≤ g ∧ g ≤ 100 then 0 else 2) := by
  refine Ev.succ ?_
  simp only [spec_l12Ask.j0]
  cases e with
  | true => exact Ev.ite_pos rfl (Ev.now _)
  | false =>
    refine Ev.ite_neg (by decide) (Ev.bindc (spec_l00In_eq _ _ _) ?_)
    by_cases c1 : 0 ≤ ch ∧ ch ≤ 100
    · refine Ev.ite_pos (by simp [c1]) (Ev.bindc (spec_l00In_eq _ _ _) ?_)
      by_cases c2 : 0 ≤ g ∧ g ≤ 100
      · refine Ev.ite_pos (by simp [c2]) (Ev.cast (Ev.now _) ?_)
        simp [c1, c2]
      · refine Ev.ite_neg (by simpa using c2) (Ev.cast (Ev.now _) ?_)
        simp [c1, c2]
    · refine Ev.ite_neg (by simpa using c1) (Ev.cast (Ev.now _) ?_)
      simp [c1]
theorem spec_l12Ask_ev (a b : List Int) (ch g : Int) (ha : a.length ≤ 1048576) (hb : b.length ≤ 1048576) : Ev (fun k => spec_l12Ask.f k a b ch g) (ecode a b ch g) := by
  unfold spec_l12Ask.f ecode
  refine Ev.bind (spec_l05Pitches_ev a (by omega)) ?_
  cases h : pitchesB a with
  | false => exact Ev.ite_neg (by decide) (spec_l12Ask_j0 ch g true)
  | true =>
    refine Ev.ite_pos rfl (Ev.bind (spec_l05Pitches_ev b (by omega)) ?_)
    cases h2 : pitchesB b with
    | false => exact spec_l12Ask_j0 ch g true
    | true => exact spec_l12Ask_j0 ch g false
theorem impl_editCode_j0 (ch g : Int) (e : Bool) : Ev (fun k => impl_editCode.j0 k ch g e) (if e then 7 else if (0 ≤ ch ∧ ch ≤ 100) ∧ 0 ≤ g ∧ g ≤ 100 then 0 else 2) := by
  refine Ev.succ ?_
  simp only [impl_editCode.j0]
  cases e with
  | true => exact Ev.ite_pos rfl (Ev.now _)
  | false =>
    refine Ev.ite_neg (by decide) (Ev.bindc (impl_within_eq _ _ _) ?_)
    by_cases c1 : 0 ≤ ch ∧ ch ≤ 100
    · refine Ev.ite_pos (by simp [c1]) (Ev.bindc (impl_within_eq _ _ _) ?_)
      by_cases c2 : 0 ≤ g ∧ g ≤ 100
      · refine Ev.ite_pos (by simp [c2]) (Ev.cast (Ev.now _) ?_)
        simp [c1, c2]
      · refine Ev.ite_neg (by simpa using c2) (Ev.cast (Ev.now _) ?_)
        simp [c1, c2]
    · refine Ev.ite_neg (by simpa using c1) (Ev.cast (Ev.now _) ?_)
      simp [c1]
theorem impl_editCode_ev (a b : List Int) (ch g : Int) : Ev (fun k => impl_editCode.f k a b ch g) (ecode a b ch g) := by
  unfold impl_editCode.f ecode
  refine Ev.bindc (impl_pitchesOk_eq a) ?_
  cases h : pitchesB a with
  | false => exact Ev.ite_neg (by decide) (impl_editCode_j0 ch g true)
  | true =>
    refine Ev.ite_pos rfl (Ev.bindc (impl_pitchesOk_eq b) ?_)
    cases h2 : pitchesB b with
    | false => exact impl_editCode_j0 ch g true
    | true => exact impl_editCode_j0 ch g false
theorem ecode_ok {a b : List Int} {ch g : Int} (h : ecode a b ch g = 0) : a.length ≤ 64 ∧ b.length ≤ 64 ∧ 0 ≤ g ∧ g ≤ 100 := by
  unfold ecode at h
  split at h
  · rename_i h1
    rw [Bool.and_eq_true] at h1
    split at h
    · rename_i h2
      exact ⟨pitchesB_len h1.1, pitchesB_len h1.2, h2.2⟩
    · omega
  · omega

end Go.Proofs.Ytddhommmokdlnaa.P
end

section
/- The greater of two. Plain Lean. -/
namespace Go.Proofs.Ytddhommmokdlnaa.P
open Go.RowKit Go.Proofs.Ytddhommmokdlnaa.P Go.Proofs.YtddhommmokdlnaaW.PrintWords Go.Proofs.YtddhommmokdlnaaW.PrintLast Go.Proofs.YtddhommmokdlnaaW.PrintMore
set_option linter.unusedVariables false
set_option linter.unusedSimpArgs false

theorem spec_l00Max_eq (a b : Int) : spec_l00Max.f a b = some (max a b) := by
  unfold spec_l00Max.f
  by_cases h : a > b
  · rw [if_pos h, Int.max_def, if_neg (by omega)]
  · rw [if_neg h, Int.max_def, if_pos (by omega)]

end Go.Proofs.Ytddhommmokdlnaa.P
end

section
/- The absolute value: the reference's word. Plain Lean. -/
namespace Go.Proofs.Ytddhommmokdlnaa.P
open Go.RowKit Go.Proofs.Ytddhommmokdlnaa.P Go.Proofs.YtddhommmokdlnaaW.PrintWords Go.Proofs.YtddhommmokdlnaaW.PrintLast Go.Proofs.YtddhommmokdlnaaW.PrintMore
set_option linter.unusedVariables false
set_option linter.unusedSimpArgs false

theorem spec_l04Abs_eq (a : Int) (h0 : -9223372036854775807 ≤ a) (h1 : a ≤ 9223372036854775807) : spec_l04Abs.f a = some (max a (-a)) := by
  unfold spec_l04Abs.f
  rw [w64 (x := -a) (by omega) (by omega), spec_l00Max_eq]
  rfl

end Go.Proofs.Ytddhommmokdlnaa.P
end
