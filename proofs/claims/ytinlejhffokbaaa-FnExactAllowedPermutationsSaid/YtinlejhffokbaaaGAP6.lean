/- Texts of this seat, merged: QSpecL00Put, QSpecL14Sorted, QSpecL14Numbered, QSpecL03Pitch, QSpecL14Permuted, QSpecAllowedpermutations, Open, LEv, LCopy, LEvAnd, LAbs, LIdx, LHasOne, LName, LIName, LInc, LIn, LRises, LScale, LIScale, LTn. -/
import Derived.Deep.Slices
import Derived.WideShapes
import Derived.ChangeShapes
import Derived.ChangeMaps5
import Derived.ChangeSame
import Derived.Test.YtinlejhffokbaaaGAP1
import Derived.Test.YtinlejhffokbaaaGAP2
import Derived.Test.YtinlejhffokbaaaGAP3
import Derived.Test.YtinlejhffokbaaaGAP4
import Derived.Test.YtinlejhffokbaaaGAP5
section
namespace Go.Proofs.Ytinlejhffokbaaa.P
open Go.RowKit Go.Proofs.YtinlejhffokbaaaW.PrintWords Go.Proofs.YtinlejhffokbaaaW.PrintLast Go.Proofs.YtinlejhffokbaaaW.PrintMore
attribute [local go_sem] max2_int min2_int max_two min_two max_three min_three max_four min_four   -- for this text's walks alone
set_option linter.unusedVariables false
set_option linter.unusedSimpArgs false
/-! ### spec_l00Put: function 160 -/
mutual
def spec_l00Put.l0 : Nat → List Int → Int → List Int → Bool → Int → Option (List Int)
 | 0, _, _, _, _, _ => none
 | k + 1, x0, x1, x5, x6, x7 => if x7 < (x0.length : Int) then (if x6 = true then (spec_l00Put.j1 k x0 x1 x5 x6 x7 false) else (if 0 ≤ x7 then (spec_l00Put.j1 k x0 x1 x5 x6 x7 (decide ((rd x0 x7) ≥ x1))) else (none))) else (if x6 = true then (some x5) else (if x5.length < 17592186044416 then (some (x5 ++ [x1])) else (none)))
def spec_l00Put.j1 : Nat → List Int → Int → List Int → Bool → Int → Bool → Option (List Int)
 | 0, _, _, _, _, _, _ => none
 | k + 1, x0, x1, x5, x6, x7, x24 => if x24 = true then (if 0 ≤ x7 then (if x7 < (x0.length : Int) then (if (rd x0 x7) > x1 then (if x5.length < 17592186044416 then ((some (x5 ++ [x1] : List Int)).bind fun y743 => (if y743.length < 17592186044416 then (spec_l00Put.l0 k x0 x1 (y743 ++ [rd x0 x7]) true (wrap64 (x7 + 1))) else (none))) else (none)) else (if x5.length < 17592186044416 then (spec_l00Put.l0 k x0 x1 (x5 ++ [rd x0 x7]) true (wrap64 (x7 + 1))) else (none))) else (none)) else (none)) else (if 0 ≤ x7 then (if x7 < (x0.length : Int) then (if x5.length < 17592186044416 then (spec_l00Put.l0 k x0 x1 (x5 ++ [rd x0 x7]) x6 (wrap64 (x7 + 1))) else (none)) else (none)) else (none))
end
def spec_l00Put.f (k : Nat) (l0 : List Int) (a1 : Int) : Option (List Int) := spec_l00Put.l0 k l0 a1 (([] : List Int)) false 0
theorem spec_l00Put.mono_l : ∀ k, (∀ y0 y1 y2 y3 y4, LeO (spec_l00Put.l0 k y0 y1 y2 y3 y4) (spec_l00Put.l0 (k + 1) y0 y1 y2 y3 y4)) ∧ (∀ y0 y1 y2 y3 y4 y5, LeO (spec_l00Put.j1 k y0 y1 y2 y3 y4 y5) (spec_l00Put.j1 (k + 1) y0 y1 y2 y3 y4 y5))
 | 0 => ⟨fun _ _ _ _ _ r h => by simp [spec_l00Put.l0] at h, fun _ _ _ _ _ _ r h => by simp [spec_l00Put.j1] at h⟩
 | k + 1 => by
  obtain ⟨ih0, ih1⟩ := spec_l00Put.mono_l k
  refine ⟨?_, ?_⟩
  ·intro y0 y1 y2 y3 y4
   unfold spec_l00Put.l0
   repeat' first
   | (with_reducible exact ih0 _ _ _ _ _)
   | (with_reducible exact ih1 _ _ _ _ _ _)
   | (with_reducible exact LeO.refl _)
   | (with_reducible exact LeO.none _)
   | (with_reducible refine LeO.ite ?_ ?_)
   | (with_reducible refine LeO.bind ?_ (fun _ => ?_))
   | exact ih0 _ _ _ _ _
   | exact ih1 _ _ _ _ _ _
   | exact LeO.none _
   | refine LeO.ite ?_ ?_
   | refine LeO.bind ?_ (fun _ => ?_)
  ·intro y0 y1 y2 y3 y4 y5
   unfold spec_l00Put.j1
   repeat' first
   | (with_reducible exact ih0 _ _ _ _ _)
   | (with_reducible exact ih1 _ _ _ _ _ _)
   | (with_reducible exact LeO.refl _)
   | (with_reducible exact LeO.none _)
   | (with_reducible refine LeO.ite ?_ ?_)
   | (with_reducible refine LeO.bind ?_ (fun _ => ?_))
   | exact ih0 _ _ _ _ _
   | exact ih1 _ _ _ _ _ _
   | exact LeO.none _
   | refine LeO.ite ?_ ?_
   | refine LeO.bind ?_ (fun _ => ?_)
theorem spec_l00Put.mono : ∀ a0 a1 k, LeO (spec_l00Put.f k a0 a1) (spec_l00Put.f (k + 1) a0 a1) := by
 intro a0 a1 k
 obtain ⟨ih0, ih1⟩ := spec_l00Put.mono_l k
 unfold spec_l00Put.f
 repeat' first
   | (with_reducible exact ih0 _ _ _ _ _)
   | (with_reducible exact ih1 _ _ _ _ _ _)
   | (with_reducible exact LeO.refl _)
   | (with_reducible exact LeO.none _)
   | (with_reducible refine LeO.ite ?_ ?_)
   | (with_reducible refine LeO.bind ?_ (fun _ => ?_))
   | exact ih0 _ _ _ _ _
   | exact ih1 _ _ _ _ _ _
   | exact LeO.none _
   | refine LeO.ite ?_ ?_
   | refine LeO.bind ?_ (fun _ => ?_)
set_option maxHeartbeats 8000000 in
set_option maxRecDepth 100000 in
theorem spec_l00Put.calls (k : Nat) (A0 : Option Addr) (c0 : Nat) (l0 : List Int) (a1 : Int) (r : List Int) (w : World) (hr0 : Kd.C (Kd.int .i64) w A0 l0.length l0) (hc0 : l0.length ≤ c0) (h : spec_l00Put.f k l0 a1 = some r) :
  Calls Try.prog 160 #[.slice A0 l0.length c0, .int .i64 a1] w fun e w' => ∃ v0_ : Value, e = .returned (v0_) ∧ Kd.R (Kd.int .i64) 2 w' w.heap.size (fun _ => True) v0_ r ∧ Below w.heap.size w w' := by
 have HR0 := Aside0.mk hr0
 have HC0 := Aside0.mk hc0
 clear hr0 hc0
 have HB := Aside0.mk (Below.refl w.heap.size w)
 have H : (spec_l00Put.l0 k l0 a1 (([] : List Int)) false 0) = some r := h
 clear h
 obtain ⟨y735, hy735⟩ : ∃ y_ : List Int, y_ = (([] : List Int)) := ⟨_, rfl⟩
 replace H : (spec_l00Put.l0 k l0 a1 y735 false 0) = some r := by first | (rw [hy735]; with_reducible exact H) | (have H2_ := (Option.bind_some _ _).symm.trans H; rw [hy735]; with_reducible exact H2_) | (have H2_ := (Option.bind_some _ _).symm.trans H; with_reducible exact H2_) | with_reducible exact H | (rw [hy735]; exact H) | exact H
 have Ny735 := Aside0.mk hy735
 clear hy735
 have H' := Aside0.mk H
 clear H
 go_enter Try.func160, Try.ntmps160
 go_wp2_with (first | ((with_reducible refine gate_dst (N := 8) rfl ?_); refine Kd.R_lit (Kd.int .i64) _ 2 ?hg (N := 8) ?hd (xs := ([] : List Int)) (inner := []) (ok := fun _ => True) (okp := fun _ => True) ?hr ?hp (fun _ hk => hk) trivial (Below.refl _ _) (Nat.le_refl _) (by simp) ?_; (case hd => rfl); (case hg => rfl); (case hr => first | (go_simp; done) | (go_simp; rfl)); (case hp => exact (Reps.none _ _)); intro v736 w3 ho4 hb hg_ hnew_; clear hg_ hnew_; (first | rw [← Ny735.out] at ho4 | (simp only [Int.reduceToNat] at ho4; rw [← Ny735.out] at ho4)); have n0_ := Aside0.mk (Kd.R_lower ho4 (below_size (ba_ HB.out))); have n1_ := Aside0.mk (below_step (ba_ HB.out) hb); clear HB; have HO737 := n0_; have HB := n1_; clear n0_ n1_; clear hb ho4))
 go_loopg [5, 6, 7] k (fun kq v5 v6 v7 w' => ∃ (x5_1 : List Int) (x6_1 : Bool) (x7_1 : Int), v6 = .bool x6_1 ∧ v7 = .int .i64 x7_1 ∧ Aside0 (spec_l00Put.l0 kq l0 a1 x5_1 x6_1 x7_1 = some r) ∧ Aside0 (kq ≤ k) ∧ Aside0 (Kd.R (Kd.int .i64) 2 w' w.heap.size (fun _ => True) v5 x5_1) ∧ Aside0 (Below w.heap.size w w'))
 case atStart => exact ⟨(y735), (false), (0), sv_, sv_, H', ⟨Nat.le_refl _⟩, ⟨rr_ HO737.out⟩, ⟨bb_ HB.out⟩⟩
 case round =>
  clear H'
  (try clear c1); (try clear p2)
  obtain ⟨x5_1, x6_1, x7_1, rfl, rfl, HA, HK1, HO_5, HB⟩ := hrel
  cases gk with
  | zero => exact absurd HA.out (by simp [spec_l00Put.l0])
  | succ k1 =>
   have H := HA.out
   clear HA
   simp only [spec_l00Put.l0] at H
   by_cases c5 : x7_1 < (l0.length : Int)
   ·rw [if_pos c5] at H
    have c5b0 : decide (x7_1 < (l0.length : Int)) = true := decide_eq_true c5
    clear c5
    have HC6 := Aside0.mk H
    clear H
    go_upto_region 6 with (fail)
    go_cut [24] (fun v24 wc => ∃ (kq : Nat) (x24_5 : Bool), v24 = .bool x24_5 ∧ Aside0 (spec_l00Put.j1 kq l0 a1 x5_1 x6_1 x7_1 x24_5 = some r) ∧ Aside0 (kq ≤ k1) ∧ Aside0 (Kd.R (Kd.int .i64) 2 wc w.heap.size (fun _ => True) u5 x5_1) ∧ Aside0 (Below w.heap.size w wc))
    case first =>
     have H := HC6.out
     clear HC6
     by_cases c7 : x6_1 = true
     ·subst c7
      have H1 : (spec_l00Put.j1 k1 l0 a1 x5_1 true x7_1 false) = some r := by rw [if_pos rfl] at H; exact H
      clear H
      have H := H1
      clear H1
      have H' := Aside0.mk H
      clear H
      go_wp2
      go_meet
      case rel => exact ⟨_, (false), sv_, H', ⟨by have := HK1.out; first | omega | exact Nat.le_refl _⟩, ⟨rr_ HO_5.out⟩, ⟨bb_ HB.out⟩⟩
     ·replace c7 := Bool.eq_false_iff.mpr c7
      subst c7
      have H1 : (if 0 ≤ x7_1 then (spec_l00Put.j1 k1 l0 a1 x5_1 false x7_1 (decide ((rd l0 x7_1) ≥ a1))) else (none)) = some r := by rw [if_neg (show ¬ (false = true) by decide)] at H; exact H
      clear H
      have H := H1
      clear H1
      by_cases c8 : 0 ≤ x7_1
      ·rw [if_pos c8] at H
       have c8b0 : decide (0 ≤ x7_1) = true := decide_eq_true c8
       clear c8
       (first | rw [c8b0] | (simp only [i64_w, i32_w]; rw [c8b0]) | skip)
       have H' := Aside0.mk H
       clear H
       have p741 : 0 ≤ (x7_1 : Int) := da_
       have q741 : x7_1 < (l0.length : Int) := da_
       obtain ⟨ad741, e741, hx741_0⟩ := Kd.at_int HR0.out x7_1 p741 q741
       cases e741
       replace hx741_0 := (wc_ HB.out hx741_0 :)
       replace p741 := eq_true p741
       replace q741 := eq_true q741
       go_wp2
       go_meet
       case rel => exact ⟨_, (decide ((rd l0 x7_1) ≥ a1)), sv_, H', ⟨by have := HK1.out; first | omega | exact Nat.le_refl _⟩, ⟨rr_ HO_5.out⟩, ⟨bb_ HB.out⟩⟩
      ·rw [if_neg c8] at H
       exact absurd H (by simp)
    case rest =>
     clear HC6
     (try clear c1); (try clear p2); (try clear c5); (try clear c5b0); (try clear c7); (try clear p7); (try clear q7); (try clear hx7); (try clear c8); (try clear c8b0); (try clear hx741_0); (try clear p2); (try clear p741); (try clear q741)
     obtain ⟨kq, x24_5, rfl, HA, HJ5, HO_5, HB⟩ := hcut
     cases kq with
     | zero => exact absurd HA.out (by simp [spec_l00Put.j1])
     | succ kj5 =>
      have H := HA.out
      clear HA
      simp only [spec_l00Put.j1] at H
      by_cases c9 : x24_5 = true
      ·subst c9
       have H1 : (if 0 ≤ x7_1 then (if x7_1 < (l0.length : Int) then (if (rd l0 x7_1) > a1 then (if x5_1.length < 17592186044416 then ((some (x5_1 ++ [a1] : List Int)).bind fun y743 => (if y743.length < 17592186044416 then (spec_l00Put.l0 kj5 l0 a1 (y743 ++ [rd l0 x7_1]) true (wrap64 (x7_1 + 1))) else (none))) else (none)) else (if x5_1.length < 17592186044416 then (spec_l00Put.l0 kj5 l0 a1 (x5_1 ++ [rd l0 x7_1]) true (wrap64 (x7_1 + 1))) else (none))) else (none)) else (none)) = some r := by rw [if_pos rfl] at H; exact H
       clear H
       have H := H1
       clear H1
       by_cases c10 : 0 ≤ x7_1
       ·rw [if_pos c10] at H
        have c10b0 : decide (0 ≤ x7_1) = true := decide_eq_true c10
        clear c10
        by_cases c11 : x7_1 < (l0.length : Int)
        ·rw [if_pos c11] at H
         have c11b0 : decide (x7_1 < (l0.length : Int)) = true := decide_eq_true c11
         clear c11
         by_cases c12 : (rd l0 x7_1) > a1
         ·rw [if_pos c12] at H
          have c12b0 : decide (a1 < (rd l0 x7_1)) = true := decide_eq_true c12
          clear c12
          by_cases c13 : x5_1.length < 17592186044416
          ·rw [if_pos c13] at H
           have LMc13 := Aside0.mk c13
           clear c13
           obtain ⟨y743, hy743⟩ : ∃ y_ : List Int, y_ = (x5_1 ++ [a1]) := ⟨_, rfl⟩
           replace H : (if y743.length < 17592186044416 then (spec_l00Put.l0 kj5 l0 a1 (y743 ++ [rd l0 x7_1]) true (wrap64 (x7_1 + 1))) else (none)) = some r := by first | (rw [hy743]; with_reducible exact H) | (have H2_ := (Option.bind_some _ _).symm.trans H; rw [hy743]; with_reducible exact H2_) | (have H2_ := (Option.bind_some _ _).symm.trans H; with_reducible exact H2_) | with_reducible exact H | (rw [hy743]; exact H) | exact H
           have Ny743 := Aside0.mk hy743
           clear hy743
           by_cases c14 : y743.length < 17592186044416
           ·rw [if_pos c14] at H
            have LMc14 := Aside0.mk c14
            clear c14
            obtain ⟨y747, hy747⟩ : ∃ y_ : List Int, y_ = (y743 ++ [rd l0 x7_1]) := ⟨_, rfl⟩
            replace H : (spec_l00Put.l0 kj5 l0 a1 y747 true (wrap64 (x7_1 + 1))) = some r := by first | (rw [hy747]; with_reducible exact H) | (have H2_ := (Option.bind_some _ _).symm.trans H; rw [hy747]; with_reducible exact H2_) | (have H2_ := (Option.bind_some _ _).symm.trans H; with_reducible exact H2_) | with_reducible exact H | (rw [hy747]; exact H) | exact H
            have Ny747 := Aside0.mk hy747
            clear hy747
            have H' := Aside0.mk H
            clear H
            have p742 : 0 ≤ (x7_1 : Int) := da_
            have q742 : x7_1 < (l0.length : Int) := da_
            obtain ⟨ad742, e742, hx742_0⟩ := Kd.at_int HR0.out x7_1 p742 q742
            cases e742
            replace hx742_0 := (wc_ HB.out hx742_0 :)
            replace p742 := eq_true p742
            replace q742 := eq_true q742
            go_wp2_with (first | ((with_reducible refine gate_builtin (b := .append) (xs := #[.tmp 31, .tmp 33]) rfl ?_); at_builtin; refine Kd.R_append (Kd.int .i64) (w0 := w) w.heap.size rfl (.tmp 31) (.tmp 33) 22 2 (.int .i64 0) 8 rfl Try.underlying22 info2 rfl (by decide) (by omega) u5 x5_1 a1 [.int .i64 a1] (fun _ => True) (fun _ => False) rfl rfl ?aP (fun _ hk => hk.elim) ?aF ?aO ?aB ?aS ?aL ?_; (case aP => exact rfl); (case aB => exact (ba_ HB.out)); (case aF => exact (fun _ _ => trivial)); (case aO => exact (rr_ HO_5.out)); (case aS => exact (below_size (ba_ HB.out))); (case aL => have := LMc13.out; omega); intro v744 w15 ho hb hg hat; rw [← Ny743.out] at ho; have n0_ := Aside0.mk (hb); have n1_ := Aside0.mk (ho); clear HB; clear HO_5; have HB := n0_; have HO745 := n1_; clear n0_ n1_; clear ho hb hg hat; have p746 : 0 ≤ (x7_1 : Int) := da_; have q746 : x7_1 < (l0.length : Int) := da_; obtain ⟨ad746, e746, hx746_0⟩ := Kd.at_int HR0.out x7_1 p746 q746; obtain rfl : ad742 = ad746 := (by injection e746); replace hx746_0 := (wc_ HB.out hx746_0 :); replace p746 := eq_true p746; replace q746 := eq_true q746) | ((with_reducible refine gate_builtin (b := .append) (xs := #[.tmp 35, .tmp 40]) rfl ?_); at_builtin; refine Kd.R_append (Kd.int .i64) (w0 := w) w.heap.size rfl (.tmp 35) (.tmp 40) 22 2 (.int .i64 0) 8 rfl Try.underlying22 info2 rfl (by decide) (by omega) v744 y743 (rd l0 x7_1) [.int .i64 (rd l0 x7_1)] (fun _ => True) (fun _ => False) rfl rfl ?aP (fun _ hk => hk.elim) ?aF ?aO ?aB ?aS ?aL ?_; (case aP => exact rfl); (case aB => exact (ba_ HB.out)); (case aF => exact (fun _ _ => trivial)); (case aO => exact (rr_ HO745.out)); (case aS => exact (below_size (ba_ HB.out))); (case aL => have := LMc14.out; omega); intro v748 w16 ho hb hg hat; rw [← Ny747.out] at ho; have n0_ := Aside0.mk (hb); have n1_ := Aside0.mk (ho); clear HB; clear HO745; have HB := n0_; have HO749 := n1_; clear n0_ n1_; clear ho hb hg hat))
            go_roundg kj5
            case measure => have := HK1.out; have := HJ5.out; omega
            case rel => exact ⟨(y747), (true), (wrap64 (x7_1 + 1)), sv_, sv_, H', ⟨by have := HK1.out; have := HJ5.out; omega⟩, ⟨rr_ HO749.out⟩, ⟨bb_ HB.out⟩⟩
           ·rw [if_neg c14] at H
            exact absurd H (by simp)
          ·rw [if_neg c13] at H
           exact absurd H (by simp)
         ·rw [if_neg c12] at H
          have c12b0 : decide (a1 < (rd l0 x7_1)) = false := decide_eq_false c12
          clear c12
          by_cases c17 : x5_1.length < 17592186044416
          ·rw [if_pos c17] at H
           have LMc17 := Aside0.mk c17
           clear c17
           obtain ⟨y751, hy751⟩ : ∃ y_ : List Int, y_ = (x5_1 ++ [rd l0 x7_1]) := ⟨_, rfl⟩
           replace H : (spec_l00Put.l0 kj5 l0 a1 y751 true (wrap64 (x7_1 + 1))) = some r := by first | (rw [hy751]; with_reducible exact H) | (have H2_ := (Option.bind_some _ _).symm.trans H; rw [hy751]; with_reducible exact H2_) | (have H2_ := (Option.bind_some _ _).symm.trans H; with_reducible exact H2_) | with_reducible exact H | (rw [hy751]; exact H) | exact H
           have Ny751 := Aside0.mk hy751
           clear hy751
           have H' := Aside0.mk H
           clear H
           have p742 : 0 ≤ (x7_1 : Int) := da_
           have q742 : x7_1 < (l0.length : Int) := da_
           obtain ⟨ad742, e742, hx742_0⟩ := Kd.at_int HR0.out x7_1 p742 q742
           cases e742
           replace hx742_0 := (wc_ HB.out hx742_0 :)
           replace p742 := eq_true p742
           replace q742 := eq_true q742
           have p750 : 0 ≤ (x7_1 : Int) := da_
           have q750 : x7_1 < (l0.length : Int) := da_
           obtain ⟨ad750, e750, hx750_0⟩ := Kd.at_int HR0.out x7_1 p750 q750
           obtain rfl : ad742 = ad750 := (by injection e750)
           replace hx750_0 := (wc_ HB.out hx750_0 :)
           replace p750 := eq_true p750
           replace q750 := eq_true q750
           go_wp2_with (first | ((with_reducible refine gate_builtin (b := .append) (xs := #[.tmp 35, .tmp 40]) rfl ?_); at_builtin; refine Kd.R_append (Kd.int .i64) (w0 := w) w.heap.size rfl (.tmp 35) (.tmp 40) 22 2 (.int .i64 0) 8 rfl Try.underlying22 info2 rfl (by decide) (by omega) u5 x5_1 (rd l0 x7_1) [.int .i64 (rd l0 x7_1)] (fun _ => True) (fun _ => False) rfl rfl ?aP (fun _ hk => hk.elim) ?aF ?aO ?aB ?aS ?aL ?_; (case aP => exact rfl); (case aB => exact (ba_ HB.out)); (case aF => exact (fun _ _ => trivial)); (case aO => exact (rr_ HO_5.out)); (case aS => exact (below_size (ba_ HB.out))); (case aL => have := LMc17.out; omega); intro v752 w18 ho hb hg hat; rw [← Ny751.out] at ho; have n0_ := Aside0.mk (hb); have n1_ := Aside0.mk (ho); clear HB; clear HO_5; have HB := n0_; have HO753 := n1_; clear n0_ n1_; clear ho hb hg hat))
           go_roundg kj5
           case measure => have := HK1.out; have := HJ5.out; omega
           case rel => exact ⟨(y751), (true), (wrap64 (x7_1 + 1)), sv_, sv_, H', ⟨by have := HK1.out; have := HJ5.out; omega⟩, ⟨rr_ HO753.out⟩, ⟨bb_ HB.out⟩⟩
          ·rw [if_neg c17] at H
           exact absurd H (by simp)
        ·rw [if_neg c11] at H
         exact absurd H (by simp)
       ·rw [if_neg c10] at H
        exact absurd H (by simp)
      ·replace c9 := Bool.eq_false_iff.mpr c9
       subst c9
       have H1 : (if 0 ≤ x7_1 then (if x7_1 < (l0.length : Int) then (if x5_1.length < 17592186044416 then (spec_l00Put.l0 kj5 l0 a1 (x5_1 ++ [rd l0 x7_1]) x6_1 (wrap64 (x7_1 + 1))) else (none)) else (none)) else (none)) = some r := by rw [if_neg (show ¬ (false = true) by decide)] at H; exact H
       clear H
       have H := H1
       clear H1
       by_cases c19 : 0 ≤ x7_1
       ·rw [if_pos c19] at H
        have c19b0 : decide (0 ≤ x7_1) = true := decide_eq_true c19
        clear c19
        by_cases c20 : x7_1 < (l0.length : Int)
        ·rw [if_pos c20] at H
         have c20b0 : decide (x7_1 < (l0.length : Int)) = true := decide_eq_true c20
         clear c20
         by_cases c21 : x5_1.length < 17592186044416
         ·rw [if_pos c21] at H
          have LMc21 := Aside0.mk c21
          clear c21
          obtain ⟨y755, hy755⟩ : ∃ y_ : List Int, y_ = (x5_1 ++ [rd l0 x7_1]) := ⟨_, rfl⟩
          replace H : (spec_l00Put.l0 kj5 l0 a1 y755 x6_1 (wrap64 (x7_1 + 1))) = some r := by first | (rw [hy755]; with_reducible exact H) | (have H2_ := (Option.bind_some _ _).symm.trans H; rw [hy755]; with_reducible exact H2_) | (have H2_ := (Option.bind_some _ _).symm.trans H; with_reducible exact H2_) | with_reducible exact H | (rw [hy755]; exact H) | exact H
          have Ny755 := Aside0.mk hy755
          clear hy755
          have H' := Aside0.mk H
          clear H
          have p754 : 0 ≤ (x7_1 : Int) := da_
          have q754 : x7_1 < (l0.length : Int) := da_
          obtain ⟨ad754, e754, hx754_0⟩ := Kd.at_int HR0.out x7_1 p754 q754
          cases e754
          replace hx754_0 := (wc_ HB.out hx754_0 :)
          replace p754 := eq_true p754
          replace q754 := eq_true q754
          go_wp2_with (first | ((with_reducible refine gate_builtin (b := .append) (xs := #[.tmp 35, .tmp 40]) rfl ?_); at_builtin; refine Kd.R_append (Kd.int .i64) (w0 := w) w.heap.size rfl (.tmp 35) (.tmp 40) 22 2 (.int .i64 0) 8 rfl Try.underlying22 info2 rfl (by decide) (by omega) u5 x5_1 (rd l0 x7_1) [.int .i64 (rd l0 x7_1)] (fun _ => True) (fun _ => False) rfl rfl ?aP (fun _ hk => hk.elim) ?aF ?aO ?aB ?aS ?aL ?_; (case aP => exact rfl); (case aB => exact (ba_ HB.out)); (case aF => exact (fun _ _ => trivial)); (case aO => exact (rr_ HO_5.out)); (case aS => exact (below_size (ba_ HB.out))); (case aL => have := LMc21.out; omega); intro v756 w22 ho hb hg hat; rw [← Ny755.out] at ho; have n0_ := Aside0.mk (hb); have n1_ := Aside0.mk (ho); clear HB; clear HO_5; have HB := n0_; have HO757 := n1_; clear n0_ n1_; clear ho hb hg hat))
          go_roundg kj5
          case measure => have := HK1.out; have := HJ5.out; omega
          case rel => exact ⟨(y755), (x6_1), (wrap64 (x7_1 + 1)), sv_, sv_, H', ⟨by have := HK1.out; have := HJ5.out; omega⟩, ⟨rr_ HO757.out⟩, ⟨bb_ HB.out⟩⟩
         ·rw [if_neg c21] at H
          exact absurd H (by simp)
        ·rw [if_neg c20] at H
         exact absurd H (by simp)
       ·rw [if_neg c19] at H
        exact absurd H (by simp)
   ·rw [if_neg c5] at H
    have c5b0 : decide (x7_1 < (l0.length : Int)) = false := decide_eq_false c5
    clear c5
    by_cases c23 : x6_1 = true
    ·subst c23
     have H1 : (some x5_1) = some r := by rw [if_pos rfl] at H; exact H
     clear H
     have H := H1
     clear H1
     obtain rfl := Option.some.inj H
     go_wp2
     go_ret
     exact ⟨_, by first | rfl | (simp [errW_none, errW_some] <;> rfl) | (simp [*, errW_none, errW_some] <;> rfl), rr_ HO_5.out, bb_ HB.out⟩
    ·replace c23 := Bool.eq_false_iff.mpr c23
     subst c23
     have H1 : (if x5_1.length < 17592186044416 then (some (x5_1 ++ [a1])) else (none)) = some r := by rw [if_neg (show ¬ (false = true) by decide)] at H; exact H
     clear H
     have H := H1
     clear H1
     by_cases c24 : x5_1.length < 17592186044416
     ·rw [if_pos c24] at H
      have LMc24 := Aside0.mk c24
      clear c24
      obtain ⟨y738, hy738⟩ : ∃ y_ : List Int, y_ = (x5_1 ++ [a1]) := ⟨_, rfl⟩
      replace H : (some y738) = some r := by first | (rw [hy738]; with_reducible exact H) | (have H2_ := (Option.bind_some _ _).symm.trans H; rw [hy738]; with_reducible exact H2_) | (have H2_ := (Option.bind_some _ _).symm.trans H; with_reducible exact H2_) | with_reducible exact H | (rw [hy738]; exact H) | exact H
      have Ny738 := Aside0.mk hy738
      clear hy738
      obtain rfl := Option.some.inj H
      go_wp2_with (first | ((with_reducible refine gate_builtin (b := .append) (xs := #[.tmp 44, .tmp 46]) rfl ?_); at_builtin; refine Kd.R_append (Kd.int .i64) (w0 := w) w.heap.size rfl (.tmp 44) (.tmp 46) 22 2 (.int .i64 0) 8 rfl Try.underlying22 info2 rfl (by decide) (by omega) u5 x5_1 a1 [.int .i64 a1] (fun _ => True) (fun _ => False) rfl rfl ?aP (fun _ hk => hk.elim) ?aF ?aO ?aB ?aS ?aL ?_; (case aP => exact rfl); (case aB => exact (ba_ HB.out)); (case aF => exact (fun _ _ => trivial)); (case aO => exact (rr_ HO_5.out)); (case aS => exact (below_size (ba_ HB.out))); (case aL => have := LMc24.out; omega); intro v739 w25 ho hb hg hat; rw [← Ny738.out] at ho; have n0_ := Aside0.mk (hb); have n1_ := Aside0.mk (ho); clear HB; clear HO_5; have HB := n0_; have HO740 := n1_; clear n0_ n1_; clear ho hb hg hat))
      go_ret
      exact ⟨_, by first | rfl | (simp [errW_none, errW_some] <;> rfl) | (simp [*, errW_none, errW_some] <;> rfl), rr_ HO740.out, bb_ HB.out⟩
     ·rw [if_neg c24] at H
      exact absurd H (by simp)
/-! ### spec_l14Sorted: function 139 -/
def spec_l14Sorted.l0 : Nat → List Int → List Int → Int → Option (List Int)
 | 0, _, _, _ => none
 | k + 1, x0, x3, x4 => if x4 < (x0.length : Int) then (if 0 ≤ x4 then ((spec_l00Put.f k x3 (rd x0 x4)).bind fun t762 => (spec_l14Sorted.l0 k x0 t762 (wrap64 (x4 + 1)))) else (none)) else (some x3)
def spec_l14Sorted.f (k : Nat) (l0 : List Int) : Option (List Int) := spec_l14Sorted.l0 k l0 (([] : List Int)) 0
theorem spec_l14Sorted.mono_l : ∀ k, (∀ y0 y1 y2, LeO (spec_l14Sorted.l0 k y0 y1 y2) (spec_l14Sorted.l0 (k + 1) y0 y1 y2))
 | 0 => fun _ _ _ r h => by simp [spec_l14Sorted.l0] at h
 | k + 1 => by
  have ih0 := spec_l14Sorted.mono_l k
  ·intro y0 y1 y2
   unfold spec_l14Sorted.l0
   repeat' first
   | (with_reducible exact ih0 _ _ _)
   | (with_reducible exact spec_l00Put.mono _ _ _)
   | (with_reducible exact LeO.refl _)
   | (with_reducible exact LeO.none _)
   | (with_reducible refine LeO.ite ?_ ?_)
   | (with_reducible refine LeO.bind ?_ (fun _ => ?_))
   | exact ih0 _ _ _
   | exact spec_l00Put.mono _ _ _
   | exact LeO.none _
   | refine LeO.ite ?_ ?_
   | refine LeO.bind ?_ (fun _ => ?_)
theorem spec_l14Sorted.mono : ∀ a0 k, LeO (spec_l14Sorted.f k a0) (spec_l14Sorted.f (k + 1) a0) := by
 intro a0 k
 have ih0 := spec_l14Sorted.mono_l k
 unfold spec_l14Sorted.f
 repeat' first
   | (with_reducible exact ih0 _ _ _)
   | (with_reducible exact spec_l00Put.mono _ _ _)
   | (with_reducible exact LeO.refl _)
   | (with_reducible exact LeO.none _)
   | (with_reducible refine LeO.ite ?_ ?_)
   | (with_reducible refine LeO.bind ?_ (fun _ => ?_))
   | exact ih0 _ _ _
   | exact spec_l00Put.mono _ _ _
   | exact LeO.none _
   | refine LeO.ite ?_ ?_
   | refine LeO.bind ?_ (fun _ => ?_)
set_option maxHeartbeats 8000000 in
set_option maxRecDepth 100000 in
theorem spec_l14Sorted.calls (k : Nat) (A0 : Option Addr) (c0 : Nat) (l0 : List Int) (r : List Int) (w : World) (hr0 : Kd.C (Kd.int .i64) w A0 l0.length l0) (hc0 : l0.length ≤ c0) (h : spec_l14Sorted.f k l0 = some r) :
  Calls Try.prog 139 #[.slice A0 l0.length c0] w fun e w' => ∃ v0_ : Value, e = .returned (v0_) ∧ Kd.R (Kd.int .i64) 2 w' w.heap.size (fun _ => True) v0_ r ∧ Below w.heap.size w w' := by
 have HR0 := Aside0.mk hr0
 have HC0 := Aside0.mk hc0
 clear hr0 hc0
 have HB := Aside0.mk (Below.refl w.heap.size w)
 have H : (spec_l14Sorted.l0 k l0 (([] : List Int)) 0) = some r := h
 clear h
 obtain ⟨y758, hy758⟩ : ∃ y_ : List Int, y_ = (([] : List Int)) := ⟨_, rfl⟩
 replace H : (spec_l14Sorted.l0 k l0 y758 0) = some r := by first | (rw [hy758]; with_reducible exact H) | (have H2_ := (Option.bind_some _ _).symm.trans H; rw [hy758]; with_reducible exact H2_) | (have H2_ := (Option.bind_some _ _).symm.trans H; with_reducible exact H2_) | with_reducible exact H | (rw [hy758]; exact H) | exact H
 have Ny758 := Aside0.mk hy758
 clear hy758
 have H' := Aside0.mk H
 clear H
 go_enter Try.func139, Try.ntmps139
 go_wp2_with (first | ((with_reducible refine gate_dst (N := 5) rfl ?_); refine Kd.R_lit (Kd.int .i64) _ 2 ?hg (N := 5) ?hd (xs := ([] : List Int)) (inner := []) (ok := fun _ => True) (okp := fun _ => True) ?hr ?hp (fun _ hk => hk) trivial (Below.refl _ _) (Nat.le_refl _) (by simp) ?_; (case hd => rfl); (case hg => rfl); (case hr => first | (go_simp; done) | (go_simp; rfl)); (case hp => exact (Reps.none _ _)); intro v759 w2 ho3 hb hg_ hnew_; clear hg_ hnew_; (first | rw [← Ny758.out] at ho3 | (simp only [Int.reduceToNat] at ho3; rw [← Ny758.out] at ho3)); have n0_ := Aside0.mk (Kd.R_lower ho3 (below_size (ba_ HB.out))); have n1_ := Aside0.mk (below_step (ba_ HB.out) hb); clear HB; have HO760 := n0_; have HB := n1_; clear n0_ n1_; clear hb ho3))
 go_loopg [3, 4] k (fun kq v3 v4 w' => ∃ (x3_1 : List Int) (x4_1 : Int), v4 = .int .i64 x4_1 ∧ Aside0 (spec_l14Sorted.l0 kq l0 x3_1 x4_1 = some r) ∧ Aside0 (kq ≤ k) ∧ Aside0 (Kd.R (Kd.int .i64) 2 w' w.heap.size (fun _ => True) v3 x3_1) ∧ Aside0 (Below w.heap.size w w'))
 case atStart => exact ⟨(y758), (0), sv_, H', ⟨Nat.le_refl _⟩, ⟨rr_ HO760.out⟩, ⟨bb_ HB.out⟩⟩
 case round =>
  clear H'
  (try clear c1); (try clear p2)
  obtain ⟨x3_1, x4_1, rfl, HA, HK1, HO_3, HB⟩ := hrel
  cases gk with
  | zero => exact absurd HA.out (by simp [spec_l14Sorted.l0])
  | succ k1 =>
   have H := HA.out
   clear HA
   simp only [spec_l14Sorted.l0] at H
   by_cases c4 : x4_1 < (l0.length : Int)
   ·rw [if_pos c4] at H
    have c4b0 : decide (x4_1 < (l0.length : Int)) = true := decide_eq_true c4
    clear c4
    by_cases c5 : 0 ≤ x4_1
    ·rw [if_pos c5] at H
     have c5b0 : decide (0 ≤ x4_1) = true := decide_eq_true c5
     clear c5
     replace H := Option.bind_eq_some_iff.mp H
     obtain ⟨t762, A60, H⟩ := H
     replace H : (spec_l14Sorted.l0 k1 l0 t762 (wrap64 (x4_1 + 1))) = some r := H
     have A6 := Aside0.mk A60
     clear A60
     have H' := Aside0.mk H
     clear H
     have p761 : 0 ≤ (x4_1 : Int) := da_
     have q761 : x4_1 < (l0.length : Int) := da_
     obtain ⟨ad761, e761, hx761_0⟩ := Kd.at_int HR0.out x4_1 p761 q761
     cases e761
     replace hx761_0 := (wc_ HB.out hx761_0 :)
     replace p761 := eq_true p761
     replace q761 := eq_true q761
     obtain ⟨Ao7, co7, eo7⟩ := Kd.R_slice HO_3.out
     subst eo7
     go_wp2_with (first | ((with_reducible refine gate_callee (f := 160) rfl ?_); refine goesL_ (some 17) rfl rfl Try.func160 (by kernel_rfl) rfl #[.slice Ao7 x3_1.length co7, .int .i64 (rd l0 x4_1)] rfl av_ ?_; (with_reducible refine (spec_l00Put.calls k1 _ _ x3_1 (rd l0 x4_1) t762 _ ?side1 ?side2 A6.out).mono ?_); (case side1 => exact cs_ (Kd.R_reads' HO_3.out).2.2); (case side2 => exact (Kd.R_reads' HO_3.out).2.1); rintro e w8 ⟨v763, rfl, ho0, hb⟩; refine ⟨_, rfl, ?_⟩; have n0_ := Aside0.mk (Kd.R_elder' (rr_ HO_3.out) (Kd.R_base ho0) hb); have n1_ := Aside0.mk (Kd.R_lower (Kd.R_new' ho0 (Kd.R_lt (rr_ HO_3.out))) (below_size (ba_ HB.out))); have n2_ := Aside0.mk (below_step (ba_ HB.out) hb); clear HO_3; clear HB; have HO_3 := n0_; have HO764 := n1_; have HB := n2_; clear n0_ n1_ n2_; (try clear hb); (try clear hb2); (try clear hk); (try clear hi); (try clear ho0)))
     go_roundg k1
     case measure => have := HK1.out; omega
     case rel => exact ⟨(t762), (wrap64 (x4_1 + 1)), sv_, H', ⟨by have := HK1.out; omega⟩, ⟨by (with_reducible repeat (first | apply Kd.R_alloc | apply Kd.R_drewN | apply Kd.R_drew)); exact Kd.R_mono HO764.out (fun _ hk => trivial)⟩, ⟨bb_ HB.out⟩⟩
    ·rw [if_neg c5] at H
     exact absurd H (by simp)
   ·rw [if_neg c4] at H
    have c4b0 : decide (x4_1 < (l0.length : Int)) = false := decide_eq_false c4
    clear c4
    obtain rfl := Option.some.inj H
    go_wp2
    go_ret
    exact ⟨_, by first | rfl | (simp [errW_none, errW_some] <;> rfl) | (simp [*, errW_none, errW_some] <;> rfl), rr_ HO_3.out, bb_ HB.out⟩
/-! ### spec_l14Numbered: function 104 -/
def spec_l14Numbered.l0 : Nat → Int → List Int → List Int → Option (List Int)
  | 0, _, _, _ => none
  | k + 1, x1, x5, x6 => if (x5.length : Int) > 0 then ((spec_l14Factorial.f k (wrap64 ((x5.length : Int) - 1))).bind fun t771 => (if t771 = 0 then (none) else (if 0 ≤ (wrap64 (Int.tdiv x1 t771)) then (if (wrap64 (Int.tdiv x1 t771)) < (x5.length : Int) then (if x6.length < 17592186044416 then (if (wrap64 (Int.tdiv x1 t771)) ≤ (x5.length : Int) then ((spec_l00Own.f (x5.take ((wrap64 (Int.tdiv x1 t771)) : Int).toNat)).bind fun t780 => (if 0 ≤ (wrap64 ((wrap64 (Int.tdiv x1 t771)) + 1)) then (if (wrap64 ((wrap64 (Int.tdiv x1 t771)) + 1)) ≤ (x5.length : Int) then ((some (x5.drop ((wrap64 ((wrap64 (Int.tdiv x1 t771)) + 1)) : Int).toNat : List Int)).bind fun y783 => (if t780.length + y783.length < 17592186044416 then (spec_l14Numbered.l0 k (Int.tmod x1 t771) (t780 ++ y783) (x6 ++ [rd x5 (wrap64 (Int.tdiv x1 t771))])) else (none))) else (none)) else (none))) else (none)) else (none)) else (none)) else (none)))) else (some x6)
def spec_l14Numbered.f (k : Nat) (l0 : List Int) (a1 : Int) : Option (List Int) := (spec_l14Sorted.f k l0).bind fun t765 => (spec_l14Numbered.l0 k a1 t765 (([] : List Int)))
theorem spec_l14Numbered.mono_l : ∀ k, (∀ y0 y1 y2, LeO (spec_l14Numbered.l0 k y0 y1 y2) (spec_l14Numbered.l0 (k + 1) y0 y1 y2))
  | 0 => fun _ _ _ r h => by simp [spec_l14Numbered.l0] at h
  | k + 1 => by
    have ih0 := spec_l14Numbered.mono_l k
    · intro y0 y1 y2
      unfold spec_l14Numbered.l0
      repeat' first
      | (with_reducible exact ih0 _ _ _)
      | (with_reducible exact spec_l14Factorial.mono _ _)
      | (with_reducible exact spec_l14Sorted.mono _ _)
      | (with_reducible exact LeO.refl _)
      | (with_reducible exact LeO.none _)
      | (with_reducible refine LeO.ite ?_ ?_)
      | (with_reducible refine LeO.bind ?_ (fun _ => ?_))
      | exact ih0 _ _ _
      | exact spec_l14Factorial.mono _ _
      | exact spec_l14Sorted.mono _ _
      | exact LeO.none _
      | refine LeO.ite ?_ ?_
      | refine LeO.bind ?_ (fun _ => ?_)
theorem spec_l14Numbered.mono : ∀ a0 a1 k, LeO (spec_l14Numbered.f k a0 a1) (spec_l14Numbered.f (k + 1) a0 a1) := by
  intro a0 a1 k
  have ih0 := spec_l14Numbered.mono_l k
  unfold spec_l14Numbered.f
  repeat' first
      | (with_reducible exact ih0 _ _ _)
      | (with_reducible exact spec_l14Factorial.mono _ _)
      | (with_reducible exact spec_l14Sorted.mono _ _)
      | (with_reducible exact LeO.refl _)
      | (with_reducible exact LeO.none _)
      | (with_reducible refine LeO.ite ?_ ?_)
      | (with_reducible refine LeO.bind ?_ (fun _ => ?_))
      | exact ih0 _ _ _
      | exact spec_l14Factorial.mono _ _
      | exact spec_l14Sorted.mono _ _
      | exact LeO.none _
      | refine LeO.ite ?_ ?_
      | refine LeO.bind ?_ (fun _ => ?_)
set_option maxHeartbeats 8000000 in
set_option maxRecDepth 100000 in
theorem spec_l14Numbered.calls (k : Nat) (A0 : Option Addr) (c0 : Nat) (l0 : List Int) (a1 : Int) (r : List Int) (w : World) (hr0 : Kd.C (Kd.int .i64) w A0 l0.length l0) (hc0 : l0.length ≤ c0) (h : spec_l14Numbered.f k l0 a1 = some r) :
    Calls Try.prog 104 #[.slice A0 l0.length c0, .int .i64 a1] w fun e w' => ∃ v0_ : Value, e = .returned (v0_) ∧ Kd.R (Kd.int .i64) 2 w' w.heap.size (fun _ => True) v0_ r ∧ Below w.heap.size w w' := by
  have HR0 := Aside0.mk hr0
  have HC0 := Aside0.mk hc0
  clear hr0 hc0
  have HB := Aside0.mk (Below.refl w.heap.size w)
  have H : ((spec_l14Sorted.f k l0).bind fun t765 => (spec_l14Numbered.l0 k a1 t765 (([] : List Int)))) = some r := h
  clear h
  replace H := Option.bind_eq_some_iff.mp H
  obtain ⟨t765, A30, H⟩ := H
  replace H : (spec_l14Numbered.l0 k a1 t765 (([] : List Int))) = some r := H
  have A3 := Aside0.mk A30
  clear A30
  obtain ⟨y768, hy768⟩ : ∃ y_ : List Int, y_ = (([] : List Int)) := ⟨_, rfl⟩
  replace H : (spec_l14Numbered.l0 k a1 t765 y768) = some r := by first | (rw [hy768]; with_reducible exact H) | (have H2_ := (Option.bind_some _ _).symm.trans H; rw [hy768]; with_reducible exact H2_) | (have H2_ := (Option.bind_some _ _).symm.trans H; with_reducible exact H2_) | with_reducible exact H | (rw [hy768]; exact H) | exact H
  have Ny768 := Aside0.mk hy768
  clear hy768
  have H' := Aside0.mk H
  clear H
  go_enter Try.func104, Try.ntmps104
  go_wp2_with (first | ((with_reducible refine gate_callee (f := 139) rfl ?_); refine goesL_ (some 11) rfl rfl Try.func139 (by kernel_rfl) rfl #[.slice A0 l0.length c0] rfl (by (try simp only [List.map_toArray, List.map_cons, List.map_nil]); first | done | rfl | (simp only [List.length_drop, List.length_take]; rfl)) ?_; (with_reducible refine (spec_l14Sorted.calls k _ _ l0 t765 _ ?side1 ?side2 A3.out).mono ?_); (case side1 => exact cs_ HR0.out); (case side2 => exact HC0.out); rintro e w4 ⟨v766, rfl, ho0, hb⟩; refine ⟨_, rfl, ?_⟩; have n0_ := Aside0.mk (Kd.R_lower ho0 (below_size (bb_ HB.out))); have n1_ := Aside0.mk (below_step (bb_ HB.out) hb); clear HB; have HO767 := n0_; have HB := n1_; clear n0_ n1_; (try clear hb); (try clear hb2); (try clear hk); (try clear hi); (try clear ho0)) | ((with_reducible refine gate_dst (N := 12) rfl ?_); refine Kd.R_lit (Kd.int .i64) _ 2 ?hg (N := 12) ?hd (xs := ([] : List Int)) (inner := []) (ok := fun _ => True) (okp := fun _ => True) ?hr ?hp (fun _ hk => hk) trivial (Below.refl _ _) (Nat.le_refl _) (by simp) ?_; (case hd => rfl); (case hg => rfl); (case hr => first | (go_simp; done) | (go_simp; rfl)); (case hp => exact (Reps.none _ _)); intro v769 w5 ho6 hb hg_ hnew_; clear hg_ hnew_; (first | rw [← Ny768.out] at ho6 | (simp only [Int.reduceToNat] at ho6; rw [← Ny768.out] at ho6)); have n0_ := Aside0.mk (Kd.R_elder' (rr_ HO767.out) (Kd.R_base ho6) hb); have n1_ := Aside0.mk (Kd.R_lower (Kd.R_new' ho6 (Kd.R_lt (rr_ HO767.out))) (below_size (bb_ HB.out))); have n2_ := Aside0.mk (below_step (bb_ HB.out) hb); clear HO767; clear HB; have HO767 := n0_; have HO770 := n1_; have HB := n2_; clear n0_ n1_ n2_; clear hb ho6))
  go_loopg [1, 5, 6] k (fun kq v1 v5 v6 w' => ∃ (x1_1 : Int) (x5_1 : List Int) (x6_1 : List Int), v1 = .int .i64 x1_1 ∧ Aside0 (spec_l14Numbered.l0 kq x1_1 x5_1 x6_1 = some r) ∧ Aside0 (kq ≤ k) ∧ Aside0 (Kd.R (Kd.int .i64) 2 w' w.heap.size (fun k_ => some k_ ≠ (v6 : Value).ownBlock) v5 x5_1) ∧ Aside0 (Kd.R (Kd.int .i64) 2 w' w.heap.size (fun k_ => some k_ ≠ (v5 : Value).ownBlock) v6 x6_1) ∧ Aside0 (Below w.heap.size w w'))
  case atStart => exact ⟨(a1), (t765), (y768), sv_, H', ⟨Nat.le_refl _⟩, ⟨by (with_reducible repeat (first | apply Kd.R_alloc | apply Kd.R_drewN | apply Kd.R_drew)); exact Kd.R_mono HO767.out (fun _ hk => hk.2)⟩, ⟨by (with_reducible repeat (first | apply Kd.R_alloc | apply Kd.R_drewN | apply Kd.R_drew)); exact Kd.R_mono HO770.out (fun _ hk => hk.2)⟩, ⟨bb_ HB.out⟩⟩
  case round =>
    clear H'
    (try clear c1); (try clear p2)
    obtain ⟨x1_1, x5_1, x6_1, rfl, HA, HK1, HO_5, HO_6, HB⟩ := hrel
    cases gk with
    | zero => exact absurd HA.out (by simp [spec_l14Numbered.l0])
    | succ k1 =>
      have H := HA.out
      clear HA
      simp only [spec_l14Numbered.l0] at H
      by_cases c7 : (x5_1.length : Int) > 0
      · rw [if_pos c7] at H
        have c7b0 : decide (0 < (x5_1.length : Int)) = true := decide_eq_true c7
        have c7b1 : decide (0 < x5_1.length) = true := decide_eq_true (by omega)
        clear c7
        replace H := Option.bind_eq_some_iff.mp H
        obtain ⟨t771, A80, H⟩ := H
        replace H : (if t771 = 0 then (none) else (if 0 ≤ (wrap64 (Int.tdiv x1_1 t771)) then (if (wrap64 (Int.tdiv x1_1 t771)) < (x5_1.length : Int) then (if x6_1.length < 17592186044416 then (if (wrap64 (Int.tdiv x1_1 t771)) ≤ (x5_1.length : Int) then ((spec_l00Own.f (x5_1.take ((wrap64 (Int.tdiv x1_1 t771)) : Int).toNat)).bind fun t780 => (if 0 ≤ (wrap64 ((wrap64 (Int.tdiv x1_1 t771)) + 1)) then (if (wrap64 ((wrap64 (Int.tdiv x1_1 t771)) + 1)) ≤ (x5_1.length : Int) then ((some (x5_1.drop ((wrap64 ((wrap64 (Int.tdiv x1_1 t771)) + 1)) : Int).toNat : List Int)).bind fun y783 => (if t780.length + y783.length < 17592186044416 then (spec_l14Numbered.l0 k1 (Int.tmod x1_1 t771) (t780 ++ y783) (x6_1 ++ [rd x5_1 (wrap64 (Int.tdiv x1_1 t771))])) else (none))) else (none)) else (none))) else (none)) else (none)) else (none)) else (none))) = some r := H
        have A8 := Aside0.mk A80
        clear A80
        by_cases c9 : t771 = 0
        · rw [if_pos c9] at H
          exact absurd H (by simp)
        · rw [if_neg c9] at H
          have c9b0 : (t771 == 0) = false := beq_eq_false_iff_ne.mpr c9
          have c9b1 : (t771 != 0) = true := bne_iff_ne.mpr c9
          obtain ⟨ji10, hji10⟩ : ∃ j_ : Int, (wrap64 (Int.tdiv x1_1 t771)) = j_ := ⟨_, rfl⟩
          replace H : (if 0 ≤ (ji10) then (if (ji10) < (x5_1.length : Int) then (if x6_1.length < 17592186044416 then (if (ji10) ≤ (x5_1.length : Int) then ((spec_l00Own.f (x5_1.take ((ji10) : Int).toNat)).bind fun t780 => (if 0 ≤ (wrap64 ((ji10) + 1)) then (if (wrap64 ((ji10) + 1)) ≤ (x5_1.length : Int) then ((some (x5_1.drop ((wrap64 ((ji10) + 1)) : Int).toNat : List Int)).bind fun y783 => (if t780.length + y783.length < 17592186044416 then (spec_l14Numbered.l0 k1 (Int.tmod x1_1 t771) (t780 ++ y783) (x6_1 ++ [rd x5_1 (ji10)])) else (none))) else (none)) else (none))) else (none)) else (none)) else (none)) else (none)) = some r := by first | (rw [hji10] at H; exact H) | (simp only [hji10] at H ⊢; exact H)
          (try rw [hji10] at A8)
          have hji10w : (IntKind.i64.wrap (Int.tdiv x1_1 t771)) = ji10 := (i64_w _).trans hji10
          by_cases c11 : 0 ≤ (ji10)
          · rw [if_pos c11] at H
            have c11b0 : decide (0 ≤ (ji10)) = true := decide_eq_true c11
            clear c11
            by_cases c12 : (ji10) < (x5_1.length : Int)
            · rw [if_pos c12] at H
              have c12b0 : decide ((ji10) < (x5_1.length : Int)) = true := decide_eq_true c12
              clear c12
              by_cases c13 : x6_1.length < 17592186044416
              · rw [if_pos c13] at H
                have LMc13 := Aside0.mk c13
                clear c13
                obtain ⟨y773, hy773⟩ : ∃ y_ : List Int, y_ = (x6_1 ++ [rd x5_1 (ji10)]) := ⟨_, rfl⟩
                replace H : (if (ji10) ≤ (x5_1.length : Int) then ((spec_l00Own.f (x5_1.take ((ji10) : Int).toNat)).bind fun t780 => (if 0 ≤ (wrap64 ((ji10) + 1)) then (if (wrap64 ((ji10) + 1)) ≤ (x5_1.length : Int) then ((some (x5_1.drop ((wrap64 ((ji10) + 1)) : Int).toNat : List Int)).bind fun y783 => (if t780.length + y783.length < 17592186044416 then (spec_l14Numbered.l0 k1 (Int.tmod x1_1 t771) (t780 ++ y783) y773) else (none))) else (none)) else (none))) else (none)) = some r := by first | (rw [hy773]; with_reducible exact H) | (have H2_ := (Option.bind_some _ _).symm.trans H; rw [hy773]; with_reducible exact H2_) | (have H2_ := (Option.bind_some _ _).symm.trans H; with_reducible exact H2_) | with_reducible exact H | (rw [hy773]; exact H) | exact H
                have Ny773 := Aside0.mk hy773
                clear hy773
                have c14b0 := eq_true (of_decide_eq_true (by first | (with_reducible assumption) | assumption) : 0 ≤ (ji10))
                by_cases c15 : (ji10) ≤ (x5_1.length : Int)
                · rw [if_pos c15] at H
                  have c15b0 := eq_true c15
                  have c15b1 : decide ((ji10) ≤ (x5_1.length : Int)) = true := decide_eq_true c15
                  clear c15
                  obtain ⟨y776, hy776⟩ : ∃ y_ : List Int, y_ = (x5_1.take ((ji10) : Int).toNat) := ⟨_, rfl⟩
                  replace H : ((spec_l00Own.f y776).bind fun t780 => (if 0 ≤ (wrap64 ((ji10) + 1)) then (if (wrap64 ((ji10) + 1)) ≤ (x5_1.length : Int) then ((some (x5_1.drop ((wrap64 ((ji10) + 1)) : Int).toNat : List Int)).bind fun y783 => (if t780.length + y783.length < 17592186044416 then (spec_l14Numbered.l0 k1 (Int.tmod x1_1 t771) (t780 ++ y783) y773) else (none))) else (none)) else (none))) = some r := by first | (rw [hy776]; with_reducible exact H) | (have H2_ := (Option.bind_some _ _).symm.trans H; rw [hy776]; with_reducible exact H2_) | (have H2_ := (Option.bind_some _ _).symm.trans H; with_reducible exact H2_) | with_reducible exact H | (rw [hy776]; exact H) | exact H
                  have Ny776 := Aside0.mk hy776
                  clear hy776
                  replace H := Option.bind_eq_some_iff.mp H
                  obtain ⟨t780, A160, H⟩ := H
                  replace H : (if 0 ≤ (wrap64 ((ji10) + 1)) then (if (wrap64 ((ji10) + 1)) ≤ (x5_1.length : Int) then ((some (x5_1.drop ((wrap64 ((ji10) + 1)) : Int).toNat : List Int)).bind fun y783 => (if t780.length + y783.length < 17592186044416 then (spec_l14Numbered.l0 k1 (Int.tmod x1_1 t771) (t780 ++ y783) y773) else (none))) else (none)) else (none)) = some r := H
                  have A16 := Aside0.mk A160
                  clear A160
                  obtain ⟨ji17, hji17⟩ : ∃ j_ : Int, (wrap64 ((ji10) + 1)) = j_ := ⟨_, rfl⟩
                  replace H : (if 0 ≤ (ji17) then (if (ji17) ≤ (x5_1.length : Int) then ((some (x5_1.drop ((ji17) : Int).toNat : List Int)).bind fun y783 => (if t780.length + y783.length < 17592186044416 then (spec_l14Numbered.l0 k1 (Int.tmod x1_1 t771) (t780 ++ y783) y773) else (none))) else (none)) else (none)) = some r := by first | (rw [hji17] at H; exact H) | (simp only [hji17] at H ⊢; exact H)
                  (try rw [hji17] at A8)
                  (try rw [hji17] at A16)
                  have hji17w : (IntKind.i64.wrap ((ji10) + 1)) = ji17 := (i64_w _).trans hji17
                  by_cases c18 : 0 ≤ (ji17)
                  · rw [if_pos c18] at H
                    have c18b0 := eq_true c18
                    have c18b1 : decide (0 ≤ (ji17)) = true := decide_eq_true c18
                    clear c18
                    by_cases c19 : (ji17) ≤ (x5_1.length : Int)
                    · rw [if_pos c19] at H
                      have c19b0 := eq_true c19
                      have c19b1 : decide ((ji17) ≤ (x5_1.length : Int)) = true := decide_eq_true c19
                      clear c19
                      obtain ⟨y783, hy783⟩ : ∃ y_ : List Int, y_ = (x5_1.drop ((ji17) : Int).toNat) := ⟨_, rfl⟩
                      replace H : (if t780.length + y783.length < 17592186044416 then (spec_l14Numbered.l0 k1 (Int.tmod x1_1 t771) (t780 ++ y783) y773) else (none)) = some r := by first | (rw [hy783]; with_reducible exact H) | (have H2_ := (Option.bind_some _ _).symm.trans H; rw [hy783]; with_reducible exact H2_) | (have H2_ := (Option.bind_some _ _).symm.trans H; with_reducible exact H2_) | with_reducible exact H | (rw [hy783]; exact H) | exact H
                      have Ny783 := Aside0.mk hy783
                      clear hy783
                      by_cases c20 : t780.length + y783.length < 17592186044416
                      · rw [if_pos c20] at H
                        have LMc20 := Aside0.mk c20
                        clear c20
                        obtain ⟨y787, hy787⟩ : ∃ y_ : List Int, y_ = (t780 ++ y783) := ⟨_, rfl⟩
                        replace H : (spec_l14Numbered.l0 k1 (Int.tmod x1_1 t771) y787 y773) = some r := by first | (rw [hy787]; with_reducible exact H) | (have H2_ := (Option.bind_some _ _).symm.trans H; rw [hy787]; with_reducible exact H2_) | (have H2_ := (Option.bind_some _ _).symm.trans H; with_reducible exact H2_) | with_reducible exact H | (rw [hy787]; exact H) | exact H
                        have Ny787 := Aside0.mk hy787
                        clear hy787
                        have H' := Aside0.mk H
                        clear H
                        obtain ⟨Ao21, co21, eo21⟩ := Kd.R_slice HO_5.out
                        subst eo21
                        go_wp2_with (first | ((with_reducible refine gate_callee (f := 103) rfl ?_); refine goesL_ (some 19) rfl rfl Try.func103 (by kernel_rfl) rfl #[.int .i64 (wrap64 ((x5_1.length : Int) - 1))] rfl (by (try simp only [List.map_toArray, List.map_cons, List.map_nil]); first | done | rfl | (simp only [List.length_drop, List.length_take]; rfl)) ?_; (with_reducible refine (spec_l14Factorial.calls k1 (wrap64 ((x5_1.length : Int) - 1)) t771 _ A8.out).mono ?_); rintro e w' ⟨rfl, ⟨nd, rfl⟩⟩; refine ⟨_, rfl, ?_⟩; have p772 : 0 ≤ ((ji10) : Int) := of_decide_eq_true (by first | (with_reducible assumption) | assumption); have q772 : (ji10) < (x5_1.length : Int) := of_decide_eq_true (by first | (with_reducible assumption) | assumption); obtain ⟨ad772, e772, hx772_0⟩ := Kd.at_int (Kd.R_reads' HO_5.out).2.2 (ji10) p772 q772; cases e772; replace p772 := eq_true p772; replace q772 := eq_true q772) | ((with_reducible refine gate_builtin (b := .append) (xs := #[.tmp 26, .tmp 31]) rfl ?_); at_builtin; refine Kd.R_append (Kd.int .i64) (w0 := w) w.heap.size rfl (.tmp 26) (.tmp 31) 22 2 (.int .i64 0) 8 rfl Try.underlying22 info2 rfl (by decide) (by omega) u6 x6_1 (rd x5_1 (ji10)) [.int .i64 (rd x5_1 (ji10))] (fun k_ => some k_ ≠ (.slice (some ad772) x5_1.length co21 : Value).ownBlock) (fun _ => False) rfl rfl ?aP (fun _ hk => hk.elim) ?aF ?aO ?aB ?aS ?aL ?_; (case aP => exact rfl); (case aB => exact (bb_ HB.out)); (case aF => exact (fun k_ hk => Kd.fresh' (Kd.R_lt (rr_ HO_5.out)) k_ hk)); (case aO => exact (rr_ HO_6.out)); (case aS => exact (below_size (bb_ HB.out))); (case aL => have := LMc13.out; omega); intro v774 w22 ho hb hg hat; rw [← Ny773.out] at ho; have n0_ := Aside0.mk (Kd.R_after (ok := (fun _ => True)) (by (with_reducible repeat (first | apply Kd.R_alloc | apply Kd.R_drewN | apply Kd.R_drew)); exact Kd.R_mono HO_5.out (fun _ hk => ⟨trivial, hk⟩)) hg hat); have n1_ := Aside0.mk (hb); have n2_ := Aside0.mk (ho); clear HO_5; clear HB; clear HO_6; have HO_5 := n0_; have HB := n1_; have HO775 := n2_; clear n0_ n1_ n2_; clear ho hb hg hat; have q23 : ((ji10) : Int) ≤ ((x5_1.length : Int) : Int) := of_decide_eq_true (by first | (with_reducible assumption) | assumption); obtain ⟨i023, hi023, _, hsz23, _⟩ := info_parts info2; have hroom23 : x5_1.length ≤ co21 := (Kd.R_reads' HO_5.out).2.1; have hC23 : Kd.C (Kd.int .i64) _ (some ad772) x5_1.length x5_1 := (Kd.R_reads' HO_5.out).2.2; have hcut23 := cut_to (P := Try.prog) 22 2 .i64 Try.underlying22 hi023 (some ad772) x5_1.length co21 (ji10) (of_decide_eq_true (by first | (with_reducible assumption) | assumption)) q23 hroom23; have hr23 := Kd.C_take (m := ((ji10) : Int).toNat) hC23 (by omega); have hy23 : y776.length = ((ji10) : Int).toNat := (by rw [Ny776.out, List.length_take]; omega); rw [← Ny776.out] at hr23; rw [← hy23] at hcut23; have HR779 := Aside0.mk hr23; have HC779 := Aside0.mk (show y776.length ≤ co21 from by omega); clear hr23 hC23 hroom23 hi023 hsz23; have KY23 := Aside0.mk hy23; clear hy23; have KL23 := Aside0.mk (show ((ji10) : Int).toNat ≤ x5_1.length from by omega); replace q23 := eq_true q23) | ((with_reducible refine gate_callee (f := 99) rfl ?_); refine goesL_ (some 36) rfl rfl Try.func99 (by kernel_rfl) rfl #[.slice (some ad772) y776.length co21] rfl (by (try simp only [List.map_toArray, List.map_cons, List.map_nil]); first | done | rfl | (simp only [List.length_drop, List.length_take]; rfl)) ?_; (with_reducible refine (spec_l00Own.calls _ _ y776 t780 _ ?side1 ?side2 A16.out).mono ?_); (case side1 => repeat (first | exact (by repeat (first | (with_reducible exact HR779.out) | (with_reducible refine Kd.C_alloc ?_ _) | (with_reducible refine Kd.C_drewN ?_ _) | (with_reducible refine Kd.C_drew ?_) | exact HR779.out)) | (with_reducible refine Kd.C_alloc ?_ _) | (with_reducible refine Kd.C_drewN ?_ _) | (with_reducible refine Kd.C_drew ?_))); (case side2 => exact HC779.out); rintro e w24 ⟨v781, rfl, ho0, hb⟩; refine ⟨_, rfl, ?_⟩; have n0_ := Aside0.mk (Kd.R_elder' (rr_ HO_5.out) (Kd.R_base ho0) hb); have n1_ := Aside0.mk (Kd.R_elder' (rr_ HO775.out) (Kd.R_base ho0) hb); have n2_ := Aside0.mk (Kd.R_lower (Kd.R_new' (Kd.R_new' ho0 (Kd.R_lt (rr_ HO_5.out))) (Kd.R_lt (rr_ HO775.out))) (below_size (bb_ HB.out))); have n3_ := Aside0.mk (Kd.C_below (by repeat (first | (with_reducible exact HR779.out) | (with_reducible refine Kd.C_alloc ?_ _) | (with_reducible refine Kd.C_drewN ?_ _) | (with_reducible refine Kd.C_drew ?_) | exact HR779.out)) hb); have n4_ := Aside0.mk (below_step (bb_ HB.out) hb); clear HO_5; clear HO775; clear HR779; clear HB; have HO_5 := n0_; have HO775 := n1_; have HO782 := n2_; have HR779 := n3_; have HB := n4_; clear n0_ n1_ n2_ n3_ n4_; (try clear hb); (try clear hb2); (try clear hk); (try clear hi); (try clear ho0); have q25 : ((ji17) : Int) ≤ ((x5_1.length : Int) : Int) := of_decide_eq_true (by first | (with_reducible assumption) | assumption); obtain ⟨i025, hi025, _, hsz25, _⟩ := info_parts info2; have hroom25 : x5_1.length ≤ co21 := (Kd.R_reads' HO_5.out).2.1; have hC25 : Kd.C (Kd.int .i64) _ (some ad772) x5_1.length x5_1 := (Kd.R_reads' HO_5.out).2.2; have q025 : (0 : Int) ≤ ((ji17) : Int) := of_decide_eq_true (by first | (with_reducible assumption) | assumption); have hcut25 := cut_from (P := Try.prog) 22 2 .i64 Try.underlying22 hi025 1 hsz25 (some ad772) x5_1.length co21 (ji17) q025 q25; have hr25 := Kd.C_drop (m := ((ji17) : Int).toNat) (c := co21) hC25 (by omega) hroom25; obtain ⟨A25, hA25⟩ : ∃ A1, A1 = (if co21 = ((ji17) : Int).toNat then (some ad772) else ((some ad772) : Option Addr).map (·.add (((ji17) : Int).toNat * 1))) := ⟨_, rfl⟩; obtain ⟨c25, hc25⟩ : ∃ c1, c1 = co21 - ((ji17) : Int).toNat := ⟨_, rfl⟩; have hy25 : y783.length = x5_1.length - ((ji17) : Int).toNat := (by rw [Ny783.out, List.length_drop] <;> omega); rw [show (x5_1).drop ((ji17) : Int).toNat = y783 from Ny783.out.symm] at hr25; replace hr25 : Kd.C (Kd.int .i64) _ A25 y783.length y783 := (by rw [hA25]; exact hr25); rw [← hy25, ← hA25, ← hc25] at hcut25; have HR786 := Aside0.mk hr25; have HC786 := Aside0.mk (show y783.length ≤ c25 from by rw [hy25, hc25]; exact Nat.sub_le_sub_right hroom25 _); clear hr25 hC25 hroom25 hi025 hsz25 hc25; have KY25 := Aside0.mk hy25; have KA25 := Aside0.mk hA25; clear hy25 hA25; have KL25 := Aside0.mk (show ((ji17) : Int).toNat ≤ x5_1.length from by omega); replace q25 := eq_true q25) | ((with_reducible refine gate_builtin (b := .append) (xs := #[.tmp 37, .tmp 41]) rfl ?_); at_builtin; refine Kd.R_append_rows (Kd.int .i64) (w0 := w) w.heap.size rfl (.tmp 37) (.tmp 41) 22 2 (.int .i64 0) 8 rfl Try.underlying22 info2 rfl (by decide) (by omega) v781 t780 y783 _ _ _ (fun k_ => some k_ ≠ (.slice (some ad772) x5_1.length co21 : Value).ownBlock ∧ some k_ ≠ (v774 : Value).ownBlock) (fun _ => False) rfl rfl ?aO ?aR (fun _ _ h => h) (fun _ h => h.elim) ?aF ?aB ?aS ?aL ?_; (case aR => repeat (first | exact (by repeat (first | (with_reducible exact HR786.out) | (with_reducible refine Kd.C_alloc ?_ _) | (with_reducible refine Kd.C_drewN ?_ _) | (with_reducible refine Kd.C_drew ?_) | exact HR786.out)) | (with_reducible refine Kd.C_alloc ?_ _) | (with_reducible refine Kd.C_drewN ?_ _) | (with_reducible refine Kd.C_drew ?_))); (case aB => exact (bb_ HB.out)); (case aF => exact (fun k_ hk => ⟨Kd.fresh' (Kd.R_lt (rr_ HO_5.out)) k_ hk, Kd.fresh' (Kd.R_lt (rr_ HO775.out)) k_ hk⟩)); (case aO => exact (by (with_reducible repeat (first | apply Kd.R_alloc | apply Kd.R_drewN | apply Kd.R_drew)); exact Kd.R_mono HO782.out (fun _ hk => ⟨hk.1.2, hk.2⟩))); (case aS => exact (below_size (bb_ HB.out))); (case aL => have := LMc20.out; omega); intro v788 w26 ho hb hg hat; rw [← Ny787.out] at ho; have n0_ := Aside0.mk (Kd.R_after (ok := (fun k_ => some k_ ≠ (v774 : Value).ownBlock)) (by (with_reducible repeat (first | apply Kd.R_alloc | apply Kd.R_drewN | apply Kd.R_drew)); exact Kd.R_mono HO_5.out (fun _ hk => ⟨hk.1.2, hk.2⟩)) hg hat); have n1_ := Aside0.mk (Kd.R_after (ok := (fun k_ => some k_ ≠ (.slice (some ad772) x5_1.length co21 : Value).ownBlock)) (rr_ HO775.out) hg hat); have n2_ := Aside0.mk (hb); have n3_ := Aside0.mk ((show Kd.C (Kd.int .i64) w26 (some ad772) y776.length y776 from by rw [Ny776.out]; exact Kd.C_take (m := ((ji10) : Int).toNat) ((Kd.R_reads' (Kd.R_after (ok := (fun k_ => some k_ ≠ (v774 : Value).ownBlock)) (by (with_reducible repeat (first | apply Kd.R_alloc | apply Kd.R_drewN | apply Kd.R_drew)); exact Kd.R_mono HO_5.out (fun _ hk => ⟨hk.1.2, hk.2⟩)) hg hat)).2.2) KL23.out)); have n4_ := Aside0.mk ((show Kd.C (Kd.int .i64) w26 A25 y783.length y783 from by rw [Ny783.out, KA25.out]; exact Kd.C_drop (m := ((ji17) : Int).toNat) (c := co21) ((Kd.R_reads' (Kd.R_after (ok := (fun k_ => some k_ ≠ (v774 : Value).ownBlock)) (by (with_reducible repeat (first | apply Kd.R_alloc | apply Kd.R_drewN | apply Kd.R_drew)); exact Kd.R_mono HO_5.out (fun _ hk => ⟨hk.1.2, hk.2⟩)) hg hat)).2.2) KL25.out ((Kd.R_reads' (Kd.R_after (ok := (fun k_ => some k_ ≠ (v774 : Value).ownBlock)) (by (with_reducible repeat (first | apply Kd.R_alloc | apply Kd.R_drewN | apply Kd.R_drew)); exact Kd.R_mono HO_5.out (fun _ hk => ⟨hk.1.2, hk.2⟩)) hg hat)).2.1))); have n5_ := Aside0.mk (ho); clear HO_5; clear HO775; clear HB; clear HR779; clear HR786; clear HO782; have HO_5 := n0_; have HO775 := n1_; have HB := n2_; have HR779 := n3_; have HR786 := n4_; have HO789 := n5_; clear n0_ n1_ n2_ n3_ n4_ n5_; clear ho hb hg hat))
                        go_roundg k1
                        case measure => have := HK1.out; omega
                        case rel => exact ⟨(Int.tmod x1_1 t771), (y787), (y773), sv_, H', ⟨by have := HK1.out; omega⟩, ⟨by (with_reducible repeat (first | apply Kd.R_alloc | apply Kd.R_drewN | apply Kd.R_drew)); exact Kd.R_mono HO789.out (fun _ hk => hk.2)⟩, ⟨by (with_reducible repeat (first | apply Kd.R_alloc | apply Kd.R_drewN | apply Kd.R_drew)); exact Kd.R_mono HO775.out (fun _ hk => hk.2)⟩, ⟨bb_ HB.out⟩⟩
                      · rw [if_neg c20] at H
                        exact absurd H (by simp)
                    · rw [if_neg c19] at H
                      exact absurd H (by simp)
                  · rw [if_neg c18] at H
                    exact absurd H (by simp)
                · rw [if_neg c15] at H
                  exact absurd H (by simp)
              · rw [if_neg c13] at H
                exact absurd H (by simp)
            · rw [if_neg c12] at H
              exact absurd H (by simp)
          · rw [if_neg c11] at H
            exact absurd H (by simp)
      · rw [if_neg c7] at H
        have c7b0 : decide (0 < (x5_1.length : Int)) = false := decide_eq_false c7
        have c7b1 : decide (0 < x5_1.length) = false := decide_eq_false (by omega)
        clear c7
        obtain rfl := Option.some.inj H
        obtain ⟨Ao27, co27, eo27⟩ := Kd.R_slice HO_5.out
        subst eo27
        go_wp2
        go_ret
        exact ⟨_, by first | rfl | (simp [errW_none, errW_some] <;> rfl) | (simp [*, errW_none, errW_some] <;> rfl), by (with_reducible repeat (first | apply Kd.R_alloc | apply Kd.R_drewN | apply Kd.R_drew)); exact Kd.R_mono HO_6.out (fun _ hk => trivial), bb_ HB.out⟩
/-! ### spec_l03Pitch: function 86 -/
def spec_l03Pitch.f (a0 : Int) : Option (Bool) := (spec_l00In.f a0 (-12) 23).bind fun t148 => (some t148)
set_option maxHeartbeats 8000000 in
set_option maxRecDepth 100000 in
theorem spec_l03Pitch.calls (a0 : Int) (r : Bool) (w : World) (h : spec_l03Pitch.f a0 = some r) :
  Calls Try.prog 86 #[.int .i64 a0] w fun e w' => e = .returned (.bool r) ∧ Drawn0 w w' := by
 have H : ((spec_l00In.f a0 (-12) 23).bind fun t148 => (some t148)) = some r := h
 clear h
 replace H := Option.bind_eq_some_iff.mp H
 obtain ⟨t148, A20, H⟩ := H
 replace H : (some t148) = some r := H
 have A2 := Aside0.mk A20
 clear A20
 obtain rfl := Option.some.inj H
 go_enter Try.func86, Try.ntmps86
 go_wp2_with (first | ((with_reducible refine gate_callee (f := 58) rfl ?_); refine goesL_ (some 4) rfl rfl Try.func58 (by kernel_rfl) rfl #[.int .i64 a0, .int .i64 (-12), .int .i64 23] rfl av_ ?_; (with_reducible refine (spec_l00In.calls a0 (-12) 23 t148 _ A2.out).mono ?_); rintro e w' ⟨rfl, ⟨nd, rfl⟩⟩; refine ⟨_, rfl, ?_⟩))
 go_ret
 exact ⟨sv_, dr_⟩
/-! ### spec_l14Permuted: function 102 -/
def spec_l14Permuted.l0 : Nat → List Int → Int → Option (Bool)
 | 0, _, _ => none
 | k + 1, x0, x3 => if x3 < (x0.length : Int) then (if 0 ≤ x3 then ((spec_l03Pitch.f (rd x0 x3)).bind fun t731 => (if t731 = true then (if x3 ≤ (x0.length : Int) then ((spec_l00Has.f k (x0.take (x3 : Int).toNat) (rd x0 x3)).bind fun t734 => (if t734 = true then (some false) else (spec_l14Permuted.l0 k x0 (wrap64 (x3 + 1))))) else (none)) else (some false))) else (none)) else (if (x0.length : Int) ≥ 1 then (some (decide ((x0.length : Int) ≤ 8))) else (some false))
def spec_l14Permuted.f (k : Nat) (l0 : List Int) : Option (Bool) := spec_l14Permuted.l0 k l0 0
theorem spec_l14Permuted.mono_l : ∀ k, (∀ y0 y1, LeO (spec_l14Permuted.l0 k y0 y1) (spec_l14Permuted.l0 (k + 1) y0 y1))
 | 0 => fun _ _ r h => by simp [spec_l14Permuted.l0] at h
 | k + 1 => by
  have ih0 := spec_l14Permuted.mono_l k
  ·intro y0 y1
   unfold spec_l14Permuted.l0
   repeat' first
   | (with_reducible exact ih0 _ _)
   | (with_reducible exact spec_l00Has.mono _ _ _)
   | (with_reducible exact LeO.refl _)
   | (with_reducible exact LeO.none _)
   | (with_reducible refine LeO.ite ?_ ?_)
   | (with_reducible refine LeO.bind ?_ (fun _ => ?_))
   | exact ih0 _ _
   | exact spec_l00Has.mono _ _ _
   | exact LeO.none _
   | refine LeO.ite ?_ ?_
   | refine LeO.bind ?_ (fun _ => ?_)
theorem spec_l14Permuted.mono : ∀ a0 k, LeO (spec_l14Permuted.f k a0) (spec_l14Permuted.f (k + 1) a0) := by
 intro a0 k
 have ih0 := spec_l14Permuted.mono_l k
 unfold spec_l14Permuted.f
 repeat' first
   | (with_reducible exact ih0 _ _)
   | (with_reducible exact spec_l00Has.mono _ _ _)
   | (with_reducible exact LeO.refl _)
   | (with_reducible exact LeO.none _)
   | (with_reducible refine LeO.ite ?_ ?_)
   | (with_reducible refine LeO.bind ?_ (fun _ => ?_))
   | exact ih0 _ _
   | exact spec_l00Has.mono _ _ _
   | exact LeO.none _
   | refine LeO.ite ?_ ?_
   | refine LeO.bind ?_ (fun _ => ?_)
set_option maxHeartbeats 8000000 in
set_option maxRecDepth 100000 in
theorem spec_l14Permuted.calls (k : Nat) (A0 : Option Addr) (c0 : Nat) (l0 : List Int) (r : Bool) (w : World) (hr0 : Kd.C (Kd.int .i64) w A0 l0.length l0) (hc0 : l0.length ≤ c0) (h : spec_l14Permuted.f k l0 = some r) :
  Calls Try.prog 102 #[.slice A0 l0.length c0] w fun e w' => e = .returned (.bool r) ∧ Drawn0 w w' := by
 have HR0 := Aside0.mk hr0
 have HC0 := Aside0.mk hc0
 clear hr0 hc0
 have H : (spec_l14Permuted.l0 k l0 0) = some r := h
 clear h
 have H' := Aside0.mk H
 clear H
 go_enter Try.func102, Try.ntmps102
 go_wp2
 repeat (go_quiet (fail); try go_wp2)
 go_loopg [3] k (fun kq v3 w' => ∃ (x3_1 : Int), v3 = .int .i64 x3_1 ∧ Aside0 (spec_l14Permuted.l0 kq l0 x3_1 = some r) ∧ Aside0 (kq ≤ k) ∧ Drawn0 w w')
 case atStart => exact ⟨(0), sv_, H', ⟨Nat.le_refl _⟩, dr_⟩
 case round =>
  clear H'
  try clear c1
  obtain ⟨x3_1, rfl, HA, HK1, ⟨m1, rfl⟩⟩ := hrel
  cases gk with
  | zero => exact absurd HA.out (by simp [spec_l14Permuted.l0])
  | succ k1 =>
   have H := HA.out
   clear HA
   simp only [spec_l14Permuted.l0] at H
   by_cases c2 : x3_1 < (l0.length : Int)
   ·rw [if_pos c2] at H
    have c2b0 : decide (x3_1 < (l0.length : Int)) = true := decide_eq_true c2
    clear c2
    by_cases c3 : 0 ≤ x3_1
    ·rw [if_pos c3] at H
     have c3b0 : decide (0 ≤ x3_1) = true := decide_eq_true c3
     clear c3
     replace H := Option.bind_eq_some_iff.mp H
     obtain ⟨t731, A40, H⟩ := H
     replace H : (if t731 = true then (if x3_1 ≤ (l0.length : Int) then ((spec_l00Has.f k1 (l0.take (x3_1 : Int).toNat) (rd l0 x3_1)).bind fun t734 => (if t734 = true then (some false) else (spec_l14Permuted.l0 k1 l0 (wrap64 (x3_1 + 1))))) else (none)) else (some false)) = some r := H
     have A4 := Aside0.mk A40
     clear A40
     by_cases c5 : t731 = true
     ·subst c5
      have H1 : (if x3_1 ≤ (l0.length : Int) then ((spec_l00Has.f k1 (l0.take (x3_1 : Int).toNat) (rd l0 x3_1)).bind fun t734 => (if t734 = true then (some false) else (spec_l14Permuted.l0 k1 l0 (wrap64 (x3_1 + 1))))) else (none)) = some r := by rw [if_pos rfl] at H; exact H
      clear H
      have H := H1
      clear H1
      have c6b0 := eq_true (da_ : 0 ≤ x3_1)
      by_cases c7 : x3_1 ≤ (l0.length : Int)
      ·rw [if_pos c7] at H
       have c7b0 := eq_true c7
       have c7b1 : decide (x3_1 ≤ (l0.length : Int)) = true := decide_eq_true c7
       clear c7
       replace H := Option.bind_eq_some_iff.mp H
       obtain ⟨t734, A80, H⟩ := H
       replace H : (if t734 = true then (some false) else (spec_l14Permuted.l0 k1 l0 (wrap64 (x3_1 + 1)))) = some r := H
       have A8 := Aside0.mk A80
       clear A80
       by_cases c9 : t734 = true
       ·subst c9
        have H1 : (some false) = some r := by rw [if_pos rfl] at H; exact H
        clear H
        have H := H1
        clear H1
        obtain rfl := Option.some.inj H
        have p730 : 0 ≤ (x3_1 : Int) := da_
        have q730 : x3_1 < (l0.length : Int) := da_
        obtain ⟨ad730, e730, hx730_0⟩ := Kd.at_int HR0.out x3_1 p730 q730
        cases e730
        replace p730 := eq_true p730
        replace q730 := eq_true q730
        go_wp2_with (first | (go_at_call 86; (with_reducible refine (spec_l03Pitch.calls (rd l0 x3_1) true _ A4.out).mono ?_); rintro e w' ⟨rfl, ⟨nd, rfl⟩⟩; (try first | exact ⟨rfl, _, dN1⟩ | exact ⟨rfl, _, dN2⟩); obtain ⟨i010, hi010, _, hsz10, _⟩ := info_parts info2; obtain ⟨hcut10, hA10, hC10⟩ := print_take_of (P := Try.prog) (Value.int .i64) 0 22 2 .i64 Try.underlying22 hi010 hsz10 (some ad730) c0 l0 x3_1 (da_) (da_) HC0.out; have HR732 := Aside0.mk (Kd.C_of_reads (h1 := fun _ => rfl) (hA10 _ (Kd.reads_of_C HR0.out))); have HC732 := Aside0.mk hC10; clear hA10 hC10 hi010 hsz10; have p733 : 0 ≤ (x3_1 : Int) := da_; have q733 : x3_1 < (l0.length : Int) := da_; obtain ⟨ad733, e733, hx733_0⟩ := Kd.at_int HR0.out x3_1 p733 q733; obtain rfl : ad730 = ad733 := (by injection e733); replace p733 := eq_true p733; replace q733 := eq_true q733) | (go_at_call 110; refine calls_of_args (args' := #[.slice (some ad730) (l0.take (x3_1 : Int).toNat).length c0, .int .i64 (rd l0 x3_1)]) (by first | rfl | (rw [show (l0.take (x3_1 : Int).toNat).length = x3_1.toNat from (by rw [List.length_take]; have h_ : (x3_1 : Int) ≤ (l0.length : Int) := da_; omega)] <;> rfl) | rfl) ?_; (with_reducible refine (spec_l00Has.calls k1 _ _ (l0.take (x3_1 : Int).toNat) (rd l0 x3_1) true _ ?side1 ?side2 A8.out).mono ?_); (case side1 => exact cr_ HR732.out); (case side2 => exact HC732.out); rintro e w' ⟨rfl, ⟨nd, rfl⟩⟩; (try first | exact ⟨rfl, _, dN1⟩ | exact ⟨rfl, _, dN2⟩)))
        repeat (go_quiet (first | (go_at_call 86; (with_reducible refine (spec_l03Pitch.calls (rd l0 x3_1) true _ A4.out).mono ?_); rintro e w' ⟨rfl, ⟨nd, rfl⟩⟩; (try first | exact ⟨rfl, _, dN1⟩ | exact ⟨rfl, _, dN2⟩); obtain ⟨i010, hi010, _, hsz10, _⟩ := info_parts info2; obtain ⟨hcut10, hA10, hC10⟩ := print_take_of (P := Try.prog) (Value.int .i64) 0 22 2 .i64 Try.underlying22 hi010 hsz10 (some ad730) c0 l0 x3_1 (da_) (da_) HC0.out; have HR732 := Aside0.mk (Kd.C_of_reads (h1 := fun _ => rfl) (hA10 _ (Kd.reads_of_C HR0.out))); have HC732 := Aside0.mk hC10; clear hA10 hC10 hi010 hsz10; have p733 : 0 ≤ (x3_1 : Int) := da_; have q733 : x3_1 < (l0.length : Int) := da_; obtain ⟨ad733, e733, hx733_0⟩ := Kd.at_int HR0.out x3_1 p733 q733; obtain rfl : ad730 = ad733 := (by injection e733); replace p733 := eq_true p733; replace q733 := eq_true q733) | (go_at_call 110; refine calls_of_args (args' := #[.slice (some ad730) (l0.take (x3_1 : Int).toNat).length c0, .int .i64 (rd l0 x3_1)]) (by first | rfl | (rw [show (l0.take (x3_1 : Int).toNat).length = x3_1.toNat from (by rw [List.length_take]; have h_ : (x3_1 : Int) ≤ (l0.length : Int) := da_; omega)] <;> rfl) | rfl) ?_; (with_reducible refine (spec_l00Has.calls k1 _ _ (l0.take (x3_1 : Int).toNat) (rd l0 x3_1) true _ ?side1 ?side2 A8.out).mono ?_); (case side1 => exact cr_ HR732.out); (case side2 => exact HC732.out); rintro e w' ⟨rfl, ⟨nd, rfl⟩⟩; (try first | exact ⟨rfl, _, dN1⟩ | exact ⟨rfl, _, dN2⟩))); try go_wp2_with (first | (go_at_call 86; (with_reducible refine (spec_l03Pitch.calls (rd l0 x3_1) true _ A4.out).mono ?_); rintro e w' ⟨rfl, ⟨nd, rfl⟩⟩; (try first | exact ⟨rfl, _, dN1⟩ | exact ⟨rfl, _, dN2⟩); obtain ⟨i010, hi010, _, hsz10, _⟩ := info_parts info2; obtain ⟨hcut10, hA10, hC10⟩ := print_take_of (P := Try.prog) (Value.int .i64) 0 22 2 .i64 Try.underlying22 hi010 hsz10 (some ad730) c0 l0 x3_1 (da_) (da_) HC0.out; have HR732 := Aside0.mk (Kd.C_of_reads (h1 := fun _ => rfl) (hA10 _ (Kd.reads_of_C HR0.out))); have HC732 := Aside0.mk hC10; clear hA10 hC10 hi010 hsz10; have p733 : 0 ≤ (x3_1 : Int) := da_; have q733 : x3_1 < (l0.length : Int) := da_; obtain ⟨ad733, e733, hx733_0⟩ := Kd.at_int HR0.out x3_1 p733 q733; obtain rfl : ad730 = ad733 := (by injection e733); replace p733 := eq_true p733; replace q733 := eq_true q733) | (go_at_call 110; refine calls_of_args (args' := #[.slice (some ad730) (l0.take (x3_1 : Int).toNat).length c0, .int .i64 (rd l0 x3_1)]) (by first | rfl | (rw [show (l0.take (x3_1 : Int).toNat).length = x3_1.toNat from (by rw [List.length_take]; have h_ : (x3_1 : Int) ≤ (l0.length : Int) := da_; omega)] <;> rfl) | rfl) ?_; (with_reducible refine (spec_l00Has.calls k1 _ _ (l0.take (x3_1 : Int).toNat) (rd l0 x3_1) true _ ?side1 ?side2 A8.out).mono ?_); (case side1 => exact cr_ HR732.out); (case side2 => exact HC732.out); rintro e w' ⟨rfl, ⟨nd, rfl⟩⟩; (try first | exact ⟨rfl, _, dN1⟩ | exact ⟨rfl, _, dN2⟩))))
        go_ret
        exact ⟨sv_, dr_⟩
       ·replace c9 := Bool.eq_false_iff.mpr c9
        subst c9
        have H1 : (spec_l14Permuted.l0 k1 l0 (wrap64 (x3_1 + 1))) = some r := by rw [if_neg (show ¬ (false = true) by decide)] at H; exact H
        clear H
        have H := H1
        clear H1
        have H' := Aside0.mk H
        clear H
        have p730 : 0 ≤ (x3_1 : Int) := da_
        have q730 : x3_1 < (l0.length : Int) := da_
        obtain ⟨ad730, e730, hx730_0⟩ := Kd.at_int HR0.out x3_1 p730 q730
        cases e730
        replace p730 := eq_true p730
        replace q730 := eq_true q730
        go_wp2_with (first | (go_at_call 86; (with_reducible refine (spec_l03Pitch.calls (rd l0 x3_1) true _ A4.out).mono ?_); rintro e w' ⟨rfl, ⟨nd, rfl⟩⟩; (try first | exact ⟨rfl, _, dN1⟩ | exact ⟨rfl, _, dN2⟩); obtain ⟨i011, hi011, _, hsz11, _⟩ := info_parts info2; obtain ⟨hcut11, hA11, hC11⟩ := print_take_of (P := Try.prog) (Value.int .i64) 0 22 2 .i64 Try.underlying22 hi011 hsz11 (some ad730) c0 l0 x3_1 (da_) (da_) HC0.out; have HR732 := Aside0.mk (Kd.C_of_reads (h1 := fun _ => rfl) (hA11 _ (Kd.reads_of_C HR0.out))); have HC732 := Aside0.mk hC11; clear hA11 hC11 hi011 hsz11; have p733 : 0 ≤ (x3_1 : Int) := da_; have q733 : x3_1 < (l0.length : Int) := da_; obtain ⟨ad733, e733, hx733_0⟩ := Kd.at_int HR0.out x3_1 p733 q733; obtain rfl : ad730 = ad733 := (by injection e733); replace p733 := eq_true p733; replace q733 := eq_true q733) | (go_at_call 110; refine calls_of_args (args' := #[.slice (some ad730) (l0.take (x3_1 : Int).toNat).length c0, .int .i64 (rd l0 x3_1)]) (by first | rfl | (rw [show (l0.take (x3_1 : Int).toNat).length = x3_1.toNat from (by rw [List.length_take]; have h_ : (x3_1 : Int) ≤ (l0.length : Int) := da_; omega)] <;> rfl) | rfl) ?_; (with_reducible refine (spec_l00Has.calls k1 _ _ (l0.take (x3_1 : Int).toNat) (rd l0 x3_1) false _ ?side1 ?side2 A8.out).mono ?_); (case side1 => exact cr_ HR732.out); (case side2 => exact HC732.out); rintro e w' ⟨rfl, ⟨nd, rfl⟩⟩; (try first | exact ⟨rfl, _, dN1⟩ | exact ⟨rfl, _, dN2⟩)))
        repeat (go_quiet (first | (go_at_call 86; (with_reducible refine (spec_l03Pitch.calls (rd l0 x3_1) true _ A4.out).mono ?_); rintro e w' ⟨rfl, ⟨nd, rfl⟩⟩; (try first | exact ⟨rfl, _, dN1⟩ | exact ⟨rfl, _, dN2⟩); obtain ⟨i011, hi011, _, hsz11, _⟩ := info_parts info2; obtain ⟨hcut11, hA11, hC11⟩ := print_take_of (P := Try.prog) (Value.int .i64) 0 22 2 .i64 Try.underlying22 hi011 hsz11 (some ad730) c0 l0 x3_1 (da_) (da_) HC0.out; have HR732 := Aside0.mk (Kd.C_of_reads (h1 := fun _ => rfl) (hA11 _ (Kd.reads_of_C HR0.out))); have HC732 := Aside0.mk hC11; clear hA11 hC11 hi011 hsz11; have p733 : 0 ≤ (x3_1 : Int) := da_; have q733 : x3_1 < (l0.length : Int) := da_; obtain ⟨ad733, e733, hx733_0⟩ := Kd.at_int HR0.out x3_1 p733 q733; obtain rfl : ad730 = ad733 := (by injection e733); replace p733 := eq_true p733; replace q733 := eq_true q733) | (go_at_call 110; refine calls_of_args (args' := #[.slice (some ad730) (l0.take (x3_1 : Int).toNat).length c0, .int .i64 (rd l0 x3_1)]) (by first | rfl | (rw [show (l0.take (x3_1 : Int).toNat).length = x3_1.toNat from (by rw [List.length_take]; have h_ : (x3_1 : Int) ≤ (l0.length : Int) := da_; omega)] <;> rfl) | rfl) ?_; (with_reducible refine (spec_l00Has.calls k1 _ _ (l0.take (x3_1 : Int).toNat) (rd l0 x3_1) false _ ?side1 ?side2 A8.out).mono ?_); (case side1 => exact cr_ HR732.out); (case side2 => exact HC732.out); rintro e w' ⟨rfl, ⟨nd, rfl⟩⟩; (try first | exact ⟨rfl, _, dN1⟩ | exact ⟨rfl, _, dN2⟩))); try go_wp2_with (first | (go_at_call 86; (with_reducible refine (spec_l03Pitch.calls (rd l0 x3_1) true _ A4.out).mono ?_); rintro e w' ⟨rfl, ⟨nd, rfl⟩⟩; (try first | exact ⟨rfl, _, dN1⟩ | exact ⟨rfl, _, dN2⟩); obtain ⟨i011, hi011, _, hsz11, _⟩ := info_parts info2; obtain ⟨hcut11, hA11, hC11⟩ := print_take_of (P := Try.prog) (Value.int .i64) 0 22 2 .i64 Try.underlying22 hi011 hsz11 (some ad730) c0 l0 x3_1 (da_) (da_) HC0.out; have HR732 := Aside0.mk (Kd.C_of_reads (h1 := fun _ => rfl) (hA11 _ (Kd.reads_of_C HR0.out))); have HC732 := Aside0.mk hC11; clear hA11 hC11 hi011 hsz11; have p733 : 0 ≤ (x3_1 : Int) := da_; have q733 : x3_1 < (l0.length : Int) := da_; obtain ⟨ad733, e733, hx733_0⟩ := Kd.at_int HR0.out x3_1 p733 q733; obtain rfl : ad730 = ad733 := (by injection e733); replace p733 := eq_true p733; replace q733 := eq_true q733) | (go_at_call 110; refine calls_of_args (args' := #[.slice (some ad730) (l0.take (x3_1 : Int).toNat).length c0, .int .i64 (rd l0 x3_1)]) (by first | rfl | (rw [show (l0.take (x3_1 : Int).toNat).length = x3_1.toNat from (by rw [List.length_take]; have h_ : (x3_1 : Int) ≤ (l0.length : Int) := da_; omega)] <;> rfl) | rfl) ?_; (with_reducible refine (spec_l00Has.calls k1 _ _ (l0.take (x3_1 : Int).toNat) (rd l0 x3_1) false _ ?side1 ?side2 A8.out).mono ?_); (case side1 => exact cr_ HR732.out); (case side2 => exact HC732.out); rintro e w' ⟨rfl, ⟨nd, rfl⟩⟩; (try first | exact ⟨rfl, _, dN1⟩ | exact ⟨rfl, _, dN2⟩))))
        go_roundg k1
        case measure => have := HK1.out; omega
        case rel => exact ⟨(wrap64 (x3_1 + 1)), sv_, H', ⟨by have := HK1.out; omega⟩, dr_⟩
      ·rw [if_neg c7] at H
       exact absurd H (by simp)
     ·replace c5 := Bool.eq_false_iff.mpr c5
      subst c5
      have H1 : (some false) = some r := by rw [if_neg (show ¬ (false = true) by decide)] at H; exact H
      clear H
      have H := H1
      clear H1
      obtain rfl := Option.some.inj H
      have p730 : 0 ≤ (x3_1 : Int) := da_
      have q730 : x3_1 < (l0.length : Int) := da_
      obtain ⟨ad730, e730, hx730_0⟩ := Kd.at_int HR0.out x3_1 p730 q730
      cases e730
      replace p730 := eq_true p730
      replace q730 := eq_true q730
      go_wp2_with (first | (go_at_call 86; (with_reducible refine (spec_l03Pitch.calls (rd l0 x3_1) false _ A4.out).mono ?_); rintro e w' ⟨rfl, ⟨nd, rfl⟩⟩; (try first | exact ⟨rfl, _, dN1⟩ | exact ⟨rfl, _, dN2⟩)))
      repeat (go_quiet (first | (go_at_call 86; (with_reducible refine (spec_l03Pitch.calls (rd l0 x3_1) false _ A4.out).mono ?_); rintro e w' ⟨rfl, ⟨nd, rfl⟩⟩; (try first | exact ⟨rfl, _, dN1⟩ | exact ⟨rfl, _, dN2⟩))); try go_wp2_with (first | (go_at_call 86; (with_reducible refine (spec_l03Pitch.calls (rd l0 x3_1) false _ A4.out).mono ?_); rintro e w' ⟨rfl, ⟨nd, rfl⟩⟩; (try first | exact ⟨rfl, _, dN1⟩ | exact ⟨rfl, _, dN2⟩))))
      go_ret
      exact ⟨sv_, dr_⟩
    ·rw [if_neg c3] at H
     exact absurd H (by simp)
   ·rw [if_neg c2] at H
    have c2b0 : decide (x3_1 < (l0.length : Int)) = false := decide_eq_false c2
    clear c2
    by_cases c12 : (l0.length : Int) ≥ 1
    ·rw [if_pos c12] at H
     have c12b0 : decide (1 ≤ (l0.length : Int)) = true := decide_eq_true c12
     have c12b1 : decide (1 ≤ l0.length) = true := decide_eq_true (by omega)
     clear c12
     obtain rfl := Option.some.inj H
     go_wp2
     repeat (go_quiet (fail); try go_wp2)
     go_ret
     exact ⟨sv_, dr_⟩
    ·rw [if_neg c12] at H
     have c12b0 : decide (1 ≤ (l0.length : Int)) = false := decide_eq_false c12
     have c12b1 : decide (1 ≤ l0.length) = false := decide_eq_false (by omega)
     clear c12
     obtain rfl := Option.some.inj H
     go_wp2
     repeat (go_quiet (fail); try go_wp2)
     go_ret
     exact ⟨sv_, dr_⟩
/-! ### spec_AllowedPermutations: function 53 -/
mutual
def spec_AllowedPermutations.j0 : Nat → List Int → Bool → ByteArray → List Int → List Int → Int → Int → List (List Int) → Option (Int × (List (List Int)) × Int)
  | 0, _, _, _, _, _, _, _, _ => none
  | k + 1, x1, x19, x791000, x791001, x791002, x791003, x791004, x791005 => if x19 = true then (some (0, ([] : List (List Int)), 1)) else (spec_AllowedPermutations.l0 k x1 0 (([] : List (List Int))) 0 x791000 x791001 x791002 x791003 x791004 x791005)
def spec_AllowedPermutations.l0 : Nat → List Int → Int → List (List Int) → Int → ByteArray → List Int → List Int → Int → Int → List (List Int) → Option (Int × (List (List Int)) × Int)
  | 0, _, _, _, _, _, _, _, _, _, _ => none
  | k + 1, x1, x7, x8, x9, x791000, x791001, x791002, x791003, x791004, x791005 => (spec_l14Factorial.f k (x1.length : Int)).bind fun t796 => (if x9 < t796 then ((spec_l14Numbered.f k x1 x9).bind fun t797 => (if 0 < (t797.length : Int) then ((spec_l03Tone.f (rd t797 0)).bind fun t801 => ((spec_l05Tone.f k x791000 x791001 x791002 x791003 x791004 x791005 t801).bind fun t802 => (spec_AllowedPermutations.l1 k x1 x7 x8 x9 t797 t802 1 x791000 x791001 x791002 x791003 x791004 x791005))) else (none))) else (some (x7, x8, 0)))
def spec_AllowedPermutations.j3 : Nat → List Int → Int → List (List Int) → Int → List Int → Bool → ByteArray → List Int → List Int → Int → Int → List (List Int) → Option (Int × (List (List Int)) × Int)
  | 0, _, _, _, _, _, _, _, _, _, _, _, _ => none
  | k + 1, x1, x7, x8, x9, x10, x11, x791000, x791001, x791002, x791003, x791004, x791005 => if x11 = true then (if (x8.length : Int) < 3 then (if x8.length < 5864062014805 then (spec_AllowedPermutations.l0 k x1 (wrap64 (x7 + 1)) (x8 ++ [x10]) (wrap64 (x9 + 1)) x791000 x791001 x791002 x791003 x791004 x791005) else (none)) else (spec_AllowedPermutations.l0 k x1 (wrap64 (x7 + 1)) x8 (wrap64 (x9 + 1)) x791000 x791001 x791002 x791003 x791004 x791005)) else (spec_AllowedPermutations.l0 k x1 x7 x8 (wrap64 (x9 + 1)) x791000 x791001 x791002 x791003 x791004 x791005)
def spec_AllowedPermutations.l1 : Nat → List Int → Int → List (List Int) → Int → List Int → Bool → Int → ByteArray → List Int → List Int → Int → Int → List (List Int) → Option (Int × (List (List Int)) × Int)
  | 0, _, _, _, _, _, _, _, _, _, _, _, _, _ => none
  | k + 1, x1, x7, x8, x9, x10, x11, x12, x791000, x791001, x791002, x791003, x791004, x791005 => if x12 < (x10.length : Int) then (if x11 = true then (if 0 ≤ (wrap64 (x12 - 1)) then (if (wrap64 (x12 - 1)) < (x10.length : Int) then (if 0 ≤ x12 then ((spec_l05Reason.f k x791000 x791001 x791002 x791003 x791004 x791005 (rd x10 (wrap64 (x12 - 1))) (rd x10 x12)).bind fun t805 => (spec_AllowedPermutations.l1 k x1 x7 x8 x9 x10 (t805 == 0) (wrap64 (x12 + 1)) x791000 x791001 x791002 x791003 x791004 x791005)) else (none)) else (none)) else (none)) else (spec_AllowedPermutations.j3 k x1 x7 x8 x9 x10 x11 x791000 x791001 x791002 x791003 x791004 x791005)) else (spec_AllowedPermutations.j3 k x1 x7 x8 x9 x10 x11 x791000 x791001 x791002 x791003 x791004 x791005)
end
def spec_AllowedPermutations.f (k : Nat) (a0_0 : ByteArray) (l0_1 : List Int) (l0_2 : List Int) (a0_3 : Int) (a0_4 : Int) (l0_5 : List (List Int)) (l1 : List Int) : Option (Int × (List (List Int)) × Int) := (spec_l05Ok.f k a0_0 l0_1 l0_2 a0_3 a0_4 l0_5).bind fun t791 => (if t791 = true then ((spec_l14Permuted.f k l1).bind fun t792 => (spec_AllowedPermutations.j0 k l1 (!t792) a0_0 l0_1 l0_2 a0_3 a0_4 l0_5)) else (spec_AllowedPermutations.j0 k l1 true a0_0 l0_1 l0_2 a0_3 a0_4 l0_5))
theorem spec_AllowedPermutations.mono_l : ∀ k, (∀ y0 y1 y2 y3 y4 y5 y6 y7, LeO (spec_AllowedPermutations.j0 k y0 y1 y2 y3 y4 y5 y6 y7) (spec_AllowedPermutations.j0 (k + 1) y0 y1 y2 y3 y4 y5 y6 y7)) ∧ (∀ y0 y1 y2 y3 y4 y5 y6 y7 y8 y9, LeO (spec_AllowedPermutations.l0 k y0 y1 y2 y3 y4 y5 y6 y7 y8 y9) (spec_AllowedPermutations.l0 (k + 1) y0 y1 y2 y3 y4 y5 y6 y7 y8 y9)) ∧ (∀ y0 y1 y2 y3 y4 y5 y6 y7 y8 y9 y10 y11, LeO (spec_AllowedPermutations.j3 k y0 y1 y2 y3 y4 y5 y6 y7 y8 y9 y10 y11) (spec_AllowedPermutations.j3 (k + 1) y0 y1 y2 y3 y4 y5 y6 y7 y8 y9 y10 y11)) ∧ (∀ y0 y1 y2 y3 y4 y5 y6 y7 y8 y9 y10 y11 y12, LeO (spec_AllowedPermutations.l1 k y0 y1 y2 y3 y4 y5 y6 y7 y8 y9 y10 y11 y12) (spec_AllowedPermutations.l1 (k + 1) y0 y1 y2 y3 y4 y5 y6 y7 y8 y9 y10 y11 y12))
  | 0 => ⟨fun _ _ _ _ _ _ _ _ r h => by simp [spec_AllowedPermutations.j0] at h, fun _ _ _ _ _ _ _ _ _ _ r h => by simp [spec_AllowedPermutations.l0] at h, fun _ _ _ _ _ _ _ _ _ _ _ _ r h => by simp [spec_AllowedPermutations.j3] at h, fun _ _ _ _ _ _ _ _ _ _ _ _ _ r h => by simp [spec_AllowedPermutations.l1] at h⟩
  | k + 1 => by
    obtain ⟨ih0, ih1, ih2, ih3⟩ := spec_AllowedPermutations.mono_l k
    refine ⟨?_, ?_, ?_, ?_⟩
    · intro y0 y1 y2 y3 y4 y5 y6 y7
      unfold spec_AllowedPermutations.j0
      repeat' first
      | (with_reducible exact ih0 _ _ _ _ _ _ _ _)
      | (with_reducible exact ih1 _ _ _ _ _ _ _ _ _ _)
      | (with_reducible exact ih2 _ _ _ _ _ _ _ _ _ _ _ _)
      | (with_reducible exact ih3 _ _ _ _ _ _ _ _ _ _ _ _ _)
      | (with_reducible exact spec_l05Ok.mono _ _ _ _ _ _ _)
      | (with_reducible exact spec_l05Reason.mono _ _ _ _ _ _ _ _ _)
      | (with_reducible exact spec_l05Tone.mono _ _ _ _ _ _ _ _)
      | (with_reducible exact spec_l14Factorial.mono _ _)
      | (with_reducible exact spec_l14Numbered.mono _ _ _)
      | (with_reducible exact spec_l14Permuted.mono _ _)
      | (with_reducible exact LeO.refl _)
      | (with_reducible exact LeO.none _)
      | (with_reducible refine LeO.ite ?_ ?_)
      | (with_reducible refine LeO.bind ?_ (fun _ => ?_))
      | exact ih0 _ _ _ _ _ _ _ _
      | exact ih1 _ _ _ _ _ _ _ _ _ _
      | exact ih2 _ _ _ _ _ _ _ _ _ _ _ _
      | exact ih3 _ _ _ _ _ _ _ _ _ _ _ _ _
      | exact spec_l05Ok.mono _ _ _ _ _ _ _
      | exact spec_l05Reason.mono _ _ _ _ _ _ _ _ _
      | exact spec_l05Tone.mono _ _ _ _ _ _ _ _
      | exact spec_l14Factorial.mono _ _
      | exact spec_l14Numbered.mono _ _ _
      | exact spec_l14Permuted.mono _ _
      | exact LeO.none _
      | refine LeO.ite ?_ ?_
      | refine LeO.bind ?_ (fun _ => ?_)
    · intro y0 y1 y2 y3 y4 y5 y6 y7 y8 y9
      unfold spec_AllowedPermutations.l0
      repeat' first
      | (with_reducible exact ih0 _ _ _ _ _ _ _ _)
      | (with_reducible exact ih1 _ _ _ _ _ _ _ _ _ _)
      | (with_reducible exact ih2 _ _ _ _ _ _ _ _ _ _ _ _)
      | (with_reducible exact ih3 _ _ _ _ _ _ _ _ _ _ _ _ _)
      | (with_reducible exact spec_l05Ok.mono _ _ _ _ _ _ _)
      | (with_reducible exact spec_l05Reason.mono _ _ _ _ _ _ _ _ _)
      | (with_reducible exact spec_l05Tone.mono _ _ _ _ _ _ _ _)
      | (with_reducible exact spec_l14Factorial.mono _ _)
      | (with_reducible exact spec_l14Numbered.mono _ _ _)
      | (with_reducible exact spec_l14Permuted.mono _ _)
      | (with_reducible exact LeO.refl _)
      | (with_reducible exact LeO.none _)
      | (with_reducible refine LeO.ite ?_ ?_)
      | (with_reducible refine LeO.bind ?_ (fun _ => ?_))
      | exact ih0 _ _ _ _ _ _ _ _
      | exact ih1 _ _ _ _ _ _ _ _ _ _
      | exact ih2 _ _ _ _ _ _ _ _ _ _ _ _
      | exact ih3 _ _ _ _ _ _ _ _ _ _ _ _ _
      | exact spec_l05Ok.mono _ _ _ _ _ _ _
      | exact spec_l05Reason.mono _ _ _ _ _ _ _ _ _
      | exact spec_l05Tone.mono _ _ _ _ _ _ _ _
      | exact spec_l14Factorial.mono _ _
      | exact spec_l14Numbered.mono _ _ _
      | exact spec_l14Permuted.mono _ _
      | exact LeO.none _
      | refine LeO.ite ?_ ?_
      | refine LeO.bind ?_ (fun _ => ?_)
    · intro y0 y1 y2 y3 y4 y5 y6 y7 y8 y9 y10 y11
      unfold spec_AllowedPermutations.j3
      repeat' first
      | (with_reducible exact ih0 _ _ _ _ _ _ _ _)
      | (with_reducible exact ih1 _ _ _ _ _ _ _ _ _ _)
      | (with_reducible exact ih2 _ _ _ _ _ _ _ _ _ _ _ _)
      | (with_reducible exact ih3 _ _ _ _ _ _ _ _ _ _ _ _ _)
      | (with_reducible exact spec_l05Ok.mono _ _ _ _ _ _ _)
      | (with_reducible exact spec_l05Reason.mono _ _ _ _ _ _ _ _ _)
      | (with_reducible exact spec_l05Tone.mono _ _ _ _ _ _ _ _)
      | (with_reducible exact spec_l14Factorial.mono _ _)
      | (with_reducible exact spec_l14Numbered.mono _ _ _)
      | (with_reducible exact spec_l14Permuted.mono _ _)
      | (with_reducible exact LeO.refl _)
      | (with_reducible exact LeO.none _)
      | (with_reducible refine LeO.ite ?_ ?_)
      | (with_reducible refine LeO.bind ?_ (fun _ => ?_))
      | exact ih0 _ _ _ _ _ _ _ _
      | exact ih1 _ _ _ _ _ _ _ _ _ _
      | exact ih2 _ _ _ _ _ _ _ _ _ _ _ _
      | exact ih3 _ _ _ _ _ _ _ _ _ _ _ _ _
      | exact spec_l05Ok.mono _ _ _ _ _ _ _
      | exact spec_l05Reason.mono _ _ _ _ _ _ _ _ _
      | exact spec_l05Tone.mono _ _ _ _ _ _ _ _
      | exact spec_l14Factorial.mono _ _
      | exact spec_l14Numbered.mono _ _ _
      | exact spec_l14Permuted.mono _ _
      | exact LeO.none _
      | refine LeO.ite ?_ ?_
      | refine LeO.bind ?_ (fun _ => ?_)
    · intro y0 y1 y2 y3 y4 y5 y6 y7 y8 y9 y10 y11 y12
      unfold spec_AllowedPermutations.l1
      repeat' first
      | (with_reducible exact ih0 _ _ _ _ _ _ _ _)
      | (with_reducible exact ih1 _ _ _ _ _ _ _ _ _ _)
      | (with_reducible exact ih2 _ _ _ _ _ _ _ _ _ _ _ _)
      | (with_reducible exact ih3 _ _ _ _ _ _ _ _ _ _ _ _ _)
      | (with_reducible exact spec_l05Ok.mono _ _ _ _ _ _ _)
      | (with_reducible exact spec_l05Reason.mono _ _ _ _ _ _ _ _ _)
      | (with_reducible exact spec_l05Tone.mono _ _ _ _ _ _ _ _)
      | (with_reducible exact spec_l14Factorial.mono _ _)
      | (with_reducible exact spec_l14Numbered.mono _ _ _)
      | (with_reducible exact spec_l14Permuted.mono _ _)
      | (with_reducible exact LeO.refl _)
      | (with_reducible exact LeO.none _)
      | (with_reducible refine LeO.ite ?_ ?_)
      | (with_reducible refine LeO.bind ?_ (fun _ => ?_))
      | exact ih0 _ _ _ _ _ _ _ _
      | exact ih1 _ _ _ _ _ _ _ _ _ _
      | exact ih2 _ _ _ _ _ _ _ _ _ _ _ _
      | exact ih3 _ _ _ _ _ _ _ _ _ _ _ _ _
      | exact spec_l05Ok.mono _ _ _ _ _ _ _
      | exact spec_l05Reason.mono _ _ _ _ _ _ _ _ _
      | exact spec_l05Tone.mono _ _ _ _ _ _ _ _
      | exact spec_l14Factorial.mono _ _
      | exact spec_l14Numbered.mono _ _ _
      | exact spec_l14Permuted.mono _ _
      | exact LeO.none _
      | refine LeO.ite ?_ ?_
      | refine LeO.bind ?_ (fun _ => ?_)
theorem spec_AllowedPermutations.mono : ∀ a0 a1 a2 a3 a4 a5 a6 k, LeO (spec_AllowedPermutations.f k a0 a1 a2 a3 a4 a5 a6) (spec_AllowedPermutations.f (k + 1) a0 a1 a2 a3 a4 a5 a6) := by
  intro a0 a1 a2 a3 a4 a5 a6 k
  obtain ⟨ih0, ih1, ih2, ih3⟩ := spec_AllowedPermutations.mono_l k
  unfold spec_AllowedPermutations.f
  repeat' first
      | (with_reducible exact ih0 _ _ _ _ _ _ _ _)
      | (with_reducible exact ih1 _ _ _ _ _ _ _ _ _ _)
      | (with_reducible exact ih2 _ _ _ _ _ _ _ _ _ _ _ _)
      | (with_reducible exact ih3 _ _ _ _ _ _ _ _ _ _ _ _ _)
      | (with_reducible exact spec_l05Ok.mono _ _ _ _ _ _ _)
      | (with_reducible exact spec_l05Reason.mono _ _ _ _ _ _ _ _ _)
      | (with_reducible exact spec_l05Tone.mono _ _ _ _ _ _ _ _)
      | (with_reducible exact spec_l14Factorial.mono _ _)
      | (with_reducible exact spec_l14Numbered.mono _ _ _)
      | (with_reducible exact spec_l14Permuted.mono _ _)
      | (with_reducible exact LeO.refl _)
      | (with_reducible exact LeO.none _)
      | (with_reducible refine LeO.ite ?_ ?_)
      | (with_reducible refine LeO.bind ?_ (fun _ => ?_))
      | exact ih0 _ _ _ _ _ _ _ _
      | exact ih1 _ _ _ _ _ _ _ _ _ _
      | exact ih2 _ _ _ _ _ _ _ _ _ _ _ _
      | exact ih3 _ _ _ _ _ _ _ _ _ _ _ _ _
      | exact spec_l05Ok.mono _ _ _ _ _ _ _
      | exact spec_l05Reason.mono _ _ _ _ _ _ _ _ _
      | exact spec_l05Tone.mono _ _ _ _ _ _ _ _
      | exact spec_l14Factorial.mono _ _
      | exact spec_l14Numbered.mono _ _ _
      | exact spec_l14Permuted.mono _ _
      | exact LeO.none _
      | refine LeO.ite ?_ ?_
      | refine LeO.bind ?_ (fun _ => ?_)
set_option maxHeartbeats 8000000 in
set_option maxRecDepth 100000 in
theorem spec_AllowedPermutations.calls (k : Nat) (a0_0 : ByteArray) (A0_1 : Option Addr) (c0_1 : Nat) (l0_1 : List Int) (A0_2 : Option Addr) (c0_2 : Nat) (l0_2 : List Int) (a0_3 : Int) (a0_4 : Int) (A0_5 : Option Addr) (c0_5 : Nat) (l0_5 : List (List Int)) (A1 : Option Addr) (c1 : Nat) (l1 : List Int) (r1 : Int) (r2 : List (List Int)) (r3 : Int) (w : World) (hr0_1 : Kd.C (Kd.int .i64) w A0_1 l0_1.length l0_1) (hc0_1 : l0_1.length ≤ c0_1) (hr0_2 : Kd.C (Kd.int .i64) w A0_2 l0_2.length l0_2) (hc0_2 : l0_2.length ≤ c0_2) (hr0_5 : Kd.C (Kd.slice 2 (Kd.int .i64)) w A0_5 l0_5.length l0_5) (hc0_5 : l0_5.length ≤ c0_5) (hr1 : Kd.C (Kd.int .i64) w A1 l1.length l1) (hc1 : l1.length ≤ c1) (h : spec_AllowedPermutations.f k a0_0 l0_1 l0_2 a0_3 a0_4 l0_5 l1 = some (r1, r2, r3)) :
    Calls Try.prog 53 #[.agg #[.string a0_0, .slice A0_1 l0_1.length c0_1, .slice A0_2 l0_2.length c0_2, .int .i64 a0_3, .int .i64 a0_4, .slice A0_5 l0_5.length c0_5], .slice A1 l1.length c1] w fun e w' => ∃ v1_ : Value, e = .returned (.tuple #[.int .i64 r1, v1_, .int .i64 r3]) ∧ Kd.S (Kd.slice 2 (Kd.int .i64)) 22 w' w.heap.size (fun _ => True) v1_ r2 ∧ Below w.heap.size w w' := by
  have hu29 := Try.underlying29
  have HR0_1 := Aside0.mk hr0_1
  have HC0_1 := Aside0.mk hc0_1
  clear hr0_1 hc0_1
  have HR0_2 := Aside0.mk hr0_2
  have HC0_2 := Aside0.mk hc0_2
  clear hr0_2 hc0_2
  have HR0_5 := Aside0.mk hr0_5
  have HC0_5 := Aside0.mk hc0_5
  clear hr0_5 hc0_5
  have HR1 := Aside0.mk hr1
  have HC1 := Aside0.mk hc1
  clear hr1 hc1
  have HB := Aside0.mk (Below.refl w.heap.size w)
  have H : ((spec_l05Ok.f k a0_0 l0_1 l0_2 a0_3 a0_4 l0_5).bind fun t791 => (if t791 = true then ((spec_l14Permuted.f k l1).bind fun t792 => (spec_AllowedPermutations.j0 k l1 (!t792) a0_0 l0_1 l0_2 a0_3 a0_4 l0_5)) else (spec_AllowedPermutations.j0 k l1 true a0_0 l0_1 l0_2 a0_3 a0_4 l0_5))) = some (r1, r2, r3) := h
  clear h
  have HC3 := Aside0.mk H
  clear H
  go_enter Try.func53, Try.ntmps53
  go_upto_region 1 with (first | ((with_reducible refine gate_dst (N := 2) rfl ?_); refine box_event ?hg (N := 2) ?hd (cs := #[.string a0_0, .slice A0_1 l0_1.length c0_1, .slice A0_2 l0_2.length c0_2, .int .i64 a0_3, .int .i64 a0_4, .slice A0_5 l0_5.length c0_5]) (t := 29) ?hr ?_; (case hd => rfl); (case hg => rfl); (case hr => first | (go_simp; done) | (go_simp; rfl)); intro gb790 hg w4 hbox hb; have n0_ := Aside0.mk (below_step (bb_ HB.out) hb); have n1_ := Aside0.mk (hbox); have n2_ := Aside0.mk ((by rw [hg]; exact (below_size (bb_ HB.out)) : w.heap.size ≤ gb790)); have n3_ := Aside0.mk ((by rw [hg]; exact (below_size (bb_ HB.out)) : w.heap.size ≤ gb790)); clear HB; have HB := n0_; have BK790 := n1_; have GW790 := n2_; have GE790 := n3_; clear n0_ n1_ n2_ n3_; clear hb hbox hg))
  repeat (go_quiet (first | ((with_reducible refine gate_dst (N := 2) rfl ?_); refine box_event ?hg (N := 2) ?hd (cs := #[.string a0_0, .slice A0_1 l0_1.length c0_1, .slice A0_2 l0_2.length c0_2, .int .i64 a0_3, .int .i64 a0_4, .slice A0_5 l0_5.length c0_5]) (t := 29) ?hr ?_; (case hd => rfl); (case hg => rfl); (case hr => first | (go_simp; done) | (go_simp; rfl)); intro gb790 hg w4 hbox hb; have n0_ := Aside0.mk (below_step (bb_ HB.out) hb); have n1_ := Aside0.mk (hbox); have n2_ := Aside0.mk ((by rw [hg]; exact (below_size (bb_ HB.out)) : w.heap.size ≤ gb790)); have n3_ := Aside0.mk ((by rw [hg]; exact (below_size (bb_ HB.out)) : w.heap.size ≤ gb790)); clear HB; have HB := n0_; have BK790 := n1_; have GW790 := n2_; have GE790 := n3_; clear n0_ n1_ n2_ n3_; clear hb hbox hg)); go_upto_region 1 with (first | ((with_reducible refine gate_dst (N := 2) rfl ?_); refine box_event ?hg (N := 2) ?hd (cs := #[.string a0_0, .slice A0_1 l0_1.length c0_1, .slice A0_2 l0_2.length c0_2, .int .i64 a0_3, .int .i64 a0_4, .slice A0_5 l0_5.length c0_5]) (t := 29) ?hr ?_; (case hd => rfl); (case hg => rfl); (case hr => first | (go_simp; done) | (go_simp; rfl)); intro gb790 hg w4 hbox hb; have n0_ := Aside0.mk (below_step (bb_ HB.out) hb); have n1_ := Aside0.mk (hbox); have n2_ := Aside0.mk ((by rw [hg]; exact (below_size (bb_ HB.out)) : w.heap.size ≤ gb790)); have n3_ := Aside0.mk ((by rw [hg]; exact (below_size (bb_ HB.out)) : w.heap.size ≤ gb790)); clear HB; have HB := n0_; have BK790 := n1_; have GW790 := n2_; have GE790 := n3_; clear n0_ n1_ n2_ n3_; clear hb hbox hg)))
  (try simp only [Act.put, List.setIfInBounds_toArray, List.set_cons_zero, List.set_cons_succ])
  go_cut [19] (fun v19 wc => ∃ (kq : Nat) (x19_2 : Bool), v19 = .bool x19_2 ∧ Aside0 (spec_AllowedPermutations.j0 kq l1 x19_2 a0_0 l0_1 l0_2 a0_3 a0_4 l0_5 = some (r1, r2, r3)) ∧ Aside0 (kq ≤ k) ∧ Aside0 (wc.heap[gb790]? = some (.cells #[.string a0_0, (.slice A0_1 l0_1.length c0_1), (.slice A0_2 l0_2.length c0_2), .int .i64 a0_3, .int .i64 a0_4, (.slice A0_5 l0_5.length c0_5)] 29 (0, 0))) ∧ Aside0 (Below w.heap.size w wc))
  case first =>
    have H := HC3.out
    clear HC3
    replace H := Option.bind_eq_some_iff.mp H
    obtain ⟨t791, A50, H⟩ := H
    replace H : (if t791 = true then ((spec_l14Permuted.f k l1).bind fun t792 => (spec_AllowedPermutations.j0 k l1 (!t792) a0_0 l0_1 l0_2 a0_3 a0_4 l0_5)) else (spec_AllowedPermutations.j0 k l1 true a0_0 l0_1 l0_2 a0_3 a0_4 l0_5)) = some (r1, r2, r3) := H
    have A5 := Aside0.mk A50
    clear A50
    by_cases c6 : t791 = true
    · subst c6
      have H1 : ((spec_l14Permuted.f k l1).bind fun t792 => (spec_AllowedPermutations.j0 k l1 (!t792) a0_0 l0_1 l0_2 a0_3 a0_4 l0_5)) = some (r1, r2, r3) := by rw [if_pos rfl] at H; exact H
      clear H
      have H := H1
      clear H1
      replace H := Option.bind_eq_some_iff.mp H
      obtain ⟨t792, A70, H⟩ := H
      replace H : (spec_AllowedPermutations.j0 k l1 (!t792) a0_0 l0_1 l0_2 a0_3 a0_4 l0_5) = some (r1, r2, r3) := H
      have A7 := Aside0.mk A70
      clear A70
      have H' := Aside0.mk H
      clear H
      go_wp2_with (first | (go_at_call 84; (with_reducible refine (spec_l05Ok.calls k gb790 a0_0 A0_1 c0_1 l0_1 A0_2 c0_2 l0_2 a0_3 a0_4 A0_5 c0_5 l0_5 true _ ?side1 ?side2 ?side3 ?side4 ?side5 ?side6 ?side7 A5.out).mono ?_); (case side1 => exact bk_ BK790.out); (case side2 => repeat (first | exact (Kd.C_below HR0_1.out HB.out) | (with_reducible refine Kd.C_alloc ?_ _) | (with_reducible refine Kd.C_drewN ?_ _) | (with_reducible refine Kd.C_drew ?_))); (case side3 => exact HC0_1.out); (case side4 => repeat (first | exact (Kd.C_below HR0_2.out HB.out) | (with_reducible refine Kd.C_alloc ?_ _) | (with_reducible refine Kd.C_drewN ?_ _) | (with_reducible refine Kd.C_drew ?_))); (case side5 => exact HC0_2.out); (case side6 => repeat (first | exact (Kd.C_below HR0_5.out HB.out) | (with_reducible refine Kd.C_alloc ?_ _) | (with_reducible refine Kd.C_drewN ?_ _) | (with_reducible refine Kd.C_drew ?_))); (case side7 => exact HC0_5.out); rintro e w' ⟨rfl, ⟨nd, rfl⟩⟩; (try first | exact ⟨rfl, _, World.drewN_drewN _ _ _⟩ | exact ⟨rfl, _, Eq.trans (World.drewN_drewN _ _ _) (congrArg (World.drewN _) (Nat.add_assoc _ _ _))⟩)) | (go_at_call 102; (with_reducible refine (spec_l14Permuted.calls k _ _ l1 t792 _ ?side1 ?side2 A7.out).mono ?_); (case side1 => repeat (first | exact (Kd.C_below HR1.out (bg_ HB.out GE790.out)) | (with_reducible refine Kd.C_alloc ?_ _) | (with_reducible refine Kd.C_drewN ?_ _) | (with_reducible refine Kd.C_drew ?_))); (case side2 => exact HC1.out); rintro e w' ⟨rfl, ⟨nd, rfl⟩⟩; (try first | exact ⟨rfl, _, World.drewN_drewN _ _ _⟩ | exact ⟨rfl, _, Eq.trans (World.drewN_drewN _ _ _) (congrArg (World.drewN _) (Nat.add_assoc _ _ _))⟩)))
      repeat (go_quiet (first | (go_at_call 84; (with_reducible refine (spec_l05Ok.calls k gb790 a0_0 A0_1 c0_1 l0_1 A0_2 c0_2 l0_2 a0_3 a0_4 A0_5 c0_5 l0_5 true _ ?side1 ?side2 ?side3 ?side4 ?side5 ?side6 ?side7 A5.out).mono ?_); (case side1 => exact bk_ BK790.out); (case side2 => repeat (first | exact (Kd.C_below HR0_1.out HB.out) | (with_reducible refine Kd.C_alloc ?_ _) | (with_reducible refine Kd.C_drewN ?_ _) | (with_reducible refine Kd.C_drew ?_))); (case side3 => exact HC0_1.out); (case side4 => repeat (first | exact (Kd.C_below HR0_2.out HB.out) | (with_reducible refine Kd.C_alloc ?_ _) | (with_reducible refine Kd.C_drewN ?_ _) | (with_reducible refine Kd.C_drew ?_))); (case side5 => exact HC0_2.out); (case side6 => repeat (first | exact (Kd.C_below HR0_5.out HB.out) | (with_reducible refine Kd.C_alloc ?_ _) | (with_reducible refine Kd.C_drewN ?_ _) | (with_reducible refine Kd.C_drew ?_))); (case side7 => exact HC0_5.out); rintro e w' ⟨rfl, ⟨nd, rfl⟩⟩; (try first | exact ⟨rfl, _, World.drewN_drewN _ _ _⟩ | exact ⟨rfl, _, Eq.trans (World.drewN_drewN _ _ _) (congrArg (World.drewN _) (Nat.add_assoc _ _ _))⟩)) | (go_at_call 102; (with_reducible refine (spec_l14Permuted.calls k _ _ l1 t792 _ ?side1 ?side2 A7.out).mono ?_); (case side1 => repeat (first | exact (Kd.C_below HR1.out (bg_ HB.out GE790.out)) | (with_reducible refine Kd.C_alloc ?_ _) | (with_reducible refine Kd.C_drewN ?_ _) | (with_reducible refine Kd.C_drew ?_))); (case side2 => exact HC1.out); rintro e w' ⟨rfl, ⟨nd, rfl⟩⟩; (try first | exact ⟨rfl, _, World.drewN_drewN _ _ _⟩ | exact ⟨rfl, _, Eq.trans (World.drewN_drewN _ _ _) (congrArg (World.drewN _) (Nat.add_assoc _ _ _))⟩))); try go_wp2_with (first | (go_at_call 84; (with_reducible refine (spec_l05Ok.calls k gb790 a0_0 A0_1 c0_1 l0_1 A0_2 c0_2 l0_2 a0_3 a0_4 A0_5 c0_5 l0_5 true _ ?side1 ?side2 ?side3 ?side4 ?side5 ?side6 ?side7 A5.out).mono ?_); (case side1 => exact bk_ BK790.out); (case side2 => repeat (first | exact (Kd.C_below HR0_1.out HB.out) | (with_reducible refine Kd.C_alloc ?_ _) | (with_reducible refine Kd.C_drewN ?_ _) | (with_reducible refine Kd.C_drew ?_))); (case side3 => exact HC0_1.out); (case side4 => repeat (first | exact (Kd.C_below HR0_2.out HB.out) | (with_reducible refine Kd.C_alloc ?_ _) | (with_reducible refine Kd.C_drewN ?_ _) | (with_reducible refine Kd.C_drew ?_))); (case side5 => exact HC0_2.out); (case side6 => repeat (first | exact (Kd.C_below HR0_5.out HB.out) | (with_reducible refine Kd.C_alloc ?_ _) | (with_reducible refine Kd.C_drewN ?_ _) | (with_reducible refine Kd.C_drew ?_))); (case side7 => exact HC0_5.out); rintro e w' ⟨rfl, ⟨nd, rfl⟩⟩; (try first | exact ⟨rfl, _, World.drewN_drewN _ _ _⟩ | exact ⟨rfl, _, Eq.trans (World.drewN_drewN _ _ _) (congrArg (World.drewN _) (Nat.add_assoc _ _ _))⟩)) | (go_at_call 102; (with_reducible refine (spec_l14Permuted.calls k _ _ l1 t792 _ ?side1 ?side2 A7.out).mono ?_); (case side1 => repeat (first | exact (Kd.C_below HR1.out (bg_ HB.out GE790.out)) | (with_reducible refine Kd.C_alloc ?_ _) | (with_reducible refine Kd.C_drewN ?_ _) | (with_reducible refine Kd.C_drew ?_))); (case side2 => exact HC1.out); rintro e w' ⟨rfl, ⟨nd, rfl⟩⟩; (try first | exact ⟨rfl, _, World.drewN_drewN _ _ _⟩ | exact ⟨rfl, _, Eq.trans (World.drewN_drewN _ _ _) (congrArg (World.drewN _) (Nat.add_assoc _ _ _))⟩))))
      go_meet
      case rel => exact ⟨_, (!t792), sv_, H', ⟨by first | omega | exact Nat.le_refl _⟩, ⟨by (with_reducible repeat (first | refine blk_drewN ?_ _ | refine blk_drew ?_ | refine blk_alloc ?_ _)); exact BK790.out⟩, ⟨bg_ HB.out GE790.out⟩⟩
    · replace c6 := Bool.eq_false_iff.mpr c6
      subst c6
      have H1 : (spec_AllowedPermutations.j0 k l1 true a0_0 l0_1 l0_2 a0_3 a0_4 l0_5) = some (r1, r2, r3) := by rw [if_neg (show ¬ (false = true) by decide)] at H; exact H
      clear H
      have H := H1
      clear H1
      have H' := Aside0.mk H
      clear H
      go_wp2_with (first | (go_at_call 84; (with_reducible refine (spec_l05Ok.calls k gb790 a0_0 A0_1 c0_1 l0_1 A0_2 c0_2 l0_2 a0_3 a0_4 A0_5 c0_5 l0_5 false _ ?side1 ?side2 ?side3 ?side4 ?side5 ?side6 ?side7 A5.out).mono ?_); (case side1 => exact bk_ BK790.out); (case side2 => repeat (first | exact (Kd.C_below HR0_1.out HB.out) | (with_reducible refine Kd.C_alloc ?_ _) | (with_reducible refine Kd.C_drewN ?_ _) | (with_reducible refine Kd.C_drew ?_))); (case side3 => exact HC0_1.out); (case side4 => repeat (first | exact (Kd.C_below HR0_2.out HB.out) | (with_reducible refine Kd.C_alloc ?_ _) | (with_reducible refine Kd.C_drewN ?_ _) | (with_reducible refine Kd.C_drew ?_))); (case side5 => exact HC0_2.out); (case side6 => repeat (first | exact (Kd.C_below HR0_5.out HB.out) | (with_reducible refine Kd.C_alloc ?_ _) | (with_reducible refine Kd.C_drewN ?_ _) | (with_reducible refine Kd.C_drew ?_))); (case side7 => exact HC0_5.out); rintro e w' ⟨rfl, ⟨nd, rfl⟩⟩; (try first | exact ⟨rfl, _, World.drewN_drewN _ _ _⟩ | exact ⟨rfl, _, Eq.trans (World.drewN_drewN _ _ _) (congrArg (World.drewN _) (Nat.add_assoc _ _ _))⟩)))
      repeat (go_quiet (first | (go_at_call 84; (with_reducible refine (spec_l05Ok.calls k gb790 a0_0 A0_1 c0_1 l0_1 A0_2 c0_2 l0_2 a0_3 a0_4 A0_5 c0_5 l0_5 false _ ?side1 ?side2 ?side3 ?side4 ?side5 ?side6 ?side7 A5.out).mono ?_); (case side1 => exact bk_ BK790.out); (case side2 => repeat (first | exact (Kd.C_below HR0_1.out HB.out) | (with_reducible refine Kd.C_alloc ?_ _) | (with_reducible refine Kd.C_drewN ?_ _) | (with_reducible refine Kd.C_drew ?_))); (case side3 => exact HC0_1.out); (case side4 => repeat (first | exact (Kd.C_below HR0_2.out HB.out) | (with_reducible refine Kd.C_alloc ?_ _) | (with_reducible refine Kd.C_drewN ?_ _) | (with_reducible refine Kd.C_drew ?_))); (case side5 => exact HC0_2.out); (case side6 => repeat (first | exact (Kd.C_below HR0_5.out HB.out) | (with_reducible refine Kd.C_alloc ?_ _) | (with_reducible refine Kd.C_drewN ?_ _) | (with_reducible refine Kd.C_drew ?_))); (case side7 => exact HC0_5.out); rintro e w' ⟨rfl, ⟨nd, rfl⟩⟩; (try first | exact ⟨rfl, _, World.drewN_drewN _ _ _⟩ | exact ⟨rfl, _, Eq.trans (World.drewN_drewN _ _ _) (congrArg (World.drewN _) (Nat.add_assoc _ _ _))⟩))); try go_wp2_with (first | (go_at_call 84; (with_reducible refine (spec_l05Ok.calls k gb790 a0_0 A0_1 c0_1 l0_1 A0_2 c0_2 l0_2 a0_3 a0_4 A0_5 c0_5 l0_5 false _ ?side1 ?side2 ?side3 ?side4 ?side5 ?side6 ?side7 A5.out).mono ?_); (case side1 => exact bk_ BK790.out); (case side2 => repeat (first | exact (Kd.C_below HR0_1.out HB.out) | (with_reducible refine Kd.C_alloc ?_ _) | (with_reducible refine Kd.C_drewN ?_ _) | (with_reducible refine Kd.C_drew ?_))); (case side3 => exact HC0_1.out); (case side4 => repeat (first | exact (Kd.C_below HR0_2.out HB.out) | (with_reducible refine Kd.C_alloc ?_ _) | (with_reducible refine Kd.C_drewN ?_ _) | (with_reducible refine Kd.C_drew ?_))); (case side5 => exact HC0_2.out); (case side6 => repeat (first | exact (Kd.C_below HR0_5.out HB.out) | (with_reducible refine Kd.C_alloc ?_ _) | (with_reducible refine Kd.C_drewN ?_ _) | (with_reducible refine Kd.C_drew ?_))); (case side7 => exact HC0_5.out); rintro e w' ⟨rfl, ⟨nd, rfl⟩⟩; (try first | exact ⟨rfl, _, World.drewN_drewN _ _ _⟩ | exact ⟨rfl, _, Eq.trans (World.drewN_drewN _ _ _) (congrArg (World.drewN _) (Nat.add_assoc _ _ _))⟩))))
      go_meet
      case rel => exact ⟨_, (true), sv_, H', ⟨by first | omega | exact Nat.le_refl _⟩, ⟨by (with_reducible repeat (first | refine blk_drewN ?_ _ | refine blk_drew ?_ | refine blk_alloc ?_ _)); exact BK790.out⟩, ⟨bg_ HB.out GE790.out⟩⟩
  case rest =>
    clear HC3
    (try clear c1); (try clear p2); (try clear c5); (try clear c6)
    obtain ⟨kq, x19_2, rfl, HA, HJ2, BK790, HB⟩ := hcut
    cases kq with
    | zero => exact absurd HA.out (by simp [spec_AllowedPermutations.j0])
    | succ kj2 =>
      have H := HA.out
      clear HA
      simp only [spec_AllowedPermutations.j0] at H
      by_cases c8 : x19_2 = true
      · subst c8
        have H1 : (some (0, ([] : List (List Int)), 1)) = some (r1, r2, r3) := by rw [if_pos rfl] at H; exact H
        clear H
        have H := H1
        clear H1
        simp only [Option.some.injEq, Prod.mk.injEq] at H
        obtain ⟨rfl, rfl, rfl⟩ := H
        go_wp2
        repeat (go_quiet (fail); try go_wp2)
        go_ret3
        exact ⟨_, by first | rfl | (simp [errW_none, errW_some] <;> rfl) | (simp [*, errW_none, errW_some] <;> rfl), by first | exact Kd.S_nil _ _ _ _ _ | exact Kd.N_nil _ _ _ _ _ | exact Kd.V_nil _ _ _ _ _ | exact Kd.Q_nil _ _ _ _ _ | exact Kd.R_nil _ _ _ _ _, bg_ HB.out GE790.out⟩
      · replace c8 := Bool.eq_false_iff.mpr c8
        subst c8
        have H1 : (spec_AllowedPermutations.l0 kj2 l1 0 (([] : List (List Int))) 0 a0_0 l0_1 l0_2 a0_3 a0_4 l0_5) = some (r1, r2, r3) := by rw [if_neg (show ¬ (false = true) by decide)] at H; exact H
        clear H
        have H := H1
        clear H1
        obtain ⟨y793, hy793⟩ : ∃ y_ : List (List Int), y_ = (([] : List (List Int))) := ⟨_, rfl⟩
        replace H : (spec_AllowedPermutations.l0 kj2 l1 0 y793 0 a0_0 l0_1 l0_2 a0_3 a0_4 l0_5) = some (r1, r2, r3) := by first | (rw [hy793]; with_reducible exact H) | (have H2_ := (Option.bind_some _ _).symm.trans H; rw [hy793]; with_reducible exact H2_) | (have H2_ := (Option.bind_some _ _).symm.trans H; with_reducible exact H2_) | with_reducible exact H | (rw [hy793]; exact H) | exact H
        have Ny793 := Aside0.mk hy793
        clear hy793
        have H' := Aside0.mk H
        clear H
        go_wp2_with (first | ((with_reducible refine gate_dst (N := 20) rfl ?_); refine Kd.S_lit (Kd.slice 2 (Kd.int .i64)) _ 22 ?hg (N := 20) ?hd (xs := ([] : List (List Int))) (inner := []) (ok := fun _ => True) (okp := fun _ => True) ?hr ?hp (fun _ hk => hk) trivial (Below.refl _ _) (Nat.le_refl _) (by simp) ?_; (case hd => rfl); (case hg => rfl); (case hr => first | (go_simp; done) | (go_simp; rfl)); (case hp => exact (Reps.none _ _)); intro v794 w9 ho10 hb hg_ hnew_; clear hg_ hnew_; (first | rw [← Ny793.out] at ho10 | (simp only [Int.reduceToNat] at ho10; rw [← Ny793.out] at ho10)); have n0_ := Aside0.mk (Kd.S_lower ho10 (below_size (bg_ HB.out GE790.out))); have n1_ := Aside0.mk (blk_below (g := gb790) (o := .cells #[.string a0_0, .slice A0_1 l0_1.length c0_1, .slice A0_2 l0_2.length c0_2, .int .i64 a0_3, .int .i64 a0_4, .slice A0_5 l0_5.length c0_5] 29 (0, 0)) (by exact bk_ BK790.out) hb); have n2_ := Aside0.mk (below_step (bg_ HB.out GE790.out) hb); clear BK790; clear HB; have HO795 := n0_; have BK790 := n1_; have HB := n2_; clear n0_ n1_ n2_; clear hb ho10))
        repeat (go_quiet (first | ((with_reducible refine gate_dst (N := 20) rfl ?_); refine Kd.S_lit (Kd.slice 2 (Kd.int .i64)) _ 22 ?hg (N := 20) ?hd (xs := ([] : List (List Int))) (inner := []) (ok := fun _ => True) (okp := fun _ => True) ?hr ?hp (fun _ hk => hk) trivial (Below.refl _ _) (Nat.le_refl _) (by simp) ?_; (case hd => rfl); (case hg => rfl); (case hr => first | (go_simp; done) | (go_simp; rfl)); (case hp => exact (Reps.none _ _)); intro v794 w9 ho10 hb hg_ hnew_; clear hg_ hnew_; (first | rw [← Ny793.out] at ho10 | (simp only [Int.reduceToNat] at ho10; rw [← Ny793.out] at ho10)); have n0_ := Aside0.mk (Kd.S_lower ho10 (below_size (bg_ HB.out GE790.out))); have n1_ := Aside0.mk (blk_below (g := gb790) (o := .cells #[.string a0_0, .slice A0_1 l0_1.length c0_1, .slice A0_2 l0_2.length c0_2, .int .i64 a0_3, .int .i64 a0_4, .slice A0_5 l0_5.length c0_5] 29 (0, 0)) (by exact bk_ BK790.out) hb); have n2_ := Aside0.mk (below_step (bg_ HB.out GE790.out) hb); clear BK790; clear HB; have HO795 := n0_; have BK790 := n1_; have HB := n2_; clear n0_ n1_ n2_; clear hb ho10)); try go_wp2_with (first | ((with_reducible refine gate_dst (N := 20) rfl ?_); refine Kd.S_lit (Kd.slice 2 (Kd.int .i64)) _ 22 ?hg (N := 20) ?hd (xs := ([] : List (List Int))) (inner := []) (ok := fun _ => True) (okp := fun _ => True) ?hr ?hp (fun _ hk => hk) trivial (Below.refl _ _) (Nat.le_refl _) (by simp) ?_; (case hd => rfl); (case hg => rfl); (case hr => first | (go_simp; done) | (go_simp; rfl)); (case hp => exact (Reps.none _ _)); intro v794 w9 ho10 hb hg_ hnew_; clear hg_ hnew_; (first | rw [← Ny793.out] at ho10 | (simp only [Int.reduceToNat] at ho10; rw [← Ny793.out] at ho10)); have n0_ := Aside0.mk (Kd.S_lower ho10 (below_size (bg_ HB.out GE790.out))); have n1_ := Aside0.mk (blk_below (g := gb790) (o := .cells #[.string a0_0, .slice A0_1 l0_1.length c0_1, .slice A0_2 l0_2.length c0_2, .int .i64 a0_3, .int .i64 a0_4, .slice A0_5 l0_5.length c0_5] 29 (0, 0)) (by exact bk_ BK790.out) hb); have n2_ := Aside0.mk (below_step (bg_ HB.out GE790.out) hb); clear BK790; clear HB; have HO795 := n0_; have BK790 := n1_; have HB := n2_; clear n0_ n1_ n2_; clear hb ho10)))
        go_loopg [7, 8, 9] kj2 (fun kq v7 v8 v9 w' => ∃ (x7_2 : Int) (x8_2 : List (List Int)) (x9_2 : Int), v7 = .int .i64 x7_2 ∧ v9 = .int .i64 x9_2 ∧ Aside0 (spec_AllowedPermutations.l0 kq l1 x7_2 x8_2 x9_2 a0_0 l0_1 l0_2 a0_3 a0_4 l0_5 = some (r1, r2, r3)) ∧ Aside0 (kq ≤ kj2) ∧ Aside0 (Kd.S (Kd.slice 2 (Kd.int .i64)) 22 w' w.heap.size (fun _ => True) v8 x8_2) ∧ Aside0 (w'.heap[gb790]? = some (.cells #[.string a0_0, (.slice A0_1 l0_1.length c0_1), (.slice A0_2 l0_2.length c0_2), .int .i64 a0_3, .int .i64 a0_4, (.slice A0_5 l0_5.length c0_5)] 29 (0, 0))) ∧ Aside0 (Below w.heap.size w w'))
        case atStart => exact ⟨(0), (y793), (0), sv_, sv_, H', ⟨Nat.le_refl _⟩, ⟨by (with_reducible repeat (first | apply Kd.S_alloc | apply Kd.S_drewN | apply Kd.S_drew)); exact HO795.out⟩, ⟨by (with_reducible repeat (first | refine blk_drewN ?_ _ | refine blk_drew ?_ | refine blk_alloc ?_ _)); exact BK790.out⟩, ⟨bg_ HB.out GE790.out⟩⟩
        case round =>
          clear H'
          (try clear c1); (try clear p2); (try clear c5); (try clear c6); (try clear c8); (try clear p2)
          obtain ⟨x7_2, x8_2, x9_2, rfl, rfl, HA, HK2, HO_8, BK790, HB⟩ := hrel
          cases gk with
          | zero => exact absurd HA.out (by simp [spec_AllowedPermutations.l0])
          | succ k2 =>
            have H := HA.out
            clear HA
            simp only [spec_AllowedPermutations.l0] at H
            replace H := Option.bind_eq_some_iff.mp H
            obtain ⟨t796, A110, H⟩ := H
            replace H : (if x9_2 < t796 then ((spec_l14Numbered.f k2 l1 x9_2).bind fun t797 => (if 0 < (t797.length : Int) then ((spec_l03Tone.f (rd t797 0)).bind fun t801 => ((spec_l05Tone.f k2 a0_0 l0_1 l0_2 a0_3 a0_4 l0_5 t801).bind fun t802 => (spec_AllowedPermutations.l1 k2 l1 x7_2 x8_2 x9_2 t797 t802 1 a0_0 l0_1 l0_2 a0_3 a0_4 l0_5))) else (none))) else (some (x7_2, x8_2, 0))) = some (r1, r2, r3) := H
            have A11 := Aside0.mk A110
            clear A110
            by_cases c12 : x9_2 < t796
            · rw [if_pos c12] at H
              have c12b0 : decide (x9_2 < t796) = true := decide_eq_true c12
              clear c12
              replace H := Option.bind_eq_some_iff.mp H
              obtain ⟨t797, A130, H⟩ := H
              replace H : (if 0 < (t797.length : Int) then ((spec_l03Tone.f (rd t797 0)).bind fun t801 => ((spec_l05Tone.f k2 a0_0 l0_1 l0_2 a0_3 a0_4 l0_5 t801).bind fun t802 => (spec_AllowedPermutations.l1 k2 l1 x7_2 x8_2 x9_2 t797 t802 1 a0_0 l0_1 l0_2 a0_3 a0_4 l0_5))) else (none)) = some (r1, r2, r3) := H
              have A13 := Aside0.mk A130
              clear A130
              by_cases c14 : 0 < (t797.length : Int)
              · rw [if_pos c14] at H
                have c14b0 : decide (0 < (t797.length : Int)) = true := decide_eq_true c14
                have c14b1 : decide (0 < t797.length) = true := decide_eq_true (by omega)
                clear c14
                replace H := Option.bind_eq_some_iff.mp H
                obtain ⟨t801, A150, H⟩ := H
                replace H : ((spec_l05Tone.f k2 a0_0 l0_1 l0_2 a0_3 a0_4 l0_5 t801).bind fun t802 => (spec_AllowedPermutations.l1 k2 l1 x7_2 x8_2 x9_2 t797 t802 1 a0_0 l0_1 l0_2 a0_3 a0_4 l0_5)) = some (r1, r2, r3) := H
                have A15 := Aside0.mk A150
                clear A150
                replace H := Option.bind_eq_some_iff.mp H
                obtain ⟨t802, A160, H⟩ := H
                replace H : (spec_AllowedPermutations.l1 k2 l1 x7_2 x8_2 x9_2 t797 t802 1 a0_0 l0_1 l0_2 a0_3 a0_4 l0_5) = some (r1, r2, r3) := H
                have A16 := Aside0.mk A160
                clear A160
                have HC17 := Aside0.mk H
                clear H
                go_upto_block 2 with (first | (go_at_call 103; (with_reducible refine (spec_l14Factorial.calls k2 (l1.length : Int) t796 _ A11.out).mono ?_); rintro e w' ⟨rfl, ⟨nd, rfl⟩⟩; (try first | exact ⟨rfl, _, World.drewN_drewN _ _ _⟩ | exact ⟨rfl, _, Eq.trans (World.drewN_drewN _ _ _) (congrArg (World.drewN _) (Nat.add_assoc _ _ _))⟩)) | (go_at_call 104; (with_reducible refine (spec_l14Numbered.calls k2 _ _ l1 x9_2 t797 _ ?side1 ?side2 A13.out).mono ?_); (case side1 => repeat (first | exact (Kd.C_below HR1.out (bg_ HB.out GE790.out)) | (with_reducible refine Kd.C_alloc ?_ _) | (with_reducible refine Kd.C_drewN ?_ _) | (with_reducible refine Kd.C_drew ?_))); (case side2 => exact HC1.out); rintro e w18 ⟨v798, rfl, ho0, hb⟩; have n0_ := Aside0.mk (Kd.S_elder' (by (with_reducible repeat (first | apply Kd.S_alloc | apply Kd.S_drewN | apply Kd.S_drew)); exact HO_8.out) (Kd.R_base ho0) hb); have n1_ := Aside0.mk (Kd.R_lower ho0 (below_size (bg_ HB.out GE790.out))); have n2_ := Aside0.mk (blk_below (g := gb790) (o := .cells #[.string a0_0, .slice A0_1 l0_1.length c0_1, .slice A0_2 l0_2.length c0_2, .int .i64 a0_3, .int .i64 a0_4, .slice A0_5 l0_5.length c0_5] 29 (0, 0)) (by exact bk_ BK790.out) hb); have n3_ := Aside0.mk (below_step (bg_ HB.out GE790.out) hb); clear HO_8; clear BK790; clear HB; have HO_8 := n0_; have HO799 := n1_; have BK790 := n2_; have HB := n3_; clear n0_ n1_ n2_ n3_; (try clear hb); (try clear hb2); (try clear hk); (try clear hi); (try clear ho0); obtain ⟨Ao19, co19, eo19⟩ := Kd.R_slice HO799.out; subst eo19; have p800 : 0 ≤ (0 : Int) := (by omega); have q800 : 0 < (t797.length : Int) := of_decide_eq_true (by first | (with_reducible assumption) | assumption); obtain ⟨ad800, e800, hx800_0⟩ := Kd.at_int (Kd.R_reads' HO799.out).2.2 0 p800 q800; cases e800; have qi800 : (0 < t797.length) = True := eq_true (by omega); (try rw [show ((0 : Int)).toNat = 0 from rfl] at hx800_0); (try rw [Addr.add_zero'] at hx800_0); replace p800 := eq_true p800; replace q800 := eq_true q800) | (go_at_call 60; (with_reducible refine (spec_l03Tone.calls (rd t797 0) t801 _ A15.out).mono ?_); rintro e w' ⟨rfl, ⟨nd, rfl⟩⟩; (try first | exact ⟨rfl, _, World.drewN_drewN _ _ _⟩ | exact ⟨rfl, _, Eq.trans (World.drewN_drewN _ _ _) (congrArg (World.drewN _) (Nat.add_assoc _ _ _))⟩)) | (go_at_call 59; (with_reducible refine (spec_l05Tone.calls k2 gb790 a0_0 A0_1 c0_1 l0_1 A0_2 c0_2 l0_2 a0_3 a0_4 A0_5 c0_5 l0_5 t801 t802 _ ?side1 ?side2 ?side3 ?side4 ?side5 ?side6 ?side7 A16.out).mono ?_); (case side1 => exact bk_ BK790.out); (case side2 => repeat (first | exact (Kd.C_below HR0_1.out (bg_ HB.out GE790.out)) | (with_reducible refine Kd.C_alloc ?_ _) | (with_reducible refine Kd.C_drewN ?_ _) | (with_reducible refine Kd.C_drew ?_))); (case side3 => exact HC0_1.out); (case side4 => repeat (first | exact (Kd.C_below HR0_2.out (bg_ HB.out GE790.out)) | (with_reducible refine Kd.C_alloc ?_ _) | (with_reducible refine Kd.C_drewN ?_ _) | (with_reducible refine Kd.C_drew ?_))); (case side5 => exact HC0_2.out); (case side6 => repeat (first | exact (Kd.C_below HR0_5.out (bg_ HB.out GE790.out)) | (with_reducible refine Kd.C_alloc ?_ _) | (with_reducible refine Kd.C_drewN ?_ _) | (with_reducible refine Kd.C_drew ?_))); (case side7 => exact HC0_5.out); rintro e w' ⟨rfl, ⟨nd, rfl⟩⟩; (try first | exact ⟨rfl, _, World.drewN_drewN _ _ _⟩ | exact ⟨rfl, _, Eq.trans (World.drewN_drewN _ _ _) (congrArg (World.drewN _) (Nat.add_assoc _ _ _))⟩)))
                repeat (go_quiet (first | (go_at_call 103; (with_reducible refine (spec_l14Factorial.calls k2 (l1.length : Int) t796 _ A11.out).mono ?_); rintro e w' ⟨rfl, ⟨nd, rfl⟩⟩; (try first | exact ⟨rfl, _, World.drewN_drewN _ _ _⟩ | exact ⟨rfl, _, Eq.trans (World.drewN_drewN _ _ _) (congrArg (World.drewN _) (Nat.add_assoc _ _ _))⟩)) | (go_at_call 104; (with_reducible refine (spec_l14Numbered.calls k2 _ _ l1 x9_2 t797 _ ?side1 ?side2 A13.out).mono ?_); (case side1 => repeat (first | exact (Kd.C_below HR1.out (bg_ HB.out GE790.out)) | (with_reducible refine Kd.C_alloc ?_ _) | (with_reducible refine Kd.C_drewN ?_ _) | (with_reducible refine Kd.C_drew ?_))); (case side2 => exact HC1.out); rintro e w18 ⟨v798, rfl, ho0, hb⟩; have n0_ := Aside0.mk (Kd.S_elder' (by (with_reducible repeat (first | apply Kd.S_alloc | apply Kd.S_drewN | apply Kd.S_drew)); exact HO_8.out) (Kd.R_base ho0) hb); have n1_ := Aside0.mk (Kd.R_lower ho0 (below_size (bg_ HB.out GE790.out))); have n2_ := Aside0.mk (blk_below (g := gb790) (o := .cells #[.string a0_0, .slice A0_1 l0_1.length c0_1, .slice A0_2 l0_2.length c0_2, .int .i64 a0_3, .int .i64 a0_4, .slice A0_5 l0_5.length c0_5] 29 (0, 0)) (by exact bk_ BK790.out) hb); have n3_ := Aside0.mk (below_step (bg_ HB.out GE790.out) hb); clear HO_8; clear BK790; clear HB; have HO_8 := n0_; have HO799 := n1_; have BK790 := n2_; have HB := n3_; clear n0_ n1_ n2_ n3_; (try clear hb); (try clear hb2); (try clear hk); (try clear hi); (try clear ho0); obtain ⟨Ao19, co19, eo19⟩ := Kd.R_slice HO799.out; subst eo19; have p800 : 0 ≤ (0 : Int) := (by omega); have q800 : 0 < (t797.length : Int) := of_decide_eq_true (by first | (with_reducible assumption) | assumption); obtain ⟨ad800, e800, hx800_0⟩ := Kd.at_int (Kd.R_reads' HO799.out).2.2 0 p800 q800; cases e800; have qi800 : (0 < t797.length) = True := eq_true (by omega); (try rw [show ((0 : Int)).toNat = 0 from rfl] at hx800_0); (try rw [Addr.add_zero'] at hx800_0); replace p800 := eq_true p800; replace q800 := eq_true q800) | (go_at_call 60; (with_reducible refine (spec_l03Tone.calls (rd t797 0) t801 _ A15.out).mono ?_); rintro e w' ⟨rfl, ⟨nd, rfl⟩⟩; (try first | exact ⟨rfl, _, World.drewN_drewN _ _ _⟩ | exact ⟨rfl, _, Eq.trans (World.drewN_drewN _ _ _) (congrArg (World.drewN _) (Nat.add_assoc _ _ _))⟩)) | (go_at_call 59; (with_reducible refine (spec_l05Tone.calls k2 gb790 a0_0 A0_1 c0_1 l0_1 A0_2 c0_2 l0_2 a0_3 a0_4 A0_5 c0_5 l0_5 t801 t802 _ ?side1 ?side2 ?side3 ?side4 ?side5 ?side6 ?side7 A16.out).mono ?_); (case side1 => exact bk_ BK790.out); (case side2 => repeat (first | exact (Kd.C_below HR0_1.out (bg_ HB.out GE790.out)) | (with_reducible refine Kd.C_alloc ?_ _) | (with_reducible refine Kd.C_drewN ?_ _) | (with_reducible refine Kd.C_drew ?_))); (case side3 => exact HC0_1.out); (case side4 => repeat (first | exact (Kd.C_below HR0_2.out (bg_ HB.out GE790.out)) | (with_reducible refine Kd.C_alloc ?_ _) | (with_reducible refine Kd.C_drewN ?_ _) | (with_reducible refine Kd.C_drew ?_))); (case side5 => exact HC0_2.out); (case side6 => repeat (first | exact (Kd.C_below HR0_5.out (bg_ HB.out GE790.out)) | (with_reducible refine Kd.C_alloc ?_ _) | (with_reducible refine Kd.C_drewN ?_ _) | (with_reducible refine Kd.C_drew ?_))); (case side7 => exact HC0_5.out); rintro e w' ⟨rfl, ⟨nd, rfl⟩⟩; (try first | exact ⟨rfl, _, World.drewN_drewN _ _ _⟩ | exact ⟨rfl, _, Eq.trans (World.drewN_drewN _ _ _) (congrArg (World.drewN _) (Nat.add_assoc _ _ _))⟩))); go_upto_block 2 with (first | (go_at_call 103; (with_reducible refine (spec_l14Factorial.calls k2 (l1.length : Int) t796 _ A11.out).mono ?_); rintro e w' ⟨rfl, ⟨nd, rfl⟩⟩; (try first | exact ⟨rfl, _, World.drewN_drewN _ _ _⟩ | exact ⟨rfl, _, Eq.trans (World.drewN_drewN _ _ _) (congrArg (World.drewN _) (Nat.add_assoc _ _ _))⟩)) | (go_at_call 104; (with_reducible refine (spec_l14Numbered.calls k2 _ _ l1 x9_2 t797 _ ?side1 ?side2 A13.out).mono ?_); (case side1 => repeat (first | exact (Kd.C_below HR1.out (bg_ HB.out GE790.out)) | (with_reducible refine Kd.C_alloc ?_ _) | (with_reducible refine Kd.C_drewN ?_ _) | (with_reducible refine Kd.C_drew ?_))); (case side2 => exact HC1.out); rintro e w18 ⟨v798, rfl, ho0, hb⟩; have n0_ := Aside0.mk (Kd.S_elder' (by (with_reducible repeat (first | apply Kd.S_alloc | apply Kd.S_drewN | apply Kd.S_drew)); exact HO_8.out) (Kd.R_base ho0) hb); have n1_ := Aside0.mk (Kd.R_lower ho0 (below_size (bg_ HB.out GE790.out))); have n2_ := Aside0.mk (blk_below (g := gb790) (o := .cells #[.string a0_0, .slice A0_1 l0_1.length c0_1, .slice A0_2 l0_2.length c0_2, .int .i64 a0_3, .int .i64 a0_4, .slice A0_5 l0_5.length c0_5] 29 (0, 0)) (by exact bk_ BK790.out) hb); have n3_ := Aside0.mk (below_step (bg_ HB.out GE790.out) hb); clear HO_8; clear BK790; clear HB; have HO_8 := n0_; have HO799 := n1_; have BK790 := n2_; have HB := n3_; clear n0_ n1_ n2_ n3_; (try clear hb); (try clear hb2); (try clear hk); (try clear hi); (try clear ho0); obtain ⟨Ao19, co19, eo19⟩ := Kd.R_slice HO799.out; subst eo19; have p800 : 0 ≤ (0 : Int) := (by omega); have q800 : 0 < (t797.length : Int) := of_decide_eq_true (by first | (with_reducible assumption) | assumption); obtain ⟨ad800, e800, hx800_0⟩ := Kd.at_int (Kd.R_reads' HO799.out).2.2 0 p800 q800; cases e800; have qi800 : (0 < t797.length) = True := eq_true (by omega); (try rw [show ((0 : Int)).toNat = 0 from rfl] at hx800_0); (try rw [Addr.add_zero'] at hx800_0); replace p800 := eq_true p800; replace q800 := eq_true q800) | (go_at_call 60; (with_reducible refine (spec_l03Tone.calls (rd t797 0) t801 _ A15.out).mono ?_); rintro e w' ⟨rfl, ⟨nd, rfl⟩⟩; (try first | exact ⟨rfl, _, World.drewN_drewN _ _ _⟩ | exact ⟨rfl, _, Eq.trans (World.drewN_drewN _ _ _) (congrArg (World.drewN _) (Nat.add_assoc _ _ _))⟩)) | (go_at_call 59; (with_reducible refine (spec_l05Tone.calls k2 gb790 a0_0 A0_1 c0_1 l0_1 A0_2 c0_2 l0_2 a0_3 a0_4 A0_5 c0_5 l0_5 t801 t802 _ ?side1 ?side2 ?side3 ?side4 ?side5 ?side6 ?side7 A16.out).mono ?_); (case side1 => exact bk_ BK790.out); (case side2 => repeat (first | exact (Kd.C_below HR0_1.out (bg_ HB.out GE790.out)) | (with_reducible refine Kd.C_alloc ?_ _) | (with_reducible refine Kd.C_drewN ?_ _) | (with_reducible refine Kd.C_drew ?_))); (case side3 => exact HC0_1.out); (case side4 => repeat (first | exact (Kd.C_below HR0_2.out (bg_ HB.out GE790.out)) | (with_reducible refine Kd.C_alloc ?_ _) | (with_reducible refine Kd.C_drewN ?_ _) | (with_reducible refine Kd.C_drew ?_))); (case side5 => exact HC0_2.out); (case side6 => repeat (first | exact (Kd.C_below HR0_5.out (bg_ HB.out GE790.out)) | (with_reducible refine Kd.C_alloc ?_ _) | (with_reducible refine Kd.C_drewN ?_ _) | (with_reducible refine Kd.C_drew ?_))); (case side7 => exact HC0_5.out); rintro e w' ⟨rfl, ⟨nd, rfl⟩⟩; (try first | exact ⟨rfl, _, World.drewN_drewN _ _ _⟩ | exact ⟨rfl, _, Eq.trans (World.drewN_drewN _ _ _) (congrArg (World.drewN _) (Nat.add_assoc _ _ _))⟩))))
                (try simp only [Act.put, List.setIfInBounds_toArray, List.set_cons_zero, List.set_cons_succ])
                go_cut [11] (fun v11 wc => ∃ (kq : Nat) (x11_16 : Bool), v11 = .bool x11_16 ∧ Aside0 (spec_AllowedPermutations.j3 kq l1 x7_2 x8_2 x9_2 t797 x11_16 a0_0 l0_1 l0_2 a0_3 a0_4 l0_5 = some (r1, r2, r3)) ∧ Aside0 (kq ≤ k2) ∧ Aside0 (Kd.S (Kd.slice 2 (Kd.int .i64)) 22 wc w.heap.size (fun k_ => some k_ ≠ ((.slice (some ad800) t797.length co19) : Value).ownBlock) u8 x8_2) ∧ Aside0 (Kd.R (Kd.int .i64) 2 wc w.heap.size (fun _ => True) (.slice (some ad800) t797.length co19) t797) ∧ Aside0 (wc.heap[gb790]? = some (.cells #[.string a0_0, (.slice A0_1 l0_1.length c0_1), (.slice A0_2 l0_2.length c0_2), .int .i64 a0_3, .int .i64 a0_4, (.slice A0_5 l0_5.length c0_5)] 29 (0, 0))) ∧ Aside0 (Below w.heap.size w wc))
                case first =>
                  have H := HC17.out
                  clear HC17
                  have H' := Aside0.mk H
                  clear H
                  go_wp2
                  repeat (go_quiet (fail); try go_wp2)
                  go_loopg [11, 12] k2 (fun kq v11 v12 w' => ∃ (x11_3 : Bool) (x12_3 : Int), v11 = .bool x11_3 ∧ v12 = .int .i64 x12_3 ∧ Aside0 (spec_AllowedPermutations.l1 kq l1 x7_2 x8_2 x9_2 t797 x11_3 x12_3 a0_0 l0_1 l0_2 a0_3 a0_4 l0_5 = some (r1, r2, r3)) ∧ Aside0 (kq ≤ k2) ∧ Aside0 (Kd.S (Kd.slice 2 (Kd.int .i64)) 22 w' w.heap.size (fun k_ => some k_ ≠ ((.slice (some ad800) t797.length co19) : Value).ownBlock) u8 x8_2) ∧ Aside0 (Kd.R (Kd.int .i64) 2 w' w.heap.size (fun _ => True) (.slice (some ad800) t797.length co19) t797) ∧ Aside0 (w'.heap[gb790]? = some (.cells #[.string a0_0, (.slice A0_1 l0_1.length c0_1), (.slice A0_2 l0_2.length c0_2), .int .i64 a0_3, .int .i64 a0_4, (.slice A0_5 l0_5.length c0_5)] 29 (0, 0))) ∧ Aside0 (Below w.heap.size w w'))
                  case atStart => exact ⟨(t802), (1), sv_, sv_, H', ⟨Nat.le_refl _⟩, ⟨by (with_reducible repeat (first | apply Kd.S_alloc | apply Kd.S_drewN | apply Kd.S_drew)); exact Kd.S_mono HO_8.out (fun _ hk => hk.2)⟩, ⟨rr_ HO799.out⟩, ⟨by (with_reducible repeat (first | refine blk_drewN ?_ _ | refine blk_drew ?_ | refine blk_alloc ?_ _)); exact BK790.out⟩, ⟨bg_ HB.out GE790.out⟩⟩
                  case round =>
                    clear H'
                    (try clear c1); (try clear p2); (try clear c5); (try clear c6); (try clear c8); (try clear p8); (try clear q8); (try clear hx8); (try clear qi8); (try clear c12); (try clear c12b0); (try clear c14); (try clear c14b0); (try clear c14b1); (try clear hx800_0); (try clear p2); (try clear p800); (try clear q800)
                    obtain ⟨x11_3, x12_3, rfl, rfl, HA, HK3, HO_8, HO_10, BK790, HB⟩ := hrel
                    cases gk with
                    | zero => exact absurd HA.out (by simp [spec_AllowedPermutations.l1])
                    | succ k3 =>
                      have H := HA.out
                      clear HA
                      simp only [spec_AllowedPermutations.l1] at H
                      by_cases c20 : x12_3 < (t797.length : Int)
                      · rw [if_pos c20] at H
                        have c20b0 : decide (x12_3 < (t797.length : Int)) = true := decide_eq_true c20
                        clear c20
                        (first | rw [c20b0] | (simp only [i64_w, i32_w]; rw [c20b0]) | skip)
                        by_cases c21 : x11_3 = true
                        · subst c21
                          have H1 : (if 0 ≤ (wrap64 (x12_3 - 1)) then (if (wrap64 (x12_3 - 1)) < (t797.length : Int) then (if 0 ≤ x12_3 then ((spec_l05Reason.f k3 a0_0 l0_1 l0_2 a0_3 a0_4 l0_5 (rd t797 (wrap64 (x12_3 - 1))) (rd t797 x12_3)).bind fun t805 => (spec_AllowedPermutations.l1 k3 l1 x7_2 x8_2 x9_2 t797 (t805 == 0) (wrap64 (x12_3 + 1)) a0_0 l0_1 l0_2 a0_3 a0_4 l0_5)) else (none)) else (none)) else (none)) = some (r1, r2, r3) := by rw [if_pos rfl] at H; exact H
                          clear H
                          have H := H1
                          clear H1
                          obtain ⟨ji22, hji22⟩ : ∃ j_ : Int, (wrap64 (x12_3 - 1)) = j_ := ⟨_, rfl⟩
                          replace H : (if 0 ≤ (ji22) then (if (ji22) < (t797.length : Int) then (if 0 ≤ x12_3 then ((spec_l05Reason.f k3 a0_0 l0_1 l0_2 a0_3 a0_4 l0_5 (rd t797 (ji22)) (rd t797 x12_3)).bind fun t805 => (spec_AllowedPermutations.l1 k3 l1 x7_2 x8_2 x9_2 t797 (t805 == 0) (wrap64 (x12_3 + 1)) a0_0 l0_1 l0_2 a0_3 a0_4 l0_5)) else (none)) else (none)) else (none)) = some (r1, r2, r3) := by first | (rw [hji22] at H; exact H) | (simp only [hji22] at H ⊢; exact H)
                          have hji22w : (IntKind.i64.wrap (x12_3 - 1)) = ji22 := (i64_w _).trans hji22
                          by_cases c23 : 0 ≤ (ji22)
                          · rw [if_pos c23] at H
                            have c23b0 : decide (0 ≤ (ji22)) = true := decide_eq_true c23
                            clear c23
                            by_cases c24 : (ji22) < (t797.length : Int)
                            · rw [if_pos c24] at H
                              have c24b0 : decide ((ji22) < (t797.length : Int)) = true := decide_eq_true c24
                              clear c24
                              by_cases c25 : 0 ≤ x12_3
                              · rw [if_pos c25] at H
                                have c25b0 : decide (0 ≤ x12_3) = true := decide_eq_true c25
                                clear c25
                                replace H := Option.bind_eq_some_iff.mp H
                                obtain ⟨t805, A260, H⟩ := H
                                replace H : (spec_AllowedPermutations.l1 k3 l1 x7_2 x8_2 x9_2 t797 (t805 == 0) (wrap64 (x12_3 + 1)) a0_0 l0_1 l0_2 a0_3 a0_4 l0_5) = some (r1, r2, r3) := H
                                have A26 := Aside0.mk A260
                                clear A260
                                have H' := Aside0.mk H
                                clear H
                                have p803 : 0 ≤ ((ji22) : Int) := of_decide_eq_true (by first | (with_reducible assumption) | assumption)
                                have q803 : (ji22) < (t797.length : Int) := of_decide_eq_true (by first | (with_reducible assumption) | assumption)
                                obtain ⟨ad803, e803, hx803_0⟩ := Kd.at_int (Kd.R_reads' HO_10.out).2.2 (ji22) p803 q803
                                obtain rfl : ad800 = ad803 := (by injection e803)
                                replace p803 := eq_true p803
                                replace q803 := eq_true q803
                                have p804 : 0 ≤ (x12_3 : Int) := of_decide_eq_true (by first | (with_reducible assumption) | assumption)
                                have q804 : x12_3 < (t797.length : Int) := of_decide_eq_true (by first | (with_reducible assumption) | assumption)
                                obtain ⟨ad804, e804, hx804_0⟩ := Kd.at_int (Kd.R_reads' HO_10.out).2.2 x12_3 p804 q804
                                obtain rfl : ad800 = ad804 := (by injection e804)
                                replace p804 := eq_true p804
                                replace q804 := eq_true q804
                                go_wp2_with (first | (go_at_call 105; (with_reducible refine (spec_l05Reason.calls k3 gb790 a0_0 A0_1 c0_1 l0_1 A0_2 c0_2 l0_2 a0_3 a0_4 A0_5 c0_5 l0_5 (rd t797 (ji22)) (rd t797 x12_3) t805 _ ?side1 ?side2 ?side3 ?side4 ?side5 ?side6 ?side7 A26.out).mono ?_); (case side1 => exact bk_ BK790.out); (case side2 => repeat (first | exact (Kd.C_below HR0_1.out HB.out) | (with_reducible refine Kd.C_alloc ?_ _) | (with_reducible refine Kd.C_drewN ?_ _) | (with_reducible refine Kd.C_drew ?_))); (case side3 => exact HC0_1.out); (case side4 => repeat (first | exact (Kd.C_below HR0_2.out HB.out) | (with_reducible refine Kd.C_alloc ?_ _) | (with_reducible refine Kd.C_drewN ?_ _) | (with_reducible refine Kd.C_drew ?_))); (case side5 => exact HC0_2.out); (case side6 => repeat (first | exact (Kd.C_below HR0_5.out HB.out) | (with_reducible refine Kd.C_alloc ?_ _) | (with_reducible refine Kd.C_drewN ?_ _) | (with_reducible refine Kd.C_drew ?_))); (case side7 => exact HC0_5.out); rintro e w' ⟨rfl, ⟨nd, rfl⟩⟩; (try first | exact ⟨rfl, _, World.drewN_drewN _ _ _⟩ | exact ⟨rfl, _, Eq.trans (World.drewN_drewN _ _ _) (congrArg (World.drewN _) (Nat.add_assoc _ _ _))⟩)))
                                repeat (go_quiet (first | (go_at_call 105; (with_reducible refine (spec_l05Reason.calls k3 gb790 a0_0 A0_1 c0_1 l0_1 A0_2 c0_2 l0_2 a0_3 a0_4 A0_5 c0_5 l0_5 (rd t797 (ji22)) (rd t797 x12_3) t805 _ ?side1 ?side2 ?side3 ?side4 ?side5 ?side6 ?side7 A26.out).mono ?_); (case side1 => exact bk_ BK790.out); (case side2 => repeat (first | exact (Kd.C_below HR0_1.out HB.out) | (with_reducible refine Kd.C_alloc ?_ _) | (with_reducible refine Kd.C_drewN ?_ _) | (with_reducible refine Kd.C_drew ?_))); (case side3 => exact HC0_1.out); (case side4 => repeat (first | exact (Kd.C_below HR0_2.out HB.out) | (with_reducible refine Kd.C_alloc ?_ _) | (with_reducible refine Kd.C_drewN ?_ _) | (with_reducible refine Kd.C_drew ?_))); (case side5 => exact HC0_2.out); (case side6 => repeat (first | exact (Kd.C_below HR0_5.out HB.out) | (with_reducible refine Kd.C_alloc ?_ _) | (with_reducible refine Kd.C_drewN ?_ _) | (with_reducible refine Kd.C_drew ?_))); (case side7 => exact HC0_5.out); rintro e w' ⟨rfl, ⟨nd, rfl⟩⟩; (try first | exact ⟨rfl, _, World.drewN_drewN _ _ _⟩ | exact ⟨rfl, _, Eq.trans (World.drewN_drewN _ _ _) (congrArg (World.drewN _) (Nat.add_assoc _ _ _))⟩))); try go_wp2_with (first | (go_at_call 105; (with_reducible refine (spec_l05Reason.calls k3 gb790 a0_0 A0_1 c0_1 l0_1 A0_2 c0_2 l0_2 a0_3 a0_4 A0_5 c0_5 l0_5 (rd t797 (ji22)) (rd t797 x12_3) t805 _ ?side1 ?side2 ?side3 ?side4 ?side5 ?side6 ?side7 A26.out).mono ?_); (case side1 => exact bk_ BK790.out); (case side2 => repeat (first | exact (Kd.C_below HR0_1.out HB.out) | (with_reducible refine Kd.C_alloc ?_ _) | (with_reducible refine Kd.C_drewN ?_ _) | (with_reducible refine Kd.C_drew ?_))); (case side3 => exact HC0_1.out); (case side4 => repeat (first | exact (Kd.C_below HR0_2.out HB.out) | (with_reducible refine Kd.C_alloc ?_ _) | (with_reducible refine Kd.C_drewN ?_ _) | (with_reducible refine Kd.C_drew ?_))); (case side5 => exact HC0_2.out); (case side6 => repeat (first | exact (Kd.C_below HR0_5.out HB.out) | (with_reducible refine Kd.C_alloc ?_ _) | (with_reducible refine Kd.C_drewN ?_ _) | (with_reducible refine Kd.C_drew ?_))); (case side7 => exact HC0_5.out); rintro e w' ⟨rfl, ⟨nd, rfl⟩⟩; (try first | exact ⟨rfl, _, World.drewN_drewN _ _ _⟩ | exact ⟨rfl, _, Eq.trans (World.drewN_drewN _ _ _) (congrArg (World.drewN _) (Nat.add_assoc _ _ _))⟩))))
                                go_roundg k3
                                case measure => have := HJ2.out; have := HK2.out; have := HK3.out; omega
                                case rel => exact ⟨((t805 == 0)), (wrap64 (x12_3 + 1)), sv_, sv_, H', ⟨by have := HJ2.out; have := HK2.out; have := HK3.out; omega⟩, ⟨by (with_reducible repeat (first | apply Kd.S_alloc | apply Kd.S_drewN | apply Kd.S_drew)); exact HO_8.out⟩, ⟨rr_ HO_10.out⟩, ⟨by (with_reducible repeat (first | refine blk_drewN ?_ _ | refine blk_drew ?_ | refine blk_alloc ?_ _)); exact BK790.out⟩, ⟨bg_ HB.out GE790.out⟩⟩
                              · rw [if_neg c25] at H
                                exact absurd H (by simp)
                            · rw [if_neg c24] at H
                              exact absurd H (by simp)
                          · rw [if_neg c23] at H
                            exact absurd H (by simp)
                        · replace c21 := Bool.eq_false_iff.mpr c21
                          subst c21
                          have H1 : (spec_AllowedPermutations.j3 k3 l1 x7_2 x8_2 x9_2 t797 false a0_0 l0_1 l0_2 a0_3 a0_4 l0_5) = some (r1, r2, r3) := by rw [if_neg (show ¬ (false = true) by decide)] at H; exact H
                          clear H
                          have H := H1
                          clear H1
                          have H' := Aside0.mk H
                          clear H
                          go_wp2
                          repeat (go_quiet (fail); try go_wp2)
                          go_meet
                          case rel => exact ⟨_, (false), sv_, H', ⟨by have := HJ2.out; have := HK2.out; have := HK3.out; first | omega | exact Nat.le_refl _⟩, ⟨by (with_reducible repeat (first | apply Kd.S_alloc | apply Kd.S_drewN | apply Kd.S_drew)); exact HO_8.out⟩, ⟨rr_ HO_10.out⟩, ⟨by (with_reducible repeat (first | refine blk_drewN ?_ _ | refine blk_drew ?_ | refine blk_alloc ?_ _)); exact BK790.out⟩, ⟨bg_ HB.out GE790.out⟩⟩
                      · rw [if_neg c20] at H
                        have c20b0 : decide (x12_3 < (t797.length : Int)) = false := decide_eq_false c20
                        clear c20
                        (first | rw [c20b0] | (simp only [i64_w, i32_w]; rw [c20b0]) | skip)
                        have H' := Aside0.mk H
                        clear H
                        go_wp2
                        repeat (go_quiet (fail); try go_wp2)
                        go_meet
                        case rel => exact ⟨_, (x11_3), sv_, H', ⟨by have := HJ2.out; have := HK2.out; have := HK3.out; first | omega | exact Nat.le_refl _⟩, ⟨by (with_reducible repeat (first | apply Kd.S_alloc | apply Kd.S_drewN | apply Kd.S_drew)); exact HO_8.out⟩, ⟨rr_ HO_10.out⟩, ⟨by (with_reducible repeat (first | refine blk_drewN ?_ _ | refine blk_drew ?_ | refine blk_alloc ?_ _)); exact BK790.out⟩, ⟨bg_ HB.out GE790.out⟩⟩
                case rest =>
                  clear HC17
                  (try clear c1); (try clear c2); (try clear p2); (try clear c5); (try clear c6); (try clear p6); (try clear c8); (try clear p8); (try clear q8); (try clear hx8); (try clear qi8); (try clear c12); (try clear c12b0); (try clear c14); (try clear c14b0); (try clear c14b1); (try clear c20); (try clear c20b0); (try clear c21); (try clear c23); (try clear c23b0); (try clear c24); (try clear c24b0); (try clear c25); (try clear c25b0); (try clear hx800_0); (try clear hx803_0); (try clear hx804_0); (try clear p2); (try clear p8); (try clear p800); (try clear p803); (try clear p804); (try clear q8); (try clear q800); (try clear q803); (try clear q804)
                  obtain ⟨kq, x11_16, rfl, HA, HJ16, HO_8, HO_10, BK790, HB⟩ := hcut
                  cases kq with
                  | zero => exact absurd HA.out (by simp [spec_AllowedPermutations.j3])
                  | succ kj16 =>
                    have H := HA.out
                    clear HA
                    simp only [spec_AllowedPermutations.j3] at H
                    by_cases c27 : x11_16 = true
                    · subst c27
                      have H1 : (if (x8_2.length : Int) < 3 then (if x8_2.length < 5864062014805 then (spec_AllowedPermutations.l0 kj16 l1 (wrap64 (x7_2 + 1)) (x8_2 ++ [t797]) (wrap64 (x9_2 + 1)) a0_0 l0_1 l0_2 a0_3 a0_4 l0_5) else (none)) else (spec_AllowedPermutations.l0 kj16 l1 (wrap64 (x7_2 + 1)) x8_2 (wrap64 (x9_2 + 1)) a0_0 l0_1 l0_2 a0_3 a0_4 l0_5)) = some (r1, r2, r3) := by rw [if_pos rfl] at H; exact H
                      clear H
                      have H := H1
                      clear H1
                      by_cases c28 : (x8_2.length : Int) < 3
                      · rw [if_pos c28] at H
                        have c28b0 : decide ((x8_2.length : Int) < 3) = true := decide_eq_true c28
                        have c28b1 : decide (x8_2.length < 3) = true := decide_eq_true (by omega)
                        clear c28
                        by_cases c29 : x8_2.length < 5864062014805
                        · rw [if_pos c29] at H
                          have LMc29 := Aside0.mk c29
                          clear c29
                          obtain ⟨y806, hy806⟩ : ∃ y_ : List (List Int), y_ = (x8_2 ++ [t797]) := ⟨_, rfl⟩
                          replace H : (spec_AllowedPermutations.l0 kj16 l1 (wrap64 (x7_2 + 1)) y806 (wrap64 (x9_2 + 1)) a0_0 l0_1 l0_2 a0_3 a0_4 l0_5) = some (r1, r2, r3) := by first | (rw [hy806]; with_reducible exact H) | (have H2_ := (Option.bind_some _ _).symm.trans H; rw [hy806]; with_reducible exact H2_) | (have H2_ := (Option.bind_some _ _).symm.trans H; with_reducible exact H2_) | with_reducible exact H | (rw [hy806]; exact H) | exact H
                          have Ny806 := Aside0.mk hy806
                          clear hy806
                          have H' := Aside0.mk H
                          clear H
                          obtain ⟨Ao30, co30, eo30⟩ := Kd.S_slice HO_8.out
                          subst eo30
                          go_wp2_with (first | ((with_reducible refine gate_builtin (b := .append) (xs := #[.tmp 63, .tmp 65]) rfl ?_); at_builtin; refine Kd.S_append (Kd.slice 2 (Kd.int .i64)) (w0 := w) w.heap.size rfl (.tmp 63) (.tmp 65) 23 22 (.slice none 0 0) 24 rfl Try.underlying23 info22 rfl (by decide) (by omega) (.slice Ao30 x8_2.length co30) x8_2 t797 [.slice (some ad800) t797.length co19] (fun _ => True) (fun k_ => some k_ = (.slice (some ad800) t797.length co19 : Value).ownBlock) rfl rfl ?aP (fun k_ hk_ => ((Kd.R_mono (ok' := fun k_ => ((fun _ => True)) k_ ∧ some k_ ≠ (.slice Ao30 x8_2.length co30 : Value).ownBlock) (Kd.R_apart' (HO_10.out) (Kd.S_typed HO_8.out) (by decide)) (fun k_ hk => ⟨trivial, hk.2⟩))).1 k_ hk_.symm) ?aF ?aO ?aB ?aS ?aL ?_; (case aP => exact Kd.M_row (Kd.R_mono (Kd.R_tight rfl (Kd.R_mono (ok' := fun k_ => ((fun _ => True)) k_ ∧ some k_ ≠ (.slice Ao30 x8_2.length co30 : Value).ownBlock) (Kd.R_apart' (HO_10.out) (Kd.S_typed HO_8.out) (by decide)) (fun k_ hk => ⟨trivial, hk.2⟩))) (fun _ h_ => h_))); (case aB => exact (bg_ HB.out GE790.out)); (case aF => exact (fun _ _ => trivial)); (case aO => exact (by (with_reducible repeat (first | apply Kd.S_alloc | apply Kd.S_drewN | apply Kd.S_drew)); exact Kd.S_mono HO_8.out (fun k_ hk => ⟨trivial, fun e_ => hk e_⟩))); (case aS => exact (below_size (bg_ HB.out GE790.out))); (case aL => have := LMc29.out; omega); intro v807 w31 ho hb hg hat; rw [← Ny806.out] at ho; have n0_ := Aside0.mk (blk_grown (g := gb790) (o := .cells #[.string a0_0, .slice A0_1 l0_1.length c0_1, .slice A0_2 l0_2.length c0_2, .int .i64 a0_3, .int .i64 a0_4, .slice A0_5 l0_5.length c0_5] 29 (0, 0)) (by exact bk_ BK790.out) hg (Kd.S_ne HO_8.out BK790.out (by decide))); have n1_ := Aside0.mk (hb); have n2_ := Aside0.mk (ho); clear BK790; clear HB; clear HO_8; clear HO_10; have BK790 := n0_; have HB := n1_; have HO808 := n2_; clear n0_ n1_ n2_; clear ho hb hg hat))
                          repeat (go_quiet (first | ((with_reducible refine gate_builtin (b := .append) (xs := #[.tmp 63, .tmp 65]) rfl ?_); at_builtin; refine Kd.S_append (Kd.slice 2 (Kd.int .i64)) (w0 := w) w.heap.size rfl (.tmp 63) (.tmp 65) 23 22 (.slice none 0 0) 24 rfl Try.underlying23 info22 rfl (by decide) (by omega) (.slice Ao30 x8_2.length co30) x8_2 t797 [.slice (some ad800) t797.length co19] (fun _ => True) (fun k_ => some k_ = (.slice (some ad800) t797.length co19 : Value).ownBlock) rfl rfl ?aP (fun k_ hk_ => ((Kd.R_mono (ok' := fun k_ => ((fun _ => True)) k_ ∧ some k_ ≠ (.slice Ao30 x8_2.length co30 : Value).ownBlock) (Kd.R_apart' (HO_10.out) (Kd.S_typed HO_8.out) (by decide)) (fun k_ hk => ⟨trivial, hk.2⟩))).1 k_ hk_.symm) ?aF ?aO ?aB ?aS ?aL ?_; (case aP => exact Kd.M_row (Kd.R_mono (Kd.R_tight rfl (Kd.R_mono (ok' := fun k_ => ((fun _ => True)) k_ ∧ some k_ ≠ (.slice Ao30 x8_2.length co30 : Value).ownBlock) (Kd.R_apart' (HO_10.out) (Kd.S_typed HO_8.out) (by decide)) (fun k_ hk => ⟨trivial, hk.2⟩))) (fun _ h_ => h_))); (case aB => exact (bg_ HB.out GE790.out)); (case aF => exact (fun _ _ => trivial)); (case aO => exact (by (with_reducible repeat (first | apply Kd.S_alloc | apply Kd.S_drewN | apply Kd.S_drew)); exact Kd.S_mono HO_8.out (fun k_ hk => ⟨trivial, fun e_ => hk e_⟩))); (case aS => exact (below_size (bg_ HB.out GE790.out))); (case aL => have := LMc29.out; omega); intro v807 w31 ho hb hg hat; rw [← Ny806.out] at ho; have n0_ := Aside0.mk (blk_grown (g := gb790) (o := .cells #[.string a0_0, .slice A0_1 l0_1.length c0_1, .slice A0_2 l0_2.length c0_2, .int .i64 a0_3, .int .i64 a0_4, .slice A0_5 l0_5.length c0_5] 29 (0, 0)) (by exact bk_ BK790.out) hg (Kd.S_ne HO_8.out BK790.out (by decide))); have n1_ := Aside0.mk (hb); have n2_ := Aside0.mk (ho); clear BK790; clear HB; clear HO_8; clear HO_10; have BK790 := n0_; have HB := n1_; have HO808 := n2_; clear n0_ n1_ n2_; clear ho hb hg hat)); try go_wp2_with (first | ((with_reducible refine gate_builtin (b := .append) (xs := #[.tmp 63, .tmp 65]) rfl ?_); at_builtin; refine Kd.S_append (Kd.slice 2 (Kd.int .i64)) (w0 := w) w.heap.size rfl (.tmp 63) (.tmp 65) 23 22 (.slice none 0 0) 24 rfl Try.underlying23 info22 rfl (by decide) (by omega) (.slice Ao30 x8_2.length co30) x8_2 t797 [.slice (some ad800) t797.length co19] (fun _ => True) (fun k_ => some k_ = (.slice (some ad800) t797.length co19 : Value).ownBlock) rfl rfl ?aP (fun k_ hk_ => ((Kd.R_mono (ok' := fun k_ => ((fun _ => True)) k_ ∧ some k_ ≠ (.slice Ao30 x8_2.length co30 : Value).ownBlock) (Kd.R_apart' (HO_10.out) (Kd.S_typed HO_8.out) (by decide)) (fun k_ hk => ⟨trivial, hk.2⟩))).1 k_ hk_.symm) ?aF ?aO ?aB ?aS ?aL ?_; (case aP => exact Kd.M_row (Kd.R_mono (Kd.R_tight rfl (Kd.R_mono (ok' := fun k_ => ((fun _ => True)) k_ ∧ some k_ ≠ (.slice Ao30 x8_2.length co30 : Value).ownBlock) (Kd.R_apart' (HO_10.out) (Kd.S_typed HO_8.out) (by decide)) (fun k_ hk => ⟨trivial, hk.2⟩))) (fun _ h_ => h_))); (case aB => exact (bg_ HB.out GE790.out)); (case aF => exact (fun _ _ => trivial)); (case aO => exact (by (with_reducible repeat (first | apply Kd.S_alloc | apply Kd.S_drewN | apply Kd.S_drew)); exact Kd.S_mono HO_8.out (fun k_ hk => ⟨trivial, fun e_ => hk e_⟩))); (case aS => exact (below_size (bg_ HB.out GE790.out))); (case aL => have := LMc29.out; omega); intro v807 w31 ho hb hg hat; rw [← Ny806.out] at ho; have n0_ := Aside0.mk (blk_grown (g := gb790) (o := .cells #[.string a0_0, .slice A0_1 l0_1.length c0_1, .slice A0_2 l0_2.length c0_2, .int .i64 a0_3, .int .i64 a0_4, .slice A0_5 l0_5.length c0_5] 29 (0, 0)) (by exact bk_ BK790.out) hg (Kd.S_ne HO_8.out BK790.out (by decide))); have n1_ := Aside0.mk (hb); have n2_ := Aside0.mk (ho); clear BK790; clear HB; clear HO_8; clear HO_10; have BK790 := n0_; have HB := n1_; have HO808 := n2_; clear n0_ n1_ n2_; clear ho hb hg hat)))
                          go_roundg kj16
                          case measure => have := HJ2.out; have := HK2.out; have := HJ16.out; omega
                          case rel => exact ⟨(wrap64 (x7_2 + 1)), (y806), (wrap64 (x9_2 + 1)), sv_, sv_, H', ⟨by have := HJ2.out; have := HK2.out; have := HJ16.out; omega⟩, ⟨by (with_reducible repeat (first | apply Kd.S_alloc | apply Kd.S_drewN | apply Kd.S_drew)); exact HO808.out⟩, ⟨by (with_reducible repeat (first | refine blk_drewN ?_ _ | refine blk_drew ?_ | refine blk_alloc ?_ _)); exact BK790.out⟩, ⟨bg_ HB.out GE790.out⟩⟩
                        · rw [if_neg c29] at H
                          exact absurd H (by simp)
                      · rw [if_neg c28] at H
                        have c28b0 : decide ((x8_2.length : Int) < 3) = false := decide_eq_false c28
                        have c28b1 : decide (x8_2.length < 3) = false := decide_eq_false (by omega)
                        clear c28
                        have H' := Aside0.mk H
                        clear H
                        obtain ⟨Ao32, co32, eo32⟩ := Kd.S_slice HO_8.out
                        subst eo32
                        go_wp2
                        repeat (go_quiet (fail); try go_wp2)
                        go_roundg kj16
                        case measure => have := HJ2.out; have := HK2.out; have := HJ16.out; omega
                        case rel => exact ⟨(wrap64 (x7_2 + 1)), (x8_2), (wrap64 (x9_2 + 1)), sv_, sv_, H', ⟨by have := HJ2.out; have := HK2.out; have := HJ16.out; omega⟩, ⟨by (with_reducible repeat (first | apply Kd.S_alloc | apply Kd.S_drewN | apply Kd.S_drew)); exact Kd.S_mono HO_8.out (fun _ hk => trivial)⟩, ⟨by (with_reducible repeat (first | refine blk_drewN ?_ _ | refine blk_drew ?_ | refine blk_alloc ?_ _)); exact BK790.out⟩, ⟨bg_ HB.out GE790.out⟩⟩
                    · replace c27 := Bool.eq_false_iff.mpr c27
                      subst c27
                      have H1 : (spec_AllowedPermutations.l0 kj16 l1 x7_2 x8_2 (wrap64 (x9_2 + 1)) a0_0 l0_1 l0_2 a0_3 a0_4 l0_5) = some (r1, r2, r3) := by rw [if_neg (show ¬ (false = true) by decide)] at H; exact H
                      clear H
                      have H := H1
                      clear H1
                      have H' := Aside0.mk H
                      clear H
                      go_wp2
                      repeat (go_quiet (fail); try go_wp2)
                      go_roundg kj16
                      case measure => have := HJ2.out; have := HK2.out; have := HJ16.out; omega
                      case rel => exact ⟨(x7_2), (x8_2), (wrap64 (x9_2 + 1)), sv_, sv_, H', ⟨by have := HJ2.out; have := HK2.out; have := HJ16.out; omega⟩, ⟨by (with_reducible repeat (first | apply Kd.S_alloc | apply Kd.S_drewN | apply Kd.S_drew)); exact Kd.S_mono HO_8.out (fun _ hk => trivial)⟩, ⟨by (with_reducible repeat (first | refine blk_drewN ?_ _ | refine blk_drew ?_ | refine blk_alloc ?_ _)); exact BK790.out⟩, ⟨bg_ HB.out GE790.out⟩⟩
              · rw [if_neg c14] at H
                exact absurd H (by simp)
            · rw [if_neg c12] at H
              have c12b0 : decide (x9_2 < t796) = false := decide_eq_false c12
              clear c12
              simp only [Option.some.injEq, Prod.mk.injEq] at H
              obtain ⟨rfl, rfl, rfl⟩ := H
              go_wp2_with (first | (go_at_call 103; (with_reducible refine (spec_l14Factorial.calls k2 (l1.length : Int) t796 _ A11.out).mono ?_); rintro e w' ⟨rfl, ⟨nd, rfl⟩⟩; (try first | exact ⟨rfl, _, World.drewN_drewN _ _ _⟩ | exact ⟨rfl, _, Eq.trans (World.drewN_drewN _ _ _) (congrArg (World.drewN _) (Nat.add_assoc _ _ _))⟩)))
              repeat (go_quiet (first | (go_at_call 103; (with_reducible refine (spec_l14Factorial.calls k2 (l1.length : Int) t796 _ A11.out).mono ?_); rintro e w' ⟨rfl, ⟨nd, rfl⟩⟩; (try first | exact ⟨rfl, _, World.drewN_drewN _ _ _⟩ | exact ⟨rfl, _, Eq.trans (World.drewN_drewN _ _ _) (congrArg (World.drewN _) (Nat.add_assoc _ _ _))⟩))); try go_wp2_with (first | (go_at_call 103; (with_reducible refine (spec_l14Factorial.calls k2 (l1.length : Int) t796 _ A11.out).mono ?_); rintro e w' ⟨rfl, ⟨nd, rfl⟩⟩; (try first | exact ⟨rfl, _, World.drewN_drewN _ _ _⟩ | exact ⟨rfl, _, Eq.trans (World.drewN_drewN _ _ _) (congrArg (World.drewN _) (Nat.add_assoc _ _ _))⟩))))
              go_ret3
              exact ⟨_, by first | rfl | (simp [errW_none, errW_some] <;> rfl) | (simp [*, errW_none, errW_some] <;> rfl), by (with_reducible repeat (first | apply Kd.S_alloc | apply Kd.S_drewN | apply Kd.S_drew)); exact HO_8.out, bg_ HB.out GE790.out⟩
end Go.Proofs.Ytinlejhffokbaaa.P
end

section
/- How the arguments of this seat's laws read, as the kinds of the printed words: an argument that the row reads has the cells of its kind, and its numbers, texts and lengths are in bounds. No condition. -/
namespace Go.Proofs.Ytinlejhffokbaaa.P
open Go.RowKit Go.ChangeShapes Go.WideShapes Go.Proofs.YtinlejhffokbaaaW.PrintWords Go.Proofs.YtinlejhffokbaaaW.PrintLast
set_option linter.unusedVariables false

section
variable {H : Type} {enc : TypeId × Value → H} {P : Program} {w : World} {held : Bool}

theorem list_choose {α : Type} (p : Nat → α → Prop) : ∀ n, (∀ i, i < n → ∃ y, p i y) → ∃ ys : List α, ys.length = n ∧ ∀ (i : Nat) (y : α), ys[i]? = some y → p i y := by
  intro n
  induction n with
  | zero => exact fun _ => ⟨[], rfl, fun i y h => by simp at h⟩
  | succ n ih =>
    intro h
    obtain ⟨ys, hl, hp⟩ := ih (fun i hi => h i (by omega))
    obtain ⟨z, hz⟩ := h n (by omega)
    refine ⟨ys ++ [z], by simp [hl], fun i y hy => ?_⟩
    rcases Nat.lt_or_ge i ys.length with hi | hi
    · rw [List.getElem?_append_left hi] at hy
      exact hp i y hy
    · rw [List.getElem?_append_right hi] at hy
      have h0 : i - ys.length = 0 := by
        rcases Nat.eq_zero_or_pos (i - ys.length) with h1 | h1
        · exact h1
        · rw [List.getElem?_eq_none (by simp; omega)] at hy
          cases hy
      rw [h0] at hy
      simp only [List.getElem?_cons_zero, Option.some.injEq] at hy
      subst hy
      have : i = n := by omega
      subst this
      exact hz

theorem len_cons {n : Nat} {cs : List Value} (h : cs.length = n + 1) : ∃ c t, cs = c :: t ∧ t.length = n := by
  cases cs with
  | nil => simp at h
  | cons c t => exact ⟨c, t, rfl, by simpa using h⟩

theorem opn_int {t : TypeId} {k : IntKind} (ht : P.underlying t = some (.int k)) {fuel : Nat} {cs : List Value} {x : DataW H × List MemPlace} (h : DataW.trod enc P w 0 (fun _ => true) held fuel t cs = some x) :
    ∃ y : Int, (Kd.int k).K w y cs ∧ (Lit.int k y).wf = true := by
  obtain ⟨n, hcs, _, hw⟩ := DataW.trod_int ht h
  exact ⟨n, hcs, hw⟩

theorem opn_bool {t : TypeId} (ht : P.underlying t = some .bool) {fuel : Nat} {cs : List Value} {x : DataW H × List MemPlace} (h : DataW.trod enc P w 0 (fun _ => true) held fuel t cs = some x) :
    ∃ y : Bool, Kd.bool.K w y cs ∧ True := by
  obtain ⟨b, hcs, _⟩ := DataW.trod_bool ht h
  exact ⟨b, hcs, trivial⟩

theorem opn_string {t : TypeId} (ht : P.underlying t = some .string) {fuel : Nat} {cs : List Value} {x : DataW H × List MemPlace} (h : DataW.trod enc P w 0 (fun _ => true) held fuel t cs = some x) :
    ∃ y : ByteArray, Kd.string.K w y cs ∧ y.size ≤ maxLen := by
  obtain ⟨s, hcs, _, hs⟩ := DataW.trod_string ht h
  exact ⟨s, hcs, hs⟩

theorem opn_slice {α : Type} (d : Kd α) (ok : α → Prop) {t e : TypeId} (ht : P.underlying t = some (.slice e)) (ce : P.cellsOf e = d.sz)
    (hE : ∀ {fuel : Nat} {cs : List Value} {x : DataW H × List MemPlace}, DataW.trod enc P w 0 (fun _ => true) held fuel e cs = some x → ∃ y : α, d.K w y cs ∧ ok y)
    {fuel : Nat} {cs : List Value} {x : DataW H × List MemPlace} (h : DataW.trod enc P w 0 (fun _ => true) held fuel t cs = some x) :
    ∃ ys : List α, (Kd.slice e d).K w ys cs ∧ ys.length ≤ maxLen ∧ ∀ y ∈ ys, ok y := by
  rcases Go.Deep.open_slice ht h with ⟨rfl, _⟩ | ⟨a, len, cap, m, n, D, Pl, rfl, hb, hl, hm, hmm, rfl, hx⟩
  · exact ⟨[], ⟨none, 0, rfl, Nat.le_refl _, rfl, by simp, fun h => absurd h (Nat.lt_irrefl 0)⟩, Nat.zero_le _, by simp⟩
  · simp only [if_true] at hmm
    subst hmm
    obtain ⟨ys, hyl, hy⟩ := list_choose (fun i (y : α) => (∃ cs', w.cells? 0 (a.add (i * P.cellsOf e)) (P.cellsOf e) = some cs' ∧ d.K w y cs') ∧ ok y) len (fun i hi => by
      obtain ⟨cs', h1, h2⟩ := hx i (by omega)
      obtain ⟨y, hk, ho⟩ := hE h2
      exact ⟨y, ⟨cs', h1, hk⟩, ho⟩)
    subst hyl
    refine ⟨ys, ⟨some a, m, rfl, hl, rfl, Nat.le_trans hl (by unfold maxLen at hm; exact hm), fun _ => ⟨a, rfl, fun j p hp => ?_⟩⟩, Nat.le_trans hl hm, fun y hmem => ?_⟩
    · obtain ⟨⟨cs', h1, hk⟩, _⟩ := hy j p hp
      obtain ⟨_, hlen, hcell⟩ := World.cells?_some h1
      rw [ce] at hlen hcell
      refine ⟨cs', hlen, hk, fun i u hu => ?_⟩
      have hi : i < d.sz := by
        rw [← hlen]
        exact (List.getElem?_eq_some_iff.1 hu).1
      have := hcell i hi
      rw [Go.Deep.add_add] at this
      rw [this, hu]
    · obtain ⟨i, hi⟩ := List.getElem?_of_mem hmem
      exact (hy i y hi).2
end
theorem opn_L22 {H : Type} {enc : TypeId × Value → H} {w : World} {held : Bool} {fuel : Nat} {cs : List Value} {x : DataW H × List MemPlace} (h : DataW.trod enc Try.prog w 0 (fun _ => true) held fuel 22 cs = some x) :
    ∃ y : List Int, (Kd.slice 2 (Kd.int .i64)).K w y cs ∧ y.length ≤ maxLen ∧ ∀ y0 ∈ y, (Lit.int .i64 y0).wf = true :=
  opn_slice (Kd.int .i64) (fun y0 => (Lit.int .i64 y0).wf = true) Try.underlying22 (show Try.prog.cellsOf 2 = _ by kernel_rfl) (fun h => (opn_int Try.underlying2) h) h
theorem opn_L23 {H : Type} {enc : TypeId × Value → H} {w : World} {held : Bool} {fuel : Nat} {cs : List Value} {x : DataW H × List MemPlace} (h : DataW.trod enc Try.prog w 0 (fun _ => true) held fuel 23 cs = some x) :
    ∃ y : List (List Int), (Kd.slice 22 (Kd.slice 2 (Kd.int .i64))).K w y cs ∧ y.length ≤ maxLen ∧ ∀ y0 ∈ y, (y0.length ≤ maxLen ∧ ∀ y1 ∈ y0, (Lit.int .i64 y1).wf = true) :=
  opn_slice (Kd.slice 2 (Kd.int .i64)) (fun y0 => (y0.length ≤ maxLen ∧ ∀ y1 ∈ y0, (Lit.int .i64 y1).wf = true)) Try.underlying23 (show Try.prog.cellsOf 22 = _ by kernel_rfl) (fun h => opn_L22 h) h
theorem opn_S25 {H : Type} {enc : TypeId × Value → H} {w : World} {held : Bool} {fuel : Nat} {cs : List Value} {x : DataW H × List MemPlace} (h : DataW.trod enc Try.prog w 0 (fun _ => true) held fuel 25 cs = some x) :
    ∃ y : S25, k25.K w y cs ∧ y.f0.size ≤ maxLen ∧ (y.f1.length ≤ maxLen ∧ ∀ y0 ∈ y.f1, (Lit.int .i64 y0).wf = true) ∧ (y.f2.length ≤ maxLen ∧ ∀ y0 ∈ y.f2, (Lit.int .i64 y0).wf = true) ∧ (Lit.int .i64 y.f3).wf = true ∧ (Lit.int .i64 y.f4).wf = true ∧ (y.f5.length ≤ maxLen ∧ ∀ y0 ∈ y.f5, (y0.length ≤ maxLen ∧ ∀ y1 ∈ y0, (Lit.int .i64 y1).wf = true)) := by
  obtain ⟨xs, n, _, _, hl, hlen, hf⟩ := DataW.trod_struct Try.underlying25 h
  rw [show Try.prog.cellsOf 25 = 6 from by kernel_rfl] at hl
  obtain ⟨c0, t0, rfl, hl0⟩ := len_cons hl
  obtain ⟨c1, t1, rfl, hl1⟩ := len_cons hl0
  obtain ⟨c2, t2, rfl, hl2⟩ := len_cons hl1
  obtain ⟨c3, t3, rfl, hl3⟩ := len_cons hl2
  obtain ⟨c4, t4, rfl, hl4⟩ := len_cons hl3
  obtain ⟨c5, t5, rfl, hl5⟩ := len_cons hl4
  obtain rfl := List.eq_nil_of_length_eq_zero hl5
  have h0 := hf 0 _ rfl
  rw [List.getElem?_eq_getElem (show 0 < xs.length by rw [hlen]; decide)] at h0
  obtain ⟨y0, k0, w0⟩ := (opn_string Try.underlying9) (show DataW.trod enc Try.prog w 0 (fun _ => true) held n 9 [c0] = some _ from by simpa [show Try.prog.cellsOf 9 = 1 from by kernel_rfl] using h0)
  have h1 := hf 1 _ rfl
  rw [List.getElem?_eq_getElem (show 1 < xs.length by rw [hlen]; decide)] at h1
  obtain ⟨y1, k1, w1⟩ := opn_L22 (show DataW.trod enc Try.prog w 0 (fun _ => true) held n 22 [c1] = some _ from by simpa [show Try.prog.cellsOf 22 = 1 from by kernel_rfl] using h1)
  have h2 := hf 2 _ rfl
  rw [List.getElem?_eq_getElem (show 2 < xs.length by rw [hlen]; decide)] at h2
  obtain ⟨y2, k2, w2⟩ := opn_L22 (show DataW.trod enc Try.prog w 0 (fun _ => true) held n 22 [c2] = some _ from by simpa [show Try.prog.cellsOf 22 = 1 from by kernel_rfl] using h2)
  have h3 := hf 3 _ rfl
  rw [List.getElem?_eq_getElem (show 3 < xs.length by rw [hlen]; decide)] at h3
  obtain ⟨y3, k3, w3⟩ := (opn_int Try.underlying2) (show DataW.trod enc Try.prog w 0 (fun _ => true) held n 2 [c3] = some _ from by simpa [show Try.prog.cellsOf 2 = 1 from by kernel_rfl] using h3)
  have h4 := hf 4 _ rfl
  rw [List.getElem?_eq_getElem (show 4 < xs.length by rw [hlen]; decide)] at h4
  obtain ⟨y4, k4, w4⟩ := (opn_int Try.underlying2) (show DataW.trod enc Try.prog w 0 (fun _ => true) held n 2 [c4] = some _ from by simpa [show Try.prog.cellsOf 2 = 1 from by kernel_rfl] using h4)
  have h5 := hf 5 _ rfl
  rw [List.getElem?_eq_getElem (show 5 < xs.length by rw [hlen]; decide)] at h5
  obtain ⟨y5, k5, w5⟩ := opn_L23 (show DataW.trod enc Try.prog w 0 (fun _ => true) held n 23 [c5] = some _ from by simpa [show Try.prog.cellsOf 23 = 1 from by kernel_rfl] using h5)
  exact ⟨⟨y0, y1, y2, y3, y4, y5⟩, ⟨[c0], [c1, c2, c3, c4, c5], rfl, k0, ⟨[c1], [c2, c3, c4, c5], rfl, k1, ⟨[c2], [c3, c4, c5], rfl, k2, ⟨[c3], [c4, c5], rfl, k3, ⟨[c4], [c5], rfl, k4, k5⟩⟩⟩⟩⟩, w0, w1, w2, w3, w4, w5⟩
theorem opn_S59 {H : Type} {enc : TypeId × Value → H} {w : World} {held : Bool} {fuel : Nat} {cs : List Value} {x : DataW H × List MemPlace} (h : DataW.trod enc Try.prog w 0 (fun _ => true) held fuel 59 cs = some x) :
    ∃ y : S59, k59.K w y cs ∧ (Lit.int .i64 y.f0).wf = true ∧ (Lit.int .i64 y.f1).wf = true ∧ (Lit.int .i64 y.f2).wf = true ∧ (Lit.int .i64 y.f3).wf = true ∧ (Lit.int .i64 y.f4).wf = true ∧ (y.f5.length ≤ maxLen ∧ ∀ y0 ∈ y.f5, (y0.length ≤ maxLen ∧ ∀ y1 ∈ y0, (Lit.int .i64 y1).wf = true)) ∧ (Lit.int .i64 y.f6).wf = true := by
  obtain ⟨xs, n, _, _, hl, hlen, hf⟩ := DataW.trod_struct Try.underlying59 h
  rw [show Try.prog.cellsOf 59 = 7 from by kernel_rfl] at hl
  obtain ⟨c0, t0, rfl, hl0⟩ := len_cons hl
  obtain ⟨c1, t1, rfl, hl1⟩ := len_cons hl0
  obtain ⟨c2, t2, rfl, hl2⟩ := len_cons hl1
  obtain ⟨c3, t3, rfl, hl3⟩ := len_cons hl2
  obtain ⟨c4, t4, rfl, hl4⟩ := len_cons hl3
  obtain ⟨c5, t5, rfl, hl5⟩ := len_cons hl4
  obtain ⟨c6, t6, rfl, hl6⟩ := len_cons hl5
  obtain rfl := List.eq_nil_of_length_eq_zero hl6
  have h0 := hf 0 _ rfl
  rw [List.getElem?_eq_getElem (show 0 < xs.length by rw [hlen]; decide)] at h0
  obtain ⟨y0, k0, w0⟩ := (opn_int Try.underlying2) (show DataW.trod enc Try.prog w 0 (fun _ => true) held n 2 [c0] = some _ from by simpa [show Try.prog.cellsOf 2 = 1 from by kernel_rfl] using h0)
  have h1 := hf 1 _ rfl
  rw [List.getElem?_eq_getElem (show 1 < xs.length by rw [hlen]; decide)] at h1
  obtain ⟨y1, k1, w1⟩ := (opn_int Try.underlying2) (show DataW.trod enc Try.prog w 0 (fun _ => true) held n 2 [c1] = some _ from by simpa [show Try.prog.cellsOf 2 = 1 from by kernel_rfl] using h1)
  have h2 := hf 2 _ rfl
  rw [List.getElem?_eq_getElem (show 2 < xs.length by rw [hlen]; decide)] at h2
  obtain ⟨y2, k2, w2⟩ := (opn_int Try.underlying2) (show DataW.trod enc Try.prog w 0 (fun _ => true) held n 2 [c2] = some _ from by simpa [show Try.prog.cellsOf 2 = 1 from by kernel_rfl] using h2)
  have h3 := hf 3 _ rfl
  rw [List.getElem?_eq_getElem (show 3 < xs.length by rw [hlen]; decide)] at h3
  obtain ⟨y3, k3, w3⟩ := (opn_int Try.underlying2) (show DataW.trod enc Try.prog w 0 (fun _ => true) held n 2 [c3] = some _ from by simpa [show Try.prog.cellsOf 2 = 1 from by kernel_rfl] using h3)
  have h4 := hf 4 _ rfl
  rw [List.getElem?_eq_getElem (show 4 < xs.length by rw [hlen]; decide)] at h4
  obtain ⟨y4, k4, w4⟩ := (opn_int Try.underlying2) (show DataW.trod enc Try.prog w 0 (fun _ => true) held n 2 [c4] = some _ from by simpa [show Try.prog.cellsOf 2 = 1 from by kernel_rfl] using h4)
  have h5 := hf 5 _ rfl
  rw [List.getElem?_eq_getElem (show 5 < xs.length by rw [hlen]; decide)] at h5
  obtain ⟨y5, k5, w5⟩ := opn_L23 (show DataW.trod enc Try.prog w 0 (fun _ => true) held n 23 [c5] = some _ from by simpa [show Try.prog.cellsOf 23 = 1 from by kernel_rfl] using h5)
  have h6 := hf 6 _ rfl
  rw [List.getElem?_eq_getElem (show 6 < xs.length by rw [hlen]; decide)] at h6
  obtain ⟨y6, k6, w6⟩ := (opn_int Try.underlying2) (show DataW.trod enc Try.prog w 0 (fun _ => true) held n 2 [c6] = some _ from by simpa [show Try.prog.cellsOf 2 = 1 from by kernel_rfl] using h6)
  exact ⟨⟨y0, y1, y2, y3, y4, y5, y6⟩, ⟨[c0], [c1, c2, c3, c4, c5, c6], rfl, k0, ⟨[c1], [c2, c3, c4, c5, c6], rfl, k1, ⟨[c2], [c3, c4, c5, c6], rfl, k2, ⟨[c3], [c4, c5, c6], rfl, k3, ⟨[c4], [c5, c6], rfl, k4, ⟨[c5], [c6], rfl, k5, k6⟩⟩⟩⟩⟩⟩, w0, w1, w2, w3, w4, w5, w6⟩
end Go.Proofs.Ytinlejhffokbaaa.P
end

section
namespace Go.Proofs.Ytinlejhffokbaaa.P
open Go.RowKit Go.Proofs.Ytinlejhffokbaaa.P Go.Proofs.YtinlejhffokbaaaW.PrintWords Go.Proofs.YtinlejhffokbaaaW.PrintLast Go.Proofs.YtinlejhffokbaaaW.PrintMore
set_option linter.unusedVariables false
set_option linter.unusedSimpArgs false
theorem Ev.succ {α : Type} {g : Nat → Option α} {r : α} (h : Ev (fun k => g (k + 1)) r) : Ev g r := Ev.step (f := fun k => g (k + 1)) (fun _ => rfl) h
theorem Ev.ite_pos {α : Type} {c : Prop} [Decidable c] {f g : Nat → Option α} {r : α} (hc : c) (h : Ev f r) : Ev (fun k => if c then f k else g k) r := Ev.congr (fun _ => if_pos hc) h
theorem Ev.ite_neg {α : Type} {c : Prop} [Decidable c] {f g : Nat → Option α} {r : α} (hc : ¬ c) (h : Ev g r) : Ev (fun k => if c then f k else g k) r := Ev.congr (fun _ => if_neg hc) h
theorem Ev.bindc {α β : Type} {o : Option α} {f : Nat → α → Option β} {a : α} {r : β} (ho : o = some a) (h : Ev (fun k => f k a) r) : Ev (fun k => o.bind (f k)) r := Ev.congr (fun _ => by rw [ho]; rfl) h
theorem Ev.konst {α : Type} {o : Option α} {r : α} (h : o = some r) : Ev (fun _ => o) r := ⟨0, fun _ _ => h⟩
theorem Ev.both {α : Type} {g : Nat → Option α} {r q : α} (h : Ev g r) (h' : Ev g q) : r = q := by
  obtain ⟨a, ha⟩ := h
  obtain ⟨b, hb⟩ := h'
  have h1 := ha (max a b) (Nat.le_max_left _ _)
  have h2 := hb (max a b) (Nat.le_max_right _ _)
  rw [h1] at h2
  exact Option.some.inj h2
theorem Ev.cast {α : Type} {g : Nat → Option α} {r q : α} (h : Ev g r) (e : r = q) : Ev g q := e ▸ h
theorem Ev.out {α : Type} {g : Nat → Option α} {r : α} (h : Ev g r) : ∃ k, g k = some r := h.rounds

/-- A sum, a difference that needs no wrap. -/
theorem w64 {x : Int} (h0 : -9223372036854775808 ≤ x) (h1 : x ≤ 9223372036854775807) : wrap64 x = x := by unfold wrap64; omega
theorem mn_eq (a b : Int) : mn a b = min a b := by unfold mn; split <;> omega
theorem mx_eq (a b : Int) : mx a b = max a b := by unfold mx; split <;> omega
theorem wf64 {x : Int} (h : (Lit.int .i64 x).wf = true) : -9223372036854775808 ≤ x ∧ x ≤ 9223372036854775807 := by
  simp [Lit.wf, IntKind.min, IntKind.max, IntKind.signed, IntKind.bits] at h
  omega
theorem set_at {l : List Int} {i : Nat} {v : Int} {m : List Int} (h : i < l.length) (e : l.take i = m) : (l.set i v).take (i + 1) = m ++ [v] := by
  rw [List.take_succ_eq_append_getElem (by simpa using h)]
  simp [List.take_set_of_le, e]
theorem rd_at {l : List Int} {i : Nat} (h : i < l.length) : rd l (i : Int) = l[i] := by simp [rd, h]

theorem toInt64S_l0 (l : List Int) (hl : l.length ≤ 9223372036854775807) : ∀ (d i : Nat) (m : List Int), l.length - i = d → i ≤ l.length → m.length = l.length → m.take i = l.take i → Ev (fun k => laws_toInt64S.l0 k l m i) l := by
  intro d
  induction d with
  | zero =>
    intro i m hd hi hm ht
    have : i = l.length := by omega
    subst this
    refine Ev.succ ?_
    simp only [laws_toInt64S.l0]
    refine Ev.ite_neg (by omega) ?_
    rw [List.take_of_length_le (by omega), List.take_of_length_le (Nat.le_refl _)] at ht
    rw [ht]
    exact Ev.now _
  | succ d ih =>
    intro i m hd hi hm ht
    refine Ev.succ ?_
    simp only [laws_toInt64S.l0]
    refine Ev.ite_pos (by omega) ?_
    refine Ev.ite_pos (by omega) ?_
    refine Ev.ite_pos (by omega) ?_
    rw [w64 (x := (i : Int) + 1) (by omega) (by omega), rd_at (show i < l.length by omega), Int.toNat_natCast]
    have := ih (i + 1) (m.set i l[i]) (by omega) (by omega) (by simpa using hm) (by
      rw [set_at (by omega) ht, ← List.take_succ_eq_append_getElem (by omega)])
    simpa using this
theorem toInt64S_ev (l : List Int) (h : l.length ≤ 35184372088832) : Ev (fun k => laws_toInt64S.f k l) l := by
  unfold laws_toInt64S.f
  refine Ev.ite_pos (by omega) ?_
  refine Ev.ite_pos (by omega) ?_
  exact toInt64S_l0 l (by omega) l.length 0 _ (by omega) (by omega) (by simp) (by simp)

theorem eqInt64S_l0 (a b : List Int) (hl : a.length ≤ 9223372036854775807) (hab : a.length = b.length) : ∀ (d i : Nat), a.length - i = d → i ≤ a.length → a.take i = b.take i → Ev (fun k => laws_eqInt64S.l0 k a b i) (decide (a = b)) := by
  intro d
  induction d with
  | zero =>
    intro i hd hi ht
    refine Ev.succ ?_
    simp only [laws_eqInt64S.l0]
    refine Ev.ite_neg (by omega) ?_
    rw [List.take_of_length_le (by omega), List.take_of_length_le (by omega)] at ht
    simpa [ht] using Ev.now true
  | succ d ih =>
    intro i hd hi ht
    refine Ev.succ ?_
    simp only [laws_eqInt64S.l0]
    refine Ev.ite_pos (by omega) ?_
    refine Ev.ite_pos (by omega) ?_
    refine Ev.ite_pos (by omega) ?_
    by_cases he : rd a i = rd b i
    · refine Ev.ite_pos he ?_
      rw [w64 (x := (i : Int) + 1) (by omega) (by omega)]
      rw [rd_at (show i < a.length by omega), rd_at (show i < b.length by omega)] at he
      have := ih (i + 1) (by omega) (by omega) (by
        rw [List.take_succ_eq_append_getElem (by omega), List.take_succ_eq_append_getElem (by omega), ht, he])
      simpa using this
    · refine Ev.ite_neg he ?_
      have : ¬ a = b := fun e => he (by rw [e])
      simpa [this] using Ev.now false
theorem eqInt64S_ev (a b : List Int) (hl : a.length ≤ 9223372036854775807) : Ev (fun k => laws_eqInt64S.f k a b) (decide (a = b)) := by
  unfold laws_eqInt64S.f
  by_cases h : a.length = b.length
  · refine Ev.ite_pos (by omega) ?_
    exact eqInt64S_l0 a b hl h a.length 0 (by omega) (by omega) (by simp)
  · refine Ev.ite_neg (by omega) ?_
    have : ¬ a = b := fun e => h (by rw [e])
    simpa [this] using Ev.now false
theorem eqInt64S_self (a : List Int) (hl : a.length ≤ 9223372036854775807) : Ev (fun k => laws_eqInt64S.f k a a) true := by simpa using eqInt64S_ev a a hl

/-- The marks from v on: n of them. -/
def marks : Nat → Int → List Int
  | 0, _ => []
  | n + 1, v => v :: marks n (v + 1)
theorem marks_length : ∀ n v, (marks n v).length = n
  | 0, _ => rfl
  | n + 1, v => by simp [marks, marks_length n]
theorem marks_get : ∀ n v i, i < n → (marks n v)[i]? = some (v + i)
  | 0, _, i, h => by omega
  | n + 1, v, 0, _ => by simp [marks]
  | n + 1, v, i + 1, h => by
    simp only [marks, List.getElem?_cons_succ]
    rw [marks_get n (v + 1) i (by omega)]
    congr 1
    omega
theorem markInt64S_l0 (n : Nat) (v : Int) (hn : n ≤ 4611686018427387904) (h0 : 0 ≤ v) (hv : v ≤ 4611686018427387903) : ∀ (d i : Nat) (l : List Int), n - i = d → i ≤ n → l.length = n → (∀ j, j < i → l[j]? = some (v + j)) →
    Ev (fun k => laws_markInt64S.l0 k l (v + i) i) (v + n, marks n v) := by
  intro d
  induction d with
  | zero =>
    intro i l hd hi hl hj
    have : i = n := by omega
    subst this
    refine Ev.succ ?_
    simp only [laws_markInt64S.l0]
    refine Ev.ite_neg (by omega) ?_
    have : l = marks i v := by
      refine List.ext_getElem? fun j => ?_
      rcases Nat.lt_or_ge j i with h | h
      · rw [hj j h, marks_get i v j h]
      · rw [List.getElem?_eq_none (by omega), List.getElem?_eq_none (by rw [marks_length]; omega)]
    rw [this]
    exact Ev.now _
  | succ d ih =>
    intro i l hd hi hl hj
    refine Ev.succ ?_
    simp only [laws_markInt64S.l0]
    refine Ev.ite_pos (by omega) ?_
    refine Ev.ite_pos (by omega) ?_
    rw [w64 (x := (i : Int) + 1) (by omega) (by omega), w64 (x := v + (i : Int) + 1) (by omega) (by omega), Int.toNat_natCast]
    have := ih (i + 1) (l.set i (v + i)) (by omega) (by omega) (by simpa using hl) (fun j hj' => by
      rcases Nat.lt_or_ge j i with h | h
      · rw [List.getElem?_set_ne (by omega), hj j h]
      · have : j = i := by omega
        subst this
        rw [List.getElem?_set_self (by omega)])
    simpa [Int.add_assoc] using this
theorem markInt64S_ev (l : List Int) (v : Int) (hn : l.length ≤ 4611686018427387904) (h0 : 0 ≤ v) (hv : v ≤ 4611686018427387903) : Ev (fun k => laws_markInt64S.f k l v) (v + l.length, marks l.length v) := by
  unfold laws_markInt64S.f
  have := markInt64S_l0 l.length v hn h0 hv l.length 0 l (by omega) (by omega) rfl (fun j hj => by omega)
  simpa using this
theorem heldInt64S_l0 (n : Nat) (v : Int) (hn : n ≤ 4611686018427387904) (h0 : 0 ≤ v) (hv : v ≤ 4611686018427387903) : ∀ (d i : Nat), n - i = d → i ≤ n →
    Ev (fun k => laws_heldInt64S.l0 k (marks n v) (v + i) i) (v + n) := by
  intro d
  induction d with
  | zero =>
    intro i hd hi
    have : i = n := by omega
    subst this
    refine Ev.succ ?_
    simp only [laws_heldInt64S.l0]
    refine Ev.ite_neg (by rw [marks_length]; omega) ?_
    exact Ev.now _
  | succ d ih =>
    intro i hd hi
    refine Ev.succ ?_
    simp only [laws_heldInt64S.l0]
    refine Ev.ite_pos (by rw [marks_length]; omega) ?_
    refine Ev.ite_pos (by omega) ?_
    refine Ev.ite_pos (by
      have h := marks_get n v i (by omega)
      simp only [rd, Int.toNat_natCast, List.getD_eq_getElem?_getD, h, Option.getD_some]) ?_
    rw [w64 (x := (i : Int) + 1) (by omega) (by omega), w64 (x := v + (i : Int) + 1) (by omega) (by omega)]
    have := ih (i + 1) (by omega) (by omega)
    simpa [Int.add_assoc] using this
theorem heldInt64S_ev (n : Nat) (v : Int) (hn : n ≤ 4611686018427387904) (h0 : 0 ≤ v) (hv : v ≤ 4611686018427387903) : Ev (fun k => laws_heldInt64S.f k (marks n v) v) (v + n) := by
  unfold laws_heldInt64S.f
  have := heldInt64S_l0 n v hn h0 hv n 0 (by omega) (by omega)
  simpa using this
theorem Ev.and {α : Type} {g : Nat → Option α} {r : α} {P : Nat → Prop} (h : Ev g r) (h' : ∃ K, ∀ k, K ≤ k → P k) : ∃ K, ∀ k, K ≤ k → (g k = some r ∧ P k) := by
  obtain ⟨a, ha⟩ := h
  obtain ⟨b, hb⟩ := h'
  exact ⟨max a b, fun k hk => ⟨ha k (Nat.le_trans (Nat.le_max_left _ _) hk), hb k (Nat.le_trans (Nat.le_max_right _ _) hk)⟩⟩
theorem impl_abs_eq (a : Int) (h0 : -9223372036854775807 ≤ a) (h1 : a ≤ 9223372036854775807) : impl_abs.f a = some (max a (-a)) := by
  unfold impl_abs.f
  rw [w64 (x := -a) (by omega) (by omega), mx_eq]
def idxM (s : List Int) (t : Int) : Nat → Nat → Int
  | 0, _ => -1
  | d + 1, i => if rd s i = t then (i : Int) else idxM s t d (i + 1)
theorem idxM_bound (s : List Int) (t : Int) : ∀ d i, -1 ≤ idxM s t d i ∧ idxM s t d i ≤ ((i + d : Nat) : Int) := by
  intro d
  induction d with
  | zero => intro i; simp only [idxM]; omega
  | succ d ih =>
    intro i
    have := ih (i + 1)
    simp only [idxM]
    split <;> omega
theorem slices_Index_l0 (s : List Int) (t : Int) (hl : s.length ≤ 1048576) : ∀ (d i : Nat), s.length - i = d → Ev (fun k => slices_Index_int64_int64.l0 k s t (s.length : Int) i) (idxM s t d i) := by
  intro d
  induction d with
  | zero =>
    intro i hd
    refine Ev.succ ?_
    simp only [slices_Index_int64_int64.l0]
    exact Ev.ite_neg (by omega) (Ev.now _)
  | succ d ih =>
    intro i hd
    refine Ev.succ ?_
    simp only [slices_Index_int64_int64.l0]
    rw [w64 (x := (i : Int) + 1) (by omega) (by omega)]
    refine Ev.ite_pos (by omega) (Ev.ite_pos (by omega) (Ev.ite_pos (by omega) ?_))
    simp only [idxM]
    by_cases h : rd s i = t
    · rw [if_pos h]
      exact Ev.ite_pos h.symm (Ev.now _)
    · rw [if_neg h]
      exact Ev.ite_neg (fun e => h e.symm) (by simpa using ih (i + 1) (by omega))
def hasM (l : List Int) (v : Int) : Bool := l.any fun n => decide (n = v)
theorem idxM_has (s : List Int) (t : Int) : ∀ d i, s.length - i = d → decide (idxM s t d i ≥ 0) = hasM (s.drop i) t := by
  intro d
  induction d with
  | zero =>
    intro i hd
    rw [List.drop_of_length_le (by omega)]
    simp [idxM, hasM]
  | succ d ih =>
    intro i hd
    have hi : i < s.length := by omega
    by_cases h : rd s i = t
    · have e : idxM s t (d + 1) i = (i : Int) := by
        simp only [idxM]
        rw [if_pos h]
      rw [e, List.drop_eq_getElem_cons hi, ← rd_at hi, decide_eq_true (show (i : Int) ≥ 0 by omega)]
      simp [hasM, h]
    · have e : idxM s t (d + 1) i = idxM s t d (i + 1) := by
        simp only [idxM]
        rw [if_neg h]
      rw [e, ih (i + 1) (by omega), List.drop_eq_getElem_cons hi, ← rd_at hi]
      simp [hasM, h]
theorem slices_Contains_ev (s : List Int) (t : Int) (hl : s.length ≤ 1048576) : Ev (fun k => slices_Contains_int64_int64.f k s t) (hasM s t) := by
  unfold slices_Contains_int64_int64.f
  refine Ev.bind (a := idxM s t s.length 0) ?_ ?_
  · unfold slices_Index_int64_int64.f
    simpa using slices_Index_l0 s t hl s.length 0 (by omega)
  · refine Ev.cast (Ev.now _) ?_
    simpa using idxM_has s t s.length 0 (by omega)
def smallB (b : Int) : Bool := decide (97 ≤ b) && decide (b ≤ 122)
def digitB (b : Int) : Bool := decide (48 ≤ b) && decide (b ≤ 57)
def nameB (s : ByteArray) : Bool := decide (1 ≤ s.size) && decide (s.size ≤ 10) && smallB (bt s 0) && (List.range' 0 s.size).all fun j => smallB (bt s j) || digitB (bt s j)
theorem toList_nil (s : ByteArray) : s.toList = [] ↔ s.size = 0 := by
  rw [ByteArray.toList_eq, List.eq_nil_iff_length_eq_zero]
  exact Iff.rfl
theorem spec_l01Small_eq (b : Int) : spec_l01Small.f b = some (smallB b) := by
  unfold spec_l01Small.f smallB
  by_cases h : b ≥ 97
  · have : 97 ≤ b := h
    simp [this]
  · have : ¬ 97 ≤ b := h
    simp [this]
theorem spec_l01Digit_eq (b : Int) : spec_l01Digit.f b = some (digitB b) := by
  unfold spec_l01Digit.f digitB
  by_cases h : b ≥ 48
  · have : 48 ≤ b := h
    simp [this]
  · have : ¬ 48 ≤ b := h
    simp [this]
def bytesB (s : ByteArray) (i d : Nat) : Bool := (List.range' i d).all fun j => smallB (bt s j) || digitB (bt s j)
theorem bytesB_succ (s : ByteArray) (i d : Nat) : bytesB s i (d + 1) = ((smallB (bt s i) || digitB (bt s i)) && bytesB s (i + 1) d) := by
  simp [bytesB, List.range'_succ]
theorem spec_l01Name_l0 (s : ByteArray) (hs : s.size ≤ 10) : ∀ (d i : Nat), s.size - i = d → Ev (fun k => spec_l01Name.l0 k s i) (bytesB s i d) := by
  intro d
  induction d with
  | zero =>
    intro i hd
    refine Ev.succ ?_
    simp only [spec_l01Name.l0]
    refine Ev.ite_neg (by omega) ?_
    exact Ev.now _
  | succ d ih =>
    intro i hd
    refine Ev.succ ?_
    simp only [spec_l01Name.l0]
    refine Ev.ite_pos (by omega) ?_
    refine Ev.ite_pos (by omega) ?_
    refine Ev.bindc (spec_l01Small_eq _) ?_
    have ih' : Ev (fun k => spec_l01Name.l0 k s ((i : Int) + 1)) (bytesB s (i + 1) d) := by simpa using ih (i + 1) (by omega)
    rw [w64 (x := (i : Int) + 1) (by omega) (by omega), bytesB_succ]
    cases h : smallB (bt s i) with
    | true =>
      refine Ev.ite_pos rfl ?_
      simpa using ih'
    | false =>
      refine Ev.ite_neg (by decide) ?_
      refine Ev.bindc (spec_l01Digit_eq _) ?_
      cases h' : digitB (bt s i) with
      | true =>
        refine Ev.ite_pos rfl ?_
        simpa using ih'
      | false =>
        refine Ev.ite_neg (by decide) ?_
        simpa using Ev.now false
theorem spec_l01Name_ev (s : ByteArray) : Ev (fun k => spec_l01Name.f k s) (nameB s) := by
  unfold spec_l01Name.f nameB
  have hno : Ev (fun k => spec_l01Name.j0 k s true) false := by
    refine Ev.succ ?_
    simp only [spec_l01Name.j0]
    exact Ev.ite_pos (by simp) (Ev.now _)
  by_cases h0 : s.size = 0
  · refine Ev.ite_pos ((toList_nil s).2 h0) ?_
    exact Ev.cast hno (by simp [h0])
  refine Ev.ite_neg (fun h => h0 ((toList_nil s).1 h)) ?_
  by_cases h1 : s.size ≤ 10
  · refine Ev.ite_neg (by omega) ?_
    refine Ev.ite_pos (by omega) ?_
    refine Ev.bindc (spec_l01Small_eq _) ?_
    cases h : smallB (bt s 0) with
    | true =>
      refine Ev.succ ?_
      simp only [spec_l01Name.j0]
      refine Ev.ite_neg (by simp) ?_
      have := spec_l01Name_l0 s h1 s.size 0 (by omega)
      refine Ev.cast (by simpa using this) ?_
      have h2 : 1 ≤ s.size := by omega
      simp [bytesB, h1, h2]
    | false => exact Ev.cast hno (by simp)
  · refine Ev.ite_pos (by omega) ?_
    exact Ev.cast hno (by simp; omega)
theorem impl_onlyNameBytes_l0 (s : ByteArray) (hs : s.size ≤ 10) : ∀ (d i : Nat), s.size - i = d → Ev (fun k => impl_onlyNameBytes.l0 k s (s.size : Int) i) (bytesB s i d) := by
  intro d
  induction d with
  | zero =>
    intro i hd
    refine Ev.succ ?_
    simp only [impl_onlyNameBytes.l0]
    refine Ev.ite_neg (by omega) ?_
    exact Ev.now _
  | succ d ih =>
    intro i hd
    refine Ev.succ ?_
    simp only [impl_onlyNameBytes.l0]
    refine Ev.ite_pos (by omega) ?_
    refine Ev.ite_pos (by omega) ?_
    refine Ev.ite_pos (by omega) ?_
    have ih' : Ev (fun k => impl_onlyNameBytes.l0 k s (s.size : Int) ((i : Int) + 1)) (bytesB s (i + 1) d) := by simpa using ih (i + 1) (by omega)
    rw [w64 (x := (i : Int) + 1) (by omega) (by omega), bytesB_succ]
    have key : Ev (fun k => if bt s i < 48 then some false else if bt s i > 57 then some false else impl_onlyNameBytes.l0 k s (s.size : Int) ((i : Int) + 1)) (digitB (bt s i) && bytesB s (i + 1) d) := by
      by_cases a : bt s i < 48
      · refine Ev.ite_pos a ?_
        refine Ev.cast (Ev.now false) ?_
        have : ¬ 48 ≤ bt s i := by omega
        simp [digitB, this]
      refine Ev.ite_neg a ?_
      by_cases b : bt s i > 57
      · refine Ev.ite_pos b ?_
        refine Ev.cast (Ev.now false) ?_
        have : ¬ bt s i ≤ 57 := by omega
        simp [digitB, this]
      refine Ev.ite_neg b ?_
      refine Ev.cast ih' ?_
      have h1 : 48 ≤ bt s i := by omega
      have h2 : bt s i ≤ 57 := by omega
      simp [digitB, h1, h2]
    by_cases a : bt s i < 97
    · refine Ev.ite_pos a ?_
      refine Ev.cast key ?_
      have : ¬ 97 ≤ bt s i := by omega
      simp [smallB, this]
    refine Ev.ite_neg a ?_
    by_cases b : bt s i > 122
    · refine Ev.ite_pos b ?_
      refine Ev.cast key ?_
      have : ¬ bt s i ≤ 122 := by omega
      simp [smallB, this]
    refine Ev.ite_neg b ?_
    refine Ev.cast ih' ?_
    have h1 : 97 ≤ bt s i := by omega
    have h2 : bt s i ≤ 122 := by omega
    simp [smallB, h1, h2]
theorem impl_IsName_ev (s : ByteArray) : Ev (fun k => impl_IsName.f k s) (nameB s) := by
  unfold impl_IsName.f nameB
  by_cases h0 : s.size = 0
  · refine Ev.ite_pos (by omega) ?_
    exact Ev.cast (Ev.now false) (by simp [h0])
  refine Ev.ite_neg (by omega) ?_
  by_cases h1 : s.size ≤ 10
  · refine Ev.ite_neg (by omega) ?_
    refine Ev.ite_pos (by omega) ?_
    by_cases a : bt s 0 < 97
    · refine Ev.ite_pos a ?_
      refine Ev.cast (Ev.now false) ?_
      have : ¬ 97 ≤ bt s 0 := by omega
      simp [smallB, this]
    refine Ev.ite_neg a ?_
    by_cases b : bt s 0 > 122
    · refine Ev.ite_pos b ?_
      refine Ev.cast (Ev.now false) ?_
      have : ¬ bt s 0 ≤ 122 := by omega
      simp [smallB, this]
    refine Ev.ite_neg b ?_
    refine Ev.bind (a := bytesB s 0 s.size) ?_ ?_
    · unfold impl_onlyNameBytes.f
      simpa using impl_onlyNameBytes_l0 s h1 s.size 0 (by omega)
    · refine Ev.cast (Ev.now _) ?_
      have h2 : 1 ≤ s.size := by omega
      have h3 : 97 ≤ bt s 0 := by omega
      have h4 : bt s 0 ≤ 122 := by omega
      simp [bytesB, h1, h2, smallB, h3, h4]
  · refine Ev.ite_pos (by omega) ?_
    exact Ev.cast (Ev.now false) (by simp; omega)
def incB (l : List Int) (i d : Nat) : Bool := (List.range' i d).all fun j => decide (rd l ((j : Int) - 1) < rd l j)
theorem impl_increasing_l0 (l : List Int) (hl : l.length ≤ 9223372036854775807) : ∀ (d i : Nat), l.length - i = d → 1 ≤ i → Ev (fun k => impl_increasing.l0 k l i) (incB l i d) := by
  intro d
  induction d with
  | zero =>
    intro i hd hi
    refine Ev.succ ?_
    simp only [impl_increasing.l0]
    refine Ev.ite_neg (by omega) ?_
    exact Ev.now _
  | succ d ih =>
    intro i hd hi
    refine Ev.succ ?_
    simp only [impl_increasing.l0]
    refine Ev.ite_pos (by omega) ?_
    refine Ev.ite_pos (by omega) ?_
    rw [w64 (x := (i : Int) - 1) (by omega) (by omega), w64 (x := (i : Int) + 1) (by omega) (by omega)]
    refine Ev.ite_pos (by omega) ?_
    refine Ev.ite_pos (by omega) ?_
    have hr : incB l i (d + 1) = (decide (rd l ((i : Int) - 1) < rd l i) && incB l (i + 1) d) := by
      simp [incB, List.range'_succ]
    rw [hr]
    by_cases hx : rd l i ≤ rd l ((i : Int) - 1)
    · refine Ev.ite_pos hx ?_
      refine Ev.cast (Ev.now false) ?_
      have : ¬ rd l ((i : Int) - 1) < rd l i := by omega
      simp [this]
    · refine Ev.ite_neg hx ?_
      have := ih (i + 1) (by omega) (by omega)
      refine Ev.cast (by simpa using this) ?_
      have : rd l ((i : Int) - 1) < rd l i := by omega
      simp [this]
theorem spec_l00In_eq (n a b : Int) : spec_l00In.f n a b = some (decide (a ≤ n) && decide (n ≤ b)) := by
  unfold spec_l00In.f
  by_cases h : n ≥ a
  · have : a ≤ n := h
    simp [this]
  · have : ¬ a ≤ n := h
    simp [this]
def rgB (l : List Int) (a b : Int) (i d : Nat) : Bool := (List.range' i d).all fun j => decide (a ≤ rd l j) && decide (rd l j ≤ b) && (decide (j = 0) || decide (rd l ((j : Int) - 1) < rd l j))
theorem spec_l00Rises_l0 (l : List Int) (a b : Int) (hl : l.length ≤ 9223372036854775807) : ∀ (d i : Nat), l.length - i = d → i ≤ l.length → Ev (fun k => spec_l00Rises.l0 k l a b i) (rgB l a b i d) := by
  intro d
  induction d with
  | zero =>
    intro i hd hi
    refine Ev.succ ?_
    simp only [spec_l00Rises.l0]
    refine Ev.ite_neg (by omega) ?_
    exact Ev.now _
  | succ d ih =>
    intro i hd hi
    refine Ev.succ ?_
    simp only [spec_l00Rises.l0]
    refine Ev.ite_pos (by omega) ?_
    refine Ev.ite_pos (by omega) ?_
    refine Ev.bindc (spec_l00In_eq _ _ _) ?_
    have hr : rgB l a b i (d + 1) = ((decide (a ≤ rd l i) && decide (rd l i ≤ b) && (decide (i = 0) || decide (rd l ((i : Int) - 1) < rd l i))) && rgB l a b (i + 1) d) := by
      simp [rgB, List.range'_succ]
    rw [hr]
    have ih' := ih (i + 1) (by omega) (by omega)
    rw [w64 (x := (i : Int) + 1) (by omega) (by omega)]
    have ih2 : Ev (fun k => spec_l00Rises.l0 k l a b ((i : Int) + 1)) (rgB l a b (i + 1) d) := by simpa using ih'
    cases hq : (decide (a ≤ rd l i) && decide (rd l i ≤ b)) with
    | true =>
      refine Ev.ite_pos rfl ?_
      by_cases h0 : i = 0
      · refine Ev.ite_neg (by omega) ?_
        refine Ev.cast ih2 ?_
        simp [h0]
      · refine Ev.ite_pos (by omega) ?_
        rw [w64 (x := (i : Int) - 1) (by omega) (by omega)]
        refine Ev.ite_pos (by omega) ?_
        refine Ev.ite_pos (by omega) ?_
        by_cases hx : rd l ((i : Int) - 1) ≥ rd l i
        · refine Ev.ite_pos hx ?_
          refine Ev.cast (Ev.now false) ?_
          have : ¬ rd l ((i : Int) - 1) < rd l i := by omega
          simp [h0, this]
        · refine Ev.ite_neg hx ?_
          refine Ev.cast ih2 ?_
          have : rd l ((i : Int) - 1) < rd l i := by omega
          simp [this]
    | false =>
      refine Ev.ite_neg (by decide) ?_
      refine Ev.cast (Ev.now false) ?_
      simp
def scaleB (l : List Int) : Bool := decide (5 ≤ l.length) && (rgB l 0 11 0 l.length && (rd l 0 == 0))
theorem inc_at {l : List Int} (h : incB l 1 (l.length - 1) = true) : ∀ (d i : Nat), i + d < l.length → rd l i ≤ rd l ((i + d : Nat) : Int) := by
  have hh : ∀ j : Nat, 1 ≤ j → j < l.length → rd l ((j : Int) - 1) < rd l j := by
    intro j h1 h2
    simp only [incB, List.all_eq_true, List.mem_range'_1, decide_eq_true_eq] at h
    exact h j (by omega)
  intro d
  induction d with
  | zero => intro i _; exact Int.le_refl _
  | succ d ih =>
    intro i hi
    have h1 := ih i (by omega)
    have h2 := hh (i + d + 1) (by omega) (by omega)
    have e : (((i + d + 1 : Nat) : Int) - 1) = ((i + d : Nat) : Int) := by omega
    rw [e] at h2
    have e2 : ((i + (d + 1) : Nat) : Int) = ((i + d + 1 : Nat) : Int) := by omega
    rw [e2]
    omega
theorem scale_key (l : List Int) (h5 : 5 ≤ l.length) (h0 : rd l 0 = 0) : rgB l 0 11 0 l.length = (incB l 1 (l.length - 1) && decide (rd l ((l.length : Int) - 1) < 12)) := by
  rw [Bool.eq_iff_iff]
  constructor
  · intro hh
    simp only [rgB, List.all_eq_true, List.mem_range'_1, Bool.and_eq_true, decide_eq_true_eq, Bool.or_eq_true] at hh
    simp only [Bool.and_eq_true, decide_eq_true_eq, incB, List.all_eq_true, List.mem_range'_1]
    refine ⟨fun j hj => ?_, ?_⟩
    · rcases (hh j (by omega)).2 with h | h
      · omega
      · exact h
    · have := (hh (l.length - 1) (by omega)).1
      have e : ((l.length - 1 : Nat) : Int) = (l.length : Int) - 1 := by omega
      rw [e] at this
      omega
  · intro hh
    rw [Bool.and_eq_true, decide_eq_true_eq] at hh
    have ha := inc_at hh.1
    have hi := hh.1
    simp only [incB, List.all_eq_true, List.mem_range'_1, decide_eq_true_eq] at hi
    simp only [rgB, List.all_eq_true, List.mem_range'_1, Bool.and_eq_true, decide_eq_true_eq, Bool.or_eq_true]
    intro j hj
    have h1 := ha j 0 (by omega)
    have h2 := ha (l.length - 1 - j) j (by omega)
    have e : ((j + (l.length - 1 - j) : Nat) : Int) = (l.length : Int) - 1 := by omega
    rw [e] at h2
    have e0 : ((0 + j : Nat) : Int) = (j : Int) := by omega
    have e1 : ((0 : Nat) : Int) = 0 := rfl
    rw [e0, e1, h0] at h1
    refine ⟨⟨h1, by omega⟩, ?_⟩
    by_cases hz : j = 0
    · exact .inl hz
    · exact .inr (hi j (by omega))
theorem impl_ValidScale_ev (l : List Int) (hl : l.length ≤ 9223372036854775807) : Ev (fun k => impl_ValidScale.f k l) (scaleB l) := by
  unfold impl_ValidScale.f scaleB
  by_cases h : 5 ≤ l.length
  · refine Ev.ite_pos (by omega) (Ev.ite_pos (by omega) ?_)
    by_cases h0 : rd l 0 = 0
    · refine Ev.ite_pos h0 ?_
      refine Ev.bind (a := incB l 1 (l.length - 1)) ?_ ?_
      · unfold impl_increasing.f
        simpa using impl_increasing_l0 l hl (l.length - 1) 1 (by omega) (by omega)
      · rw [scale_key l h h0, w64 (x := (l.length : Int) - 1) (by omega) (by omega)]
        cases g : incB l 1 (l.length - 1) with
        | true =>
          refine Ev.ite_pos rfl (Ev.ite_pos (by omega) (Ev.ite_pos (by omega) ?_))
          refine Ev.cast (Ev.now _) ?_
          simp [h, h0]
        | false =>
          refine Ev.ite_neg (by decide) ?_
          simpa using Ev.now false
    · refine Ev.ite_neg h0 ?_
      refine Ev.cast (Ev.now false) ?_
      simp [h0]
  · refine Ev.ite_neg (by omega) ?_
    simpa [h] using Ev.now false
def tn (a : Int) : Int := Int.tmod (wrap64 ((Int.tmod a 12) + 12)) 12
end Go.Proofs.Ytinlejhffokbaaa.P
end
