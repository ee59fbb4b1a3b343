/- Texts of this seat, merged: QSpecEditpath, Open, LEv, QLawsHeldint64S, QLawsMarkint64S, LCopy, LIn, LMin, LDropAt, LInP, LSInP, LPitches, LRdL, LWithin, LEdit. -/
import Derived.Deep.Slices
import Derived.WideShapes
import Derived.ChangeShapes
import Derived.ChangeMaps5
import Derived.ChangeSame
import Derived.Test.YtddhommmokdlnaaGEP1
import Derived.Test.YtddhommmokdlnaaGEP2
import Derived.Test.YtddhommmokdlnaaGEP3
import Derived.Test.YtddhommmokdlnaaGEP4
section
namespace Go.Proofs.Ytddhommmokdlnaa.P
open Go.RowKit Go.Proofs.YtddhommmokdlnaaW.PrintWords Go.Proofs.YtddhommmokdlnaaW.PrintLast Go.Proofs.YtddhommmokdlnaaW.PrintMore
attribute [local go_sem] max2_int min2_int max_two min_two max_three min_three max_four min_four   -- for this text's walks alone
set_option linter.unusedVariables false
set_option linter.unusedSimpArgs false

/-! ### spec_EditPath: function 41 -/
mutual
def spec_EditPath.l0 : Nat → List Int → List Int → Int → Int → List (List Int) → ByteArray → Int → Int → Option (ByteArray × Int)
  | 0, _, _, _, _, _, _, _, _ => none
  | k + 1, x0, x1, x2, x3, x11, x12, x13, x14 => if x13 < (x0.length : Int) then (spec_EditPath.j1 k x0 x1 x2 x3 x11 x12 x13 x14 true) else (spec_EditPath.j1 k x0 x1 x2 x3 x11 x12 x13 x14 (decide (x14 < (x1.length : Int))))
def spec_EditPath.j1 : Nat → List Int → List Int → Int → Int → List (List Int) → ByteArray → Int → Int → Bool → Option (ByteArray × Int)
  | 0, _, _, _, _, _, _, _, _, _ => none
  | k + 1, x0, x1, x2, x3, x11, x12, x13, x14, x38 => if x38 = true then (if 0 ≤ x13 then (if x13 < (x11.length : Int) then (if 0 ≤ x14 then (if x14 < ((rd_L1 x11 x13).length : Int) then (if x13 < (x0.length : Int) then (if x14 < (x1.length : Int) then (if (rd x0 x13) = (rd x1 x14) then (if 0 ≤ (wrap64 (x13 + 1)) then (if (wrap64 (x13 + 1)) < (x11.length : Int) then (if 0 ≤ (wrap64 (x14 + 1)) then (if (wrap64 (x14 + 1)) < ((rd_L1 x11 (wrap64 (x13 + 1))).length : Int) then (spec_EditPath.j2 k x0 x1 x2 x3 x11 x12 x13 x14 (rd (rd_L1 x11 x13) x14) ((rd (rd_L1 x11 (wrap64 (x13 + 1))) (wrap64 (x14 + 1))) == (rd (rd_L1 x11 x13) x14))) else (none)) else (none)) else (none)) else (none)) else (spec_EditPath.j2 k x0 x1 x2 x3 x11 x12 x13 x14 (rd (rd_L1 x11 x13) x14) false)) else (spec_EditPath.j2 k x0 x1 x2 x3 x11 x12 x13 x14 (rd (rd_L1 x11 x13) x14) false)) else (spec_EditPath.j2 k x0 x1 x2 x3 x11 x12 x13 x14 (rd (rd_L1 x11 x13) x14) false)) else (none)) else (none)) else (none)) else (none)) else (some (x12, 0))
def spec_EditPath.j2 : Nat → List Int → List Int → Int → Int → List (List Int) → ByteArray → Int → Int → Int → Bool → Option (ByteArray × Int)
  | 0, _, _, _, _, _, _, _, _, _, _ => none
  | k + 1, x0, x1, x2, x3, x11, x12, x13, x14, x15, x50 => if x50 = true then (if x12.size + 1 ≤ 9223372036854775807 then (spec_EditPath.l0 k x0 x1 x2 x3 x11 (x12 ++ (⟨#[61]⟩ : ByteArray)) (wrap64 (x13 + 1)) (wrap64 (x14 + 1))) else (none)) else (if x13 < (x0.length : Int) then (if x14 < (x1.length : Int) then (if 0 ≤ x13 then (if 0 ≤ x14 then (if (rd x0 x13) = (rd x1 x14) then (spec_EditPath.j3 k x0 x1 x2 x3 x11 x12 x13 x14 x15 false) else (if 0 ≤ (wrap64 (x13 + 1)) then (if (wrap64 (x13 + 1)) < (x11.length : Int) then (if 0 ≤ (wrap64 (x14 + 1)) then (if (wrap64 (x14 + 1)) < ((rd_L1 x11 (wrap64 (x13 + 1))).length : Int) then (spec_EditPath.j3 k x0 x1 x2 x3 x11 x12 x13 x14 x15 ((wrap64 ((rd (rd_L1 x11 (wrap64 (x13 + 1))) (wrap64 (x14 + 1))) + x2)) == x15)) else (none)) else (none)) else (none)) else (none))) else (none)) else (none)) else (spec_EditPath.j3 k x0 x1 x2 x3 x11 x12 x13 x14 x15 false)) else (spec_EditPath.j3 k x0 x1 x2 x3 x11 x12 x13 x14 x15 false))
def spec_EditPath.j3 : Nat → List Int → List Int → Int → Int → List (List Int) → ByteArray → Int → Int → Int → Bool → Option (ByteArray × Int)
  | 0, _, _, _, _, _, _, _, _, _, _ => none
  | k + 1, x0, x1, x2, x3, x11, x12, x13, x14, x15, x91 => if x91 = true then (if x12.size + 1 ≤ 9223372036854775807 then (spec_EditPath.l0 k x0 x1 x2 x3 x11 (x12 ++ (⟨#[120]⟩ : ByteArray)) (wrap64 (x13 + 1)) (wrap64 (x14 + 1))) else (none)) else (if x13 < (x0.length : Int) then (if 0 ≤ (wrap64 (x13 + 1)) then (if (wrap64 (x13 + 1)) < (x11.length : Int) then (if 0 ≤ x14 then (if x14 < ((rd_L1 x11 (wrap64 (x13 + 1))).length : Int) then (if (wrap64 ((rd (rd_L1 x11 (wrap64 (x13 + 1))) x14) + x3)) = x15 then (if x12.size + 1 ≤ 9223372036854775807 then (spec_EditPath.l0 k x0 x1 x2 x3 x11 (x12 ++ (⟨#[45]⟩ : ByteArray)) (wrap64 (x13 + 1)) x14) else (none)) else (if x12.size + 1 ≤ 9223372036854775807 then (spec_EditPath.l0 k x0 x1 x2 x3 x11 (x12 ++ (⟨#[43]⟩ : ByteArray)) x13 (wrap64 (x14 + 1))) else (none))) else (none)) else (none)) else (none)) else (none)) else (if x12.size + 1 ≤ 9223372036854775807 then (spec_EditPath.l0 k x0 x1 x2 x3 x11 (x12 ++ (⟨#[43]⟩ : ByteArray)) x13 (wrap64 (x14 + 1))) else (none)))
end
def spec_EditPath.f (k : Nat) (l0 : List Int) (l1 : List Int) (a2 : Int) (a3 : Int) : Option (ByteArray × Int) := (spec_l12Ask.f k l0 l1 a2 a3).bind fun t1074 => (if t1074 = 0 then ((spec_l12Edit.f k l0 l1 a2 a3).bind fun t1075 => (spec_EditPath.l0 k l0 l1 a2 a3 t1075 (⟨#[]⟩ : ByteArray) 0 0)) else (some ((⟨#[]⟩ : ByteArray), t1074)))
theorem spec_EditPath.mono_l : ∀ k, (∀ y0 y1 y2 y3 y4 y5 y6 y7, LeO (spec_EditPath.l0 k y0 y1 y2 y3 y4 y5 y6 y7) (spec_EditPath.l0 (k + 1) y0 y1 y2 y3 y4 y5 y6 y7)) ∧ (∀ y0 y1 y2 y3 y4 y5 y6 y7 y8, LeO (spec_EditPath.j1 k y0 y1 y2 y3 y4 y5 y6 y7 y8) (spec_EditPath.j1 (k + 1) y0 y1 y2 y3 y4 y5 y6 y7 y8)) ∧ (∀ y0 y1 y2 y3 y4 y5 y6 y7 y8 y9, LeO (spec_EditPath.j2 k y0 y1 y2 y3 y4 y5 y6 y7 y8 y9) (spec_EditPath.j2 (k + 1) y0 y1 y2 y3 y4 y5 y6 y7 y8 y9)) ∧ (∀ y0 y1 y2 y3 y4 y5 y6 y7 y8 y9, LeO (spec_EditPath.j3 k y0 y1 y2 y3 y4 y5 y6 y7 y8 y9) (spec_EditPath.j3 (k + 1) y0 y1 y2 y3 y4 y5 y6 y7 y8 y9))
  | 0 => ⟨fun _ _ _ _ _ _ _ _ r h => by simp [spec_EditPath.l0] at h, fun _ _ _ _ _ _ _ _ _ r h => by simp [spec_EditPath.j1] at h, fun _ _ _ _ _ _ _ _ _ _ r h => by simp [spec_EditPath.j2] at h, fun _ _ _ _ _ _ _ _ _ _ r h => by simp [spec_EditPath.j3] at h⟩
  | k + 1 => by
    obtain ⟨ih0, ih1, ih2, ih3⟩ := spec_EditPath.mono_l k
    refine ⟨?_, ?_, ?_, ?_⟩
    · intro y0 y1 y2 y3 y4 y5 y6 y7
      unfold spec_EditPath.l0
      repeat' first
      | (with_reducible exact ih0 _ _ _ _ _ _ _ _)
      | (with_reducible exact ih1 _ _ _ _ _ _ _ _ _)
      | (with_reducible exact ih2 _ _ _ _ _ _ _ _ _ _)
      | (with_reducible exact ih3 _ _ _ _ _ _ _ _ _ _)
      | (with_reducible exact spec_l12Ask.mono _ _ _ _ _)
      | (with_reducible exact spec_l12Edit.mono _ _ _ _ _)
      | (with_reducible exact LeO.refl _)
      | (with_reducible exact LeO.none _)
      | (with_reducible refine LeO.ite ?_ ?_)
      | (with_reducible refine LeO.bind ?_ (fun _ => ?_))
      | exact ih0 _ _ _ _ _ _ _ _
      | exact ih1 _ _ _ _ _ _ _ _ _
      | exact ih2 _ _ _ _ _ _ _ _ _ _
      | exact ih3 _ _ _ _ _ _ _ _ _ _
      | exact spec_l12Ask.mono _ _ _ _ _
      | exact spec_l12Edit.mono _ _ _ _ _
      | exact LeO.none _
      | refine LeO.ite ?_ ?_
      | refine LeO.bind ?_ (fun _ => ?_)
    · intro y0 y1 y2 y3 y4 y5 y6 y7 y8
      unfold spec_EditPath.j1
      repeat' first
      | (with_reducible exact ih0 _ _ _ _ _ _ _ _)
      | (with_reducible exact ih1 _ _ _ _ _ _ _ _ _)
      | (with_reducible exact ih2 _ _ _ _ _ _ _ _ _ _)
      | (with_reducible exact ih3 _ _ _ _ _ _ _ _ _ _)
      | (with_reducible exact spec_l12Ask.mono _ _ _ _ _)
      | (with_reducible exact spec_l12Edit.mono _ _ _ _ _)
      | (with_reducible exact LeO.refl _)
      | (with_reducible exact LeO.none _)
      | (with_reducible refine LeO.ite ?_ ?_)
      | (with_reducible refine LeO.bind ?_ (fun _ => ?_))
      | exact ih0 _ _ _ _ _ _ _ _
      | exact ih1 _ _ _ _ _ _ _ _ _
      | exact ih2 _ _ _ _ _ _ _ _ _ _
      | exact ih3 _ _ _ _ _ _ _ _ _ _
      | exact spec_l12Ask.mono _ _ _ _ _
      | exact spec_l12Edit.mono _ _ _ _ _
      | exact LeO.none _
      | refine LeO.ite ?_ ?_
      | refine LeO.bind ?_ (fun _ => ?_)
    · intro y0 y1 y2 y3 y4 y5 y6 y7 y8 y9
      unfold spec_EditPath.j2
      repeat' first
      | (with_reducible exact ih0 _ _ _ _ _ _ _ _)
      | (with_reducible exact ih1 _ _ _ _ _ _ _ _ _)
      | (with_reducible exact ih2 _ _ _ _ _ _ _ _ _ _)
      | (with_reducible exact ih3 _ _ _ _ _ _ _ _ _ _)
      | (with_reducible exact spec_l12Ask.mono _ _ _ _ _)
      | (with_reducible exact spec_l12Edit.mono _ _ _ _ _)
      | (with_reducible exact LeO.refl _)
      | (with_reducible exact LeO.none _)
      | (with_reducible refine LeO.ite ?_ ?_)
      | (with_reducible refine LeO.bind ?_ (fun _ => ?_))
      | exact ih0 _ _ _ _ _ _ _ _
      | exact ih1 _ _ _ _ _ _ _ _ _
      | exact ih2 _ _ _ _ _ _ _ _ _ _
      | exact ih3 _ _ _ _ _ _ _ _ _ _
      | exact spec_l12Ask.mono _ _ _ _ _
      | exact spec_l12Edit.mono _ _ _ _ _
      | exact LeO.none _
      | refine LeO.ite ?_ ?_
      | refine LeO.bind ?_ (fun _ => ?_)
    · intro y0 y1 y2 y3 y4 y5 y6 y7 y8 y9
      unfold spec_EditPath.j3
      repeat' first
      | (with_reducible exact ih0 _ _ _ _ _ _ _ _)
      | (with_reducible exact ih1 _ _ _ _ _ _ _ _ _)
      | (with_reducible exact ih2 _ _ _ _ _ _ _ _ _ _)
      | (with_reducible exact ih3 _ _ _ _ _ _ _ _ _ _)
      | (with_reducible exact spec_l12Ask.mono _ _ _ _ _)
      | (with_reducible exact spec_l12Edit.mono _ _ _ _ _)
      | (with_reducible exact LeO.refl _)
      | (with_reducible exact LeO.none _)
      | (with_reducible refine LeO.ite ?_ ?_)
      | (with_reducible refine LeO.bind ?_ (fun _ => ?_))
      | exact ih0 _ _ _ _ _ _ _ _
      | exact ih1 _ _ _ _ _ _ _ _ _
      | exact ih2 _ _ _ _ _ _ _ _ _ _
      | exact ih3 _ _ _ _ _ _ _ _ _ _
      | exact spec_l12Ask.mono _ _ _ _ _
      | exact spec_l12Edit.mono _ _ _ _ _
      | exact LeO.none _
      | refine LeO.ite ?_ ?_
      | refine LeO.bind ?_ (fun _ => ?_)
theorem spec_EditPath.mono : ∀ a0 a1 a2 a3 k, LeO (spec_EditPath.f k a0 a1 a2 a3) (spec_EditPath.f (k + 1) a0 a1 a2 a3) := by
  intro a0 a1 a2 a3 k
  obtain ⟨ih0, ih1, ih2, ih3⟩ := spec_EditPath.mono_l k
  unfold spec_EditPath.f
  repeat' first
      | (with_reducible exact ih0 _ _ _ _ _ _ _ _)
      | (with_reducible exact ih1 _ _ _ _ _ _ _ _ _)
      | (with_reducible exact ih2 _ _ _ _ _ _ _ _ _ _)
      | (with_reducible exact ih3 _ _ _ _ _ _ _ _ _ _)
      | (with_reducible exact spec_l12Ask.mono _ _ _ _ _)
      | (with_reducible exact spec_l12Edit.mono _ _ _ _ _)
      | (with_reducible exact LeO.refl _)
      | (with_reducible exact LeO.none _)
      | (with_reducible refine LeO.ite ?_ ?_)
      | (with_reducible refine LeO.bind ?_ (fun _ => ?_))
      | exact ih0 _ _ _ _ _ _ _ _
      | exact ih1 _ _ _ _ _ _ _ _ _
      | exact ih2 _ _ _ _ _ _ _ _ _ _
      | exact ih3 _ _ _ _ _ _ _ _ _ _
      | exact spec_l12Ask.mono _ _ _ _ _
      | exact spec_l12Edit.mono _ _ _ _ _
      | exact LeO.none _
      | refine LeO.ite ?_ ?_
      | refine LeO.bind ?_ (fun _ => ?_)
set_option maxHeartbeats 8000000 in
set_option maxRecDepth 100000 in
theorem spec_EditPath.calls (k : Nat) (A0 : Option Addr) (c0 : Nat) (l0 : List Int) (A1 : Option Addr) (c1 : Nat) (l1 : List Int) (a2 : Int) (a3 : Int) (r1 : ByteArray) (r2 : Int) (w : World) (hr0 : Kd.C (Kd.int .i64) w A0 l0.length l0) (hc0 : l0.length ≤ c0) (hr1 : Kd.C (Kd.int .i64) w A1 l1.length l1) (hc1 : l1.length ≤ c1) (h : spec_EditPath.f k l0 l1 a2 a3 = some (r1, r2)) :
    Calls Try.prog 41 #[.slice A0 l0.length c0, .slice A1 l1.length c1, .int .i64 a2, .int .i64 a3] w fun e w' => e = .returned (.tuple #[.string r1, .int .i64 r2]) ∧ Below w.heap.size w w' := by
  have HR0 := Aside0.mk hr0
  have HC0 := Aside0.mk hc0
  clear hr0 hc0
  have HR1 := Aside0.mk hr1
  have HC1 := Aside0.mk hc1
  clear hr1 hc1
  have HB := Aside0.mk (Below.refl w.heap.size w)
  have H : ((spec_l12Ask.f k l0 l1 a2 a3).bind fun t1074 => (if t1074 = 0 then ((spec_l12Edit.f k l0 l1 a2 a3).bind fun t1075 => (spec_EditPath.l0 k l0 l1 a2 a3 t1075 (⟨#[]⟩ : ByteArray) 0 0)) else (some ((⟨#[]⟩ : ByteArray), t1074)))) = some (r1, r2) := h
  clear h
  replace H := Option.bind_eq_some_iff.mp H
  obtain ⟨t1074, A50, H⟩ := H
  replace H : (if t1074 = 0 then ((spec_l12Edit.f k l0 l1 a2 a3).bind fun t1075 => (spec_EditPath.l0 k l0 l1 a2 a3 t1075 (⟨#[]⟩ : ByteArray) 0 0)) else (some ((⟨#[]⟩ : ByteArray), t1074))) = some (r1, r2) := H
  have A5 := Aside0.mk A50
  clear A50
  by_cases c6 : t1074 = 0
  · rw [if_pos c6] at H
    have c6b0 : (t1074 == 0) = true := beq_iff_eq.mpr c6
    have c6b1 : (t1074 != 0) = false := bne_eq_false_iff_eq.mpr c6
    clear c6
    replace H := Option.bind_eq_some_iff.mp H
    obtain ⟨t1075, A70, H⟩ := H
    replace H : (spec_EditPath.l0 k l0 l1 a2 a3 t1075 (⟨#[]⟩ : ByteArray) 0 0) = some (r1, r2) := H
    have A7 := Aside0.mk A70
    clear A70
    have H' := Aside0.mk H
    clear H
    go_enter Try.func41, Try.ntmps41
    go_wp2_with (first | (go_at_call 75; (with_reducible refine (spec_l12Ask.calls k _ _ l0 _ _ l1 a2 a3 t1074 _ ?side1 ?side2 ?side3 ?side4 A5.out).mono ?_); (case side1 => repeat (first | exact HR0.out | (with_reducible refine Kd.C_alloc ?_ _) | (with_reducible refine Kd.C_drewN ?_ _) | (with_reducible refine Kd.C_drew ?_))); (case side2 => exact HC0.out); (case side3 => repeat (first | exact HR1.out | (with_reducible refine Kd.C_alloc ?_ _) | (with_reducible refine Kd.C_drewN ?_ _) | (with_reducible refine Kd.C_drew ?_))); (case side4 => exact HC1.out); rintro e w' ⟨rfl, ⟨nd, rfl⟩⟩; (try first | exact ⟨rfl, _, World.drewN_drewN _ _ _⟩ | exact ⟨rfl, _, Eq.trans (World.drewN_drewN _ _ _) (congrArg (World.drewN _) (Nat.add_assoc _ _ _))⟩)) | (go_at_call 76; (with_reducible refine (spec_l12Edit.calls k _ _ l0 _ _ l1 a2 a3 t1075 _ ?side1 ?side2 ?side3 ?side4 A7.out).mono ?_); (case side1 => repeat (first | exact HR0.out | (with_reducible refine Kd.C_alloc ?_ _) | (with_reducible refine Kd.C_drewN ?_ _) | (with_reducible refine Kd.C_drew ?_))); (case side2 => exact HC0.out); (case side3 => repeat (first | exact HR1.out | (with_reducible refine Kd.C_alloc ?_ _) | (with_reducible refine Kd.C_drewN ?_ _) | (with_reducible refine Kd.C_drew ?_))); (case side4 => exact HC1.out); rintro e w8 ⟨v1076, rfl, ho0, hb⟩; have n0_ := Aside0.mk (Kd.S_lower ho0 (below_size (by repeat (first | (with_reducible first | exact HB.out | apply below_alloc | apply pw_below_drewN | apply below_drew1) | exact HB.out)))); have n1_ := Aside0.mk (below_step (by repeat (first | (with_reducible first | exact HB.out | apply below_alloc | apply pw_below_drewN | apply below_drew1) | exact HB.out)) hb); clear HB; have HO1077 := n0_; have HB := n1_; clear n0_ n1_; (try clear hb); (try clear hb2); (try clear hk); (try clear hi); (try clear ho0)))
    repeat (go_quiet (first | (go_at_call 75; (with_reducible refine (spec_l12Ask.calls k _ _ l0 _ _ l1 a2 a3 t1074 _ ?side1 ?side2 ?side3 ?side4 A5.out).mono ?_); (case side1 => repeat (first | exact HR0.out | (with_reducible refine Kd.C_alloc ?_ _) | (with_reducible refine Kd.C_drewN ?_ _) | (with_reducible refine Kd.C_drew ?_))); (case side2 => exact HC0.out); (case side3 => repeat (first | exact HR1.out | (with_reducible refine Kd.C_alloc ?_ _) | (with_reducible refine Kd.C_drewN ?_ _) | (with_reducible refine Kd.C_drew ?_))); (case side4 => exact HC1.out); rintro e w' ⟨rfl, ⟨nd, rfl⟩⟩; (try first | exact ⟨rfl, _, World.drewN_drewN _ _ _⟩ | exact ⟨rfl, _, Eq.trans (World.drewN_drewN _ _ _) (congrArg (World.drewN _) (Nat.add_assoc _ _ _))⟩)) | (go_at_call 76; (with_reducible refine (spec_l12Edit.calls k _ _ l0 _ _ l1 a2 a3 t1075 _ ?side1 ?side2 ?side3 ?side4 A7.out).mono ?_); (case side1 => repeat (first | exact HR0.out | (with_reducible refine Kd.C_alloc ?_ _) | (with_reducible refine Kd.C_drewN ?_ _) | (with_reducible refine Kd.C_drew ?_))); (case side2 => exact HC0.out); (case side3 => repeat (first | exact HR1.out | (with_reducible refine Kd.C_alloc ?_ _) | (with_reducible refine Kd.C_drewN ?_ _) | (with_reducible refine Kd.C_drew ?_))); (case side4 => exact HC1.out); rintro e w8 ⟨v1076, rfl, ho0, hb⟩; have n0_ := Aside0.mk (Kd.S_lower ho0 (below_size (by repeat (first | (with_reducible first | exact HB.out | apply below_alloc | apply pw_below_drewN | apply below_drew1) | exact HB.out)))); have n1_ := Aside0.mk (below_step (by repeat (first | (with_reducible first | exact HB.out | apply below_alloc | apply pw_below_drewN | apply below_drew1) | exact HB.out)) hb); clear HB; have HO1077 := n0_; have HB := n1_; clear n0_ n1_; (try clear hb); (try clear hb2); (try clear hk); (try clear hi); (try clear ho0))); try go_wp2_with (first | (go_at_call 75; (with_reducible refine (spec_l12Ask.calls k _ _ l0 _ _ l1 a2 a3 t1074 _ ?side1 ?side2 ?side3 ?side4 A5.out).mono ?_); (case side1 => repeat (first | exact HR0.out | (with_reducible refine Kd.C_alloc ?_ _) | (with_reducible refine Kd.C_drewN ?_ _) | (with_reducible refine Kd.C_drew ?_))); (case side2 => exact HC0.out); (case side3 => repeat (first | exact HR1.out | (with_reducible refine Kd.C_alloc ?_ _) | (with_reducible refine Kd.C_drewN ?_ _) | (with_reducible refine Kd.C_drew ?_))); (case side4 => exact HC1.out); rintro e w' ⟨rfl, ⟨nd, rfl⟩⟩; (try first | exact ⟨rfl, _, World.drewN_drewN _ _ _⟩ | exact ⟨rfl, _, Eq.trans (World.drewN_drewN _ _ _) (congrArg (World.drewN _) (Nat.add_assoc _ _ _))⟩)) | (go_at_call 76; (with_reducible refine (spec_l12Edit.calls k _ _ l0 _ _ l1 a2 a3 t1075 _ ?side1 ?side2 ?side3 ?side4 A7.out).mono ?_); (case side1 => repeat (first | exact HR0.out | (with_reducible refine Kd.C_alloc ?_ _) | (with_reducible refine Kd.C_drewN ?_ _) | (with_reducible refine Kd.C_drew ?_))); (case side2 => exact HC0.out); (case side3 => repeat (first | exact HR1.out | (with_reducible refine Kd.C_alloc ?_ _) | (with_reducible refine Kd.C_drewN ?_ _) | (with_reducible refine Kd.C_drew ?_))); (case side4 => exact HC1.out); rintro e w8 ⟨v1076, rfl, ho0, hb⟩; have n0_ := Aside0.mk (Kd.S_lower ho0 (below_size (by repeat (first | (with_reducible first | exact HB.out | apply below_alloc | apply pw_below_drewN | apply below_drew1) | exact HB.out)))); have n1_ := Aside0.mk (below_step (by repeat (first | (with_reducible first | exact HB.out | apply below_alloc | apply pw_below_drewN | apply below_drew1) | exact HB.out)) hb); clear HB; have HO1077 := n0_; have HB := n1_; clear n0_ n1_; (try clear hb); (try clear hb2); (try clear hk); (try clear hi); (try clear ho0))))
    go_loopg [12, 13, 14] k (fun kq v12 v13 v14 w' => ∃ (x12_1 : ByteArray) (x13_1 : Int) (x14_1 : Int), v12 = .string x12_1 ∧ v13 = .int .i64 x13_1 ∧ v14 = .int .i64 x14_1 ∧ Aside0 (spec_EditPath.l0 kq l0 l1 a2 a3 t1075 x12_1 x13_1 x14_1 = some (r1, r2)) ∧ Aside0 (kq ≤ k) ∧ Aside0 (Kd.S (Kd.slice 2 (Kd.int .i64)) 22 w' w.heap.size (fun _ => True) v1076 t1075) ∧ Aside0 (Below w.heap.size w w'))
    case atStart => exact ⟨((⟨#[]⟩ : ByteArray)), (0), (0), (by first | rfl | (simp; done) | (simp [*]; done)), (by first | rfl | (simp; done) | (simp [*]; done)), (by first | rfl | (simp; done) | (simp [*]; done)), H', ⟨Nat.le_refl _⟩, ⟨by (with_reducible repeat (first | apply Kd.S_alloc | apply Kd.S_drewN | apply Kd.S_drew)); exact HO1077.out⟩, ⟨by repeat (first | (with_reducible first | exact HB.out | apply below_alloc | apply pw_below_drewN | apply below_drew1) | exact HB.out)⟩⟩
    case round =>
      clear H'
      try clear c1
      try clear p2
      try clear c4
      try clear c6
      try clear c6b0
      try clear c6b1
      obtain ⟨x12_1, x13_1, x14_1, rfl, rfl, rfl, HA, HK1, HO_11, HB⟩ := hrel
      cases gk with
      | zero => exact absurd HA.out (by simp [spec_EditPath.l0])
      | succ k1 =>
        have H := HA.out
        clear HA
        simp only [spec_EditPath.l0] at H
        have HC9 := Aside0.mk H
        clear H
        go_upto_region 8 with (fail)
        repeat (go_quiet (fail); go_upto_region 8 with (fail))
        go_cut [38] (fun v38 wc => ∃ (kq : Nat) (x38_8 : Bool), v38 = .bool x38_8 ∧ Aside0 (spec_EditPath.j1 kq l0 l1 a2 a3 t1075 x12_1 x13_1 x14_1 x38_8 = some (r1, r2)) ∧ Aside0 (kq ≤ k1) ∧ Aside0 (Kd.S (Kd.slice 2 (Kd.int .i64)) 22 wc w.heap.size (fun _ => True) v1076 t1075) ∧ Aside0 (Below w.heap.size w wc))
        case first =>
          have H := HC9.out
          clear HC9
          by_cases c10 : x13_1 < (l0.length : Int)
          · rw [if_pos c10] at H
            have c10b0 : decide (x13_1 < (l0.length : Int)) = true := decide_eq_true c10
            clear c10
            (first | rw [c10b0] | (simp only [i64_w, i32_w]; rw [c10b0]) | skip)
            have H' := Aside0.mk H
            clear H
            go_wp2
            repeat (go_quiet (fail); try go_wp2)
            go_meet
            case rel => exact ⟨_, (true), (by first | rfl | (simp; done) | (simp [*]; done)), H', ⟨by have := HK1.out; first | omega | exact Nat.le_refl _⟩, ⟨by (with_reducible repeat (first | apply Kd.S_alloc | apply Kd.S_drewN | apply Kd.S_drew)); exact HO_11.out⟩, ⟨by repeat (first | (with_reducible first | exact HB.out | apply below_alloc | apply pw_below_drewN | apply below_drew1) | exact HB.out)⟩⟩
          · rw [if_neg c10] at H
            have c10b0 : decide (x13_1 < (l0.length : Int)) = false := decide_eq_false c10
            clear c10
            (first | rw [c10b0] | (simp only [i64_w, i32_w]; rw [c10b0]) | skip)
            have H' := Aside0.mk H
            clear H
            go_wp2
            repeat (go_quiet (fail); try go_wp2)
            go_meet
            case rel => exact ⟨_, (decide (x14_1 < (l1.length : Int))), (by first | rfl | (simp; done) | (simp [*]; done)), H', ⟨by have := HK1.out; first | omega | exact Nat.le_refl _⟩, ⟨by (with_reducible repeat (first | apply Kd.S_alloc | apply Kd.S_drewN | apply Kd.S_drew)); exact HO_11.out⟩, ⟨by repeat (first | (with_reducible first | exact HB.out | apply below_alloc | apply pw_below_drewN | apply below_drew1) | exact HB.out)⟩⟩
        case rest =>
          clear HC9
          try clear c1
          try clear p2
          try clear c4
          try clear c6
          try clear c6b0
          try clear c6b1
          try clear c10
          try clear c10b0
          try clear p2
          obtain ⟨kq, x38_8, rfl, HA, HJ8, HO_11, HB⟩ := hcut
          cases kq with
          | zero => exact absurd HA.out (by simp [spec_EditPath.j1])
          | succ kj8 =>
            have H := HA.out
            clear HA
            simp only [spec_EditPath.j1] at H
            by_cases c11 : x38_8 = true
            · subst c11
              have H1 : (if 0 ≤ x13_1 then (if x13_1 < (t1075.length : Int) then (if 0 ≤ x14_1 then (if x14_1 < ((rd_L1 t1075 x13_1).length : Int) then (if x13_1 < (l0.length : Int) then (if x14_1 < (l1.length : Int) then (if (rd l0 x13_1) = (rd l1 x14_1) then (if 0 ≤ (wrap64 (x13_1 + 1)) then (if (wrap64 (x13_1 + 1)) < (t1075.length : Int) then (if 0 ≤ (wrap64 (x14_1 + 1)) then (if (wrap64 (x14_1 + 1)) < ((rd_L1 t1075 (wrap64 (x13_1 + 1))).length : Int) then (spec_EditPath.j2 kj8 l0 l1 a2 a3 t1075 x12_1 x13_1 x14_1 (rd (rd_L1 t1075 x13_1) x14_1) ((rd (rd_L1 t1075 (wrap64 (x13_1 + 1))) (wrap64 (x14_1 + 1))) == (rd (rd_L1 t1075 x13_1) x14_1))) else (none)) else (none)) else (none)) else (none)) else (spec_EditPath.j2 kj8 l0 l1 a2 a3 t1075 x12_1 x13_1 x14_1 (rd (rd_L1 t1075 x13_1) x14_1) false)) else (spec_EditPath.j2 kj8 l0 l1 a2 a3 t1075 x12_1 x13_1 x14_1 (rd (rd_L1 t1075 x13_1) x14_1) false)) else (spec_EditPath.j2 kj8 l0 l1 a2 a3 t1075 x12_1 x13_1 x14_1 (rd (rd_L1 t1075 x13_1) x14_1) false)) else (none)) else (none)) else (none)) else (none)) = some (r1, r2) := by rw [if_pos rfl] at H; exact H
              clear H
              have H := H1
              clear H1
              by_cases c12 : 0 ≤ x13_1
              · rw [if_pos c12] at H
                have c12b0 : decide (0 ≤ x13_1) = true := decide_eq_true c12
                clear c12
                by_cases c13 : x13_1 < (t1075.length : Int)
                · rw [if_pos c13] at H
                  have c13b0 : decide (x13_1 < (t1075.length : Int)) = true := decide_eq_true c13
                  clear c13
                  by_cases c14 : 0 ≤ x14_1
                  · rw [if_pos c14] at H
                    have c14b0 : decide (0 ≤ x14_1) = true := decide_eq_true c14
                    clear c14
                    by_cases c15 : x14_1 < ((rd_L1 t1075 x13_1).length : Int)
                    · rw [if_pos c15] at H
                      have c15b0 : decide (x14_1 < ((rd_L1 t1075 x13_1).length : Int)) = true := decide_eq_true c15
                      clear c15
                      have HC16 := Aside0.mk H
                      clear H
                      obtain ⟨Ao17, co17, eo17⟩ := Kd.S_slice HO_11.out
                      subst eo17
                      have p1078 : 0 ≤ (x13_1 : Int) := of_decide_eq_true (by first | (with_reducible assumption) | assumption)
                      have q1078 : x13_1 < (t1075.length : Int) := of_decide_eq_true (by first | (with_reducible assumption) | assumption)
                      obtain ⟨ad1078, A1078_0, c1078_0, e1078, hx1078_0, hl1078_0, hi1078_0⟩ := at_L1 (Kd.S_reads' HO_11.out).2.2 x13_1 p1078 q1078
                      cases e1078
                      obtain ⟨ce1078, hce1078, hMe1078, hcc1078⟩ := Kd.S_get HO_11.out [] x13_1 p1078 (by first | exact q1078 | exact of_decide_eq_true (by first | (with_reducible assumption) | assumption) | (have e_ := (Kd.S_reads' HO_11.out).1; omega))
                      obtain ⟨ve1078_0, rfl, ge1078_0⟩ := hMe1078
                      have hv1078_0 := hcc1078 0 _ rfl
                      rw [Nat.add_zero, show ((Kd.slice 2 (Kd.int .i64))).sz = 1 from rfl, Nat.mul_one] at hv1078_0
                      replace hv1078_0 := Option.some.inj (hv1078_0.symm.trans hx1078_0)
                      rw [hv1078_0] at ge1078_0
                      have HL1078_0 := Aside0.mk (show Kd.R (Kd.int .i64) 2 _ _ _ _ (rd_L1 t1075 x13_1) from ge1078_0)
                      clear hv1078_0 ge1078_0
                      clear hcc1078 hce1078
                      have HR1078_0 := Aside0.mk hi1078_0
                      have HC1078_0 := Aside0.mk hl1078_0
                      clear hi1078_0 hl1078_0
                      replace p1078 := eq_true p1078
                      replace q1078 := eq_true q1078
                      have p1079 : 0 ≤ (x14_1 : Int) := of_decide_eq_true (by first | (with_reducible assumption) | assumption)
                      have q1079 : x14_1 < ((rd_L1 t1075 x13_1).length : Int) := of_decide_eq_true (by first | (with_reducible assumption) | assumption)
                      obtain ⟨ad1079, e1079, hx1079_0⟩ := Kd.at_int (by repeat (first | (with_reducible exact HR1078_0.out) | (with_reducible refine Kd.C_alloc ?_ _) | (with_reducible refine Kd.C_drewN ?_ _) | (with_reducible refine Kd.C_drew ?_) | exact HR1078_0.out)) x14_1 p1079 q1079
                      cases e1079
                      replace p1079 := eq_true p1079
                      replace q1079 := eq_true q1079
                      go_upto_region 12 with (fail)
                      repeat (go_quiet (fail); go_upto_region 12 with (fail))
                      go_cut [50] (fun v50 wc => ∃ (kq : Nat) (x50_15 : Bool), v50 = .bool x50_15 ∧ Aside0 (spec_EditPath.j2 kq l0 l1 a2 a3 t1075 x12_1 x13_1 x14_1 (rd (rd_L1 t1075 x13_1) x14_1) x50_15 = some (r1, r2)) ∧ Aside0 (kq ≤ kj8) ∧ Aside0 (Kd.S (Kd.slice 2 (Kd.int .i64)) 22 wc w.heap.size (fun _ => True) (.slice (some ad1078) t1075.length co17) t1075) ∧ Aside0 (Kd.C (Kd.int .i64) wc (some ad1079) (rd_L1 t1075 x13_1).length (rd_L1 t1075 x13_1)) ∧ Aside0 (Below w.heap.size w wc))
                      case first =>
                        have H := HC16.out
                        clear HC16
                        by_cases c18 : x13_1 < (l0.length : Int)
                        · rw [if_pos c18] at H
                          have c18b0 : decide (x13_1 < (l0.length : Int)) = true := decide_eq_true c18
                          clear c18
                          (first | rw [c18b0] | (simp only [i64_w, i32_w]; rw [c18b0]) | skip)
                          by_cases c19 : x14_1 < (l1.length : Int)
                          · rw [if_pos c19] at H
                            have c19b0 : decide (x14_1 < (l1.length : Int)) = true := decide_eq_true c19
                            clear c19
                            by_cases c20 : (rd l0 x13_1) = (rd l1 x14_1)
                            · rw [if_pos c20] at H
                              have c20b0 : ((rd l0 x13_1) == (rd l1 x14_1)) = true := beq_iff_eq.mpr c20
                              have c20b1 : ((rd l0 x13_1) != (rd l1 x14_1)) = false := bne_eq_false_iff_eq.mpr c20
                              clear c20
                              obtain ⟨ji21, hji21⟩ : ∃ j_ : Int, (wrap64 (x13_1 + 1)) = j_ := ⟨_, rfl⟩
                              replace H : (if 0 ≤ (ji21) then (if (ji21) < (t1075.length : Int) then (if 0 ≤ (wrap64 (x14_1 + 1)) then (if (wrap64 (x14_1 + 1)) < ((rd_L1 t1075 (ji21)).length : Int) then (spec_EditPath.j2 kj8 l0 l1 a2 a3 t1075 x12_1 x13_1 x14_1 (rd (rd_L1 t1075 x13_1) x14_1) ((rd (rd_L1 t1075 (ji21)) (wrap64 (x14_1 + 1))) == (rd (rd_L1 t1075 x13_1) x14_1))) else (none)) else (none)) else (none)) else (none)) = some (r1, r2) := by first | (rw [hji21] at H; exact H) | (simp only [hji21] at H ⊢; exact H)
                              have hji21w : (IntKind.i64.wrap (x13_1 + 1)) = ji21 := (i64_w _).trans hji21
                              by_cases c22 : 0 ≤ (ji21)
                              · rw [if_pos c22] at H
                                have c22b0 : decide (0 ≤ (ji21)) = true := decide_eq_true c22
                                clear c22
                                by_cases c23 : (ji21) < (t1075.length : Int)
                                · rw [if_pos c23] at H
                                  have c23b0 : decide ((ji21) < (t1075.length : Int)) = true := decide_eq_true c23
                                  clear c23
                                  obtain ⟨ji24, hji24⟩ : ∃ j_ : Int, (wrap64 (x14_1 + 1)) = j_ := ⟨_, rfl⟩
                                  replace H : (if 0 ≤ (ji24) then (if (ji24) < ((rd_L1 t1075 (ji21)).length : Int) then (spec_EditPath.j2 kj8 l0 l1 a2 a3 t1075 x12_1 x13_1 x14_1 (rd (rd_L1 t1075 x13_1) x14_1) ((rd (rd_L1 t1075 (ji21)) (ji24)) == (rd (rd_L1 t1075 x13_1) x14_1))) else (none)) else (none)) = some (r1, r2) := by first | (rw [hji24] at H; exact H) | (simp only [hji24] at H ⊢; exact H)
                                  have hji24w : (IntKind.i64.wrap (x14_1 + 1)) = ji24 := (i64_w _).trans hji24
                                  by_cases c25 : 0 ≤ (ji24)
                                  · rw [if_pos c25] at H
                                    have c25b0 : decide (0 ≤ (ji24)) = true := decide_eq_true c25
                                    clear c25
                                    by_cases c26 : (ji24) < ((rd_L1 t1075 (ji21)).length : Int)
                                    · rw [if_pos c26] at H
                                      have c26b0 : decide ((ji24) < ((rd_L1 t1075 (ji21)).length : Int)) = true := decide_eq_true c26
                                      clear c26
                                      have H' := Aside0.mk H
                                      clear H
                                      have p1080 : 0 ≤ (x13_1 : Int) := of_decide_eq_true (by first | (with_reducible assumption) | assumption)
                                      have q1080 : x13_1 < (l0.length : Int) := of_decide_eq_true (by first | (with_reducible assumption) | assumption)
                                      obtain ⟨ad1080, e1080, hx1080_0⟩ := Kd.at_int HR0.out x13_1 p1080 q1080
                                      cases e1080
                                      replace hx1080_0 := (HB.out.cell (World.block_lt_of_cell? w _ hx1080_0)).trans hx1080_0
                                      replace p1080 := eq_true p1080
                                      replace q1080 := eq_true q1080
                                      have p1081 : 0 ≤ (x14_1 : Int) := of_decide_eq_true (by first | (with_reducible assumption) | assumption)
                                      have q1081 : x14_1 < (l1.length : Int) := of_decide_eq_true (by first | (with_reducible assumption) | assumption)
                                      obtain ⟨ad1081, e1081, hx1081_0⟩ := Kd.at_int HR1.out x14_1 p1081 q1081
                                      cases e1081
                                      replace hx1081_0 := (HB.out.cell (World.block_lt_of_cell? w _ hx1081_0)).trans hx1081_0
                                      replace p1081 := eq_true p1081
                                      replace q1081 := eq_true q1081
                                      have p1082 : 0 ≤ ((ji21) : Int) := of_decide_eq_true (by first | (with_reducible assumption) | assumption)
                                      have q1082 : (ji21) < (t1075.length : Int) := of_decide_eq_true (by first | (with_reducible assumption) | assumption)
                                      obtain ⟨ad1082, A1082_0, c1082_0, e1082, hx1082_0, hl1082_0, hi1082_0⟩ := at_L1 (Kd.S_reads' HO_11.out).2.2 (ji21) p1082 q1082
                                      obtain rfl : ad1078 = ad1082 := (by injection e1082)
                                      obtain ⟨ce1082, hce1082, hMe1082, hcc1082⟩ := Kd.S_get HO_11.out [] (ji21) p1082 (by first | exact q1082 | exact of_decide_eq_true (by first | (with_reducible assumption) | assumption) | (have e_ := (Kd.S_reads' HO_11.out).1; omega))
                                      obtain ⟨ve1082_0, rfl, ge1082_0⟩ := hMe1082
                                      have hv1082_0 := hcc1082 0 _ rfl
                                      rw [Nat.add_zero, show ((Kd.slice 2 (Kd.int .i64))).sz = 1 from rfl, Nat.mul_one] at hv1082_0
                                      replace hv1082_0 := Option.some.inj (hv1082_0.symm.trans hx1082_0)
                                      rw [hv1082_0] at ge1082_0
                                      have HL1082_0 := Aside0.mk (show Kd.R (Kd.int .i64) 2 _ _ _ _ (rd_L1 t1075 (ji21)) from ge1082_0)
                                      clear hv1082_0 ge1082_0
                                      clear hcc1082 hce1082
                                      have HR1082_0 := Aside0.mk hi1082_0
                                      have HC1082_0 := Aside0.mk hl1082_0
                                      clear hi1082_0 hl1082_0
                                      replace p1082 := eq_true p1082
                                      replace q1082 := eq_true q1082
                                      have p1083 : 0 ≤ ((ji24) : Int) := of_decide_eq_true (by first | (with_reducible assumption) | assumption)
                                      have q1083 : (ji24) < ((rd_L1 t1075 (ji21)).length : Int) := of_decide_eq_true (by first | (with_reducible assumption) | assumption)
                                      obtain ⟨ad1083, e1083, hx1083_0⟩ := Kd.at_int (by repeat (first | (with_reducible exact HR1082_0.out) | (with_reducible refine Kd.C_alloc ?_ _) | (with_reducible refine Kd.C_drewN ?_ _) | (with_reducible refine Kd.C_drew ?_) | exact HR1082_0.out)) (ji24) p1083 q1083
                                      cases e1083
                                      replace p1083 := eq_true p1083
                                      replace q1083 := eq_true q1083
                                      go_wp2
                                      repeat (go_quiet (fail); try go_wp2)
                                      go_meet
                                      case rel => exact ⟨_, (((rd (rd_L1 t1075 (ji21)) (ji24)) == (rd (rd_L1 t1075 x13_1) x14_1))), (by first | rfl | (simp; done) | (simp only [← hji21, ← hji24] <;> (first | rfl | simp)) | (simp [*]; done)), H', ⟨by have := HK1.out; have := HJ8.out; first | omega | exact Nat.le_refl _⟩, ⟨by (with_reducible repeat (first | apply Kd.S_alloc | apply Kd.S_drewN | apply Kd.S_drew)); exact HO_11.out⟩, ⟨by repeat (first | (with_reducible exact HR1078_0.out) | (with_reducible refine Kd.C_alloc ?_ _) | (with_reducible refine Kd.C_drewN ?_ _) | (with_reducible refine Kd.C_drew ?_) | exact HR1078_0.out)⟩, ⟨by repeat (first | (with_reducible first | exact HB.out | apply below_alloc | apply pw_below_drewN | apply below_drew1) | exact HB.out)⟩⟩
                                    · rw [if_neg c26] at H
                                      exact absurd H (by simp)
                                  · rw [if_neg c25] at H
                                    exact absurd H (by simp)
                                · rw [if_neg c23] at H
                                  exact absurd H (by simp)
                              · rw [if_neg c22] at H
                                exact absurd H (by simp)
                            · rw [if_neg c20] at H
                              have c20b0 : ((rd l0 x13_1) == (rd l1 x14_1)) = false := beq_eq_false_iff_ne.mpr c20
                              have c20b1 : ((rd l0 x13_1) != (rd l1 x14_1)) = true := bne_iff_ne.mpr c20
                              have H' := Aside0.mk H
                              clear H
                              have p1080 : 0 ≤ (x13_1 : Int) := of_decide_eq_true (by first | (with_reducible assumption) | assumption)
                              have q1080 : x13_1 < (l0.length : Int) := of_decide_eq_true (by first | (with_reducible assumption) | assumption)
                              obtain ⟨ad1080, e1080, hx1080_0⟩ := Kd.at_int HR0.out x13_1 p1080 q1080
                              cases e1080
                              replace hx1080_0 := (HB.out.cell (World.block_lt_of_cell? w _ hx1080_0)).trans hx1080_0
                              replace p1080 := eq_true p1080
                              replace q1080 := eq_true q1080
                              have p1081 : 0 ≤ (x14_1 : Int) := of_decide_eq_true (by first | (with_reducible assumption) | assumption)
                              have q1081 : x14_1 < (l1.length : Int) := of_decide_eq_true (by first | (with_reducible assumption) | assumption)
                              obtain ⟨ad1081, e1081, hx1081_0⟩ := Kd.at_int HR1.out x14_1 p1081 q1081
                              cases e1081
                              replace hx1081_0 := (HB.out.cell (World.block_lt_of_cell? w _ hx1081_0)).trans hx1081_0
                              replace p1081 := eq_true p1081
                              replace q1081 := eq_true q1081
                              go_wp2
                              repeat (go_quiet (fail); try go_wp2)
                              go_meet
                              case rel => exact ⟨_, (false), (by first | rfl | (simp; done) | (simp [*]; done)), H', ⟨by have := HK1.out; have := HJ8.out; first | omega | exact Nat.le_refl _⟩, ⟨by (with_reducible repeat (first | apply Kd.S_alloc | apply Kd.S_drewN | apply Kd.S_drew)); exact HO_11.out⟩, ⟨by repeat (first | (with_reducible exact HR1078_0.out) | (with_reducible refine Kd.C_alloc ?_ _) | (with_reducible refine Kd.C_drewN ?_ _) | (with_reducible refine Kd.C_drew ?_) | exact HR1078_0.out)⟩, ⟨by repeat (first | (with_reducible first | exact HB.out | apply below_alloc | apply pw_below_drewN | apply below_drew1) | exact HB.out)⟩⟩
                          · rw [if_neg c19] at H
                            have c19b0 : decide (x14_1 < (l1.length : Int)) = false := decide_eq_false c19
                            clear c19
                            have H' := Aside0.mk H
                            clear H
                            go_wp2
                            repeat (go_quiet (fail); try go_wp2)
                            go_meet
                            case rel => exact ⟨_, (false), (by first | rfl | (simp; done) | (simp [*]; done)), H', ⟨by have := HK1.out; have := HJ8.out; first | omega | exact Nat.le_refl _⟩, ⟨by (with_reducible repeat (first | apply Kd.S_alloc | apply Kd.S_drewN | apply Kd.S_drew)); exact HO_11.out⟩, ⟨by repeat (first | (with_reducible exact HR1078_0.out) | (with_reducible refine Kd.C_alloc ?_ _) | (with_reducible refine Kd.C_drewN ?_ _) | (with_reducible refine Kd.C_drew ?_) | exact HR1078_0.out)⟩, ⟨by repeat (first | (with_reducible first | exact HB.out | apply below_alloc | apply pw_below_drewN | apply below_drew1) | exact HB.out)⟩⟩
                        · rw [if_neg c18] at H
                          have c18b0 : decide (x13_1 < (l0.length : Int)) = false := decide_eq_false c18
                          clear c18
                          (first | rw [c18b0] | (simp only [i64_w, i32_w]; rw [c18b0]) | skip)
                          have H' := Aside0.mk H
                          clear H
                          go_wp2
                          repeat (go_quiet (fail); try go_wp2)
                          go_meet
                          case rel => exact ⟨_, (false), (by first | rfl | (simp; done) | (simp [*]; done)), H', ⟨by have := HK1.out; have := HJ8.out; first | omega | exact Nat.le_refl _⟩, ⟨by (with_reducible repeat (first | apply Kd.S_alloc | apply Kd.S_drewN | apply Kd.S_drew)); exact HO_11.out⟩, ⟨by repeat (first | (with_reducible exact HR1078_0.out) | (with_reducible refine Kd.C_alloc ?_ _) | (with_reducible refine Kd.C_drewN ?_ _) | (with_reducible refine Kd.C_drew ?_) | exact HR1078_0.out)⟩, ⟨by repeat (first | (with_reducible first | exact HB.out | apply below_alloc | apply pw_below_drewN | apply below_drew1) | exact HB.out)⟩⟩
                      case rest =>
                        clear HC16
                        try clear c1
                        try clear p1
                        try clear q1
                        try clear hx1
                        try clear c2
                        try clear p2
                        try clear c4
                        try clear c6
                        try clear c6b0
                        try clear c6b1
                        try clear p6
                        try clear c10
                        try clear c10b0
                        try clear p10
                        try clear q10
                        try clear hx10
                        try clear c11
                        try clear c12
                        try clear c12b0
                        try clear c13
                        try clear c13b0
                        try clear c14
                        try clear c14b0
                        try clear c15
                        try clear c15b0
                        try clear c18
                        try clear c18b0
                        try clear c19
                        try clear c19b0
                        try clear c20
                        try clear c20b0
                        try clear c20b1
                        try clear c22
                        try clear c22b0
                        try clear c23
                        try clear c23b0
                        try clear c25
                        try clear c25b0
                        try clear c26
                        try clear c26b0
                        try clear hx1078_0
                        try clear hx1079_0
                        try clear hx1080_0
                        try clear hx1081_0
                        try clear hx1082_0
                        try clear hx1083_0
                        try clear p1078
                        try clear p1079
                        try clear p1080
                        try clear p1081
                        try clear p1082
                        try clear p1083
                        try clear p2
                        try clear q1078
                        try clear q1079
                        try clear q1080
                        try clear q1081
                        try clear q1082
                        try clear q1083
                        obtain ⟨kq, x50_15, rfl, HA, HJ15, HO_11, HR1078_0, HB⟩ := hcut
                        cases kq with
                        | zero => exact absurd HA.out (by simp [spec_EditPath.j2])
                        | succ kj15 =>
                          have H := HA.out
                          clear HA
                          simp only [spec_EditPath.j2] at H
                          by_cases c27 : x50_15 = true
                          · subst c27
                            have H1 : (if x12_1.size + 1 ≤ 9223372036854775807 then (spec_EditPath.l0 kj15 l0 l1 a2 a3 t1075 (x12_1 ++ (⟨#[61]⟩ : ByteArray)) (wrap64 (x13_1 + 1)) (wrap64 (x14_1 + 1))) else (none)) = some (r1, r2) := by rw [if_pos rfl] at H; exact H
                            clear H
                            have H := H1
                            clear H1
                            by_cases c28 : x12_1.size + 1 ≤ 9223372036854775807
                            · rw [if_pos c28] at H
                              have c28b0 := eq_true c28
                              have c28b1 : decide (x12_1.size + 1 ≤ 9223372036854775807) = true := decide_eq_true c28
                              try have c28b2 : (9223372036854775807 < x12_1.size + 1) = False := eq_false (Nat.not_lt.2 c28)
                              have H' := Aside0.mk H
                              clear H
                              go_wp2
                              repeat (go_quiet (fail); try go_wp2)
                              go_roundg kj15
                              case measure => have := HK1.out; have := HJ8.out; have := HJ15.out; omega
                              case rel => exact ⟨(x12_1 ++ (⟨#[61]⟩ : ByteArray)), (wrap64 (x13_1 + 1)), (wrap64 (x14_1 + 1)), (by first | rfl | (simp; done) | (simp [*]; done)), (by first | rfl | (simp; done) | (simp [*]; done)), (by first | rfl | (simp; done) | (simp [*]; done)), H', ⟨by have := HK1.out; have := HJ8.out; have := HJ15.out; omega⟩, ⟨by (with_reducible repeat (first | apply Kd.S_alloc | apply Kd.S_drewN | apply Kd.S_drew)); exact HO_11.out⟩, ⟨by repeat (first | (with_reducible first | exact HB.out | apply below_alloc | apply pw_below_drewN | apply below_drew1) | exact HB.out)⟩⟩
                            · rw [if_neg c28] at H
                              exact absurd H (by simp)
                          · replace c27 := Bool.eq_false_iff.mpr c27
                            subst c27
                            have H1 : (if x13_1 < (l0.length : Int) then (if x14_1 < (l1.length : Int) then (if 0 ≤ x13_1 then (if 0 ≤ x14_1 then (if (rd l0 x13_1) = (rd l1 x14_1) then (spec_EditPath.j3 kj15 l0 l1 a2 a3 t1075 x12_1 x13_1 x14_1 (rd (rd_L1 t1075 x13_1) x14_1) false) else (if 0 ≤ (wrap64 (x13_1 + 1)) then (if (wrap64 (x13_1 + 1)) < (t1075.length : Int) then (if 0 ≤ (wrap64 (x14_1 + 1)) then (if (wrap64 (x14_1 + 1)) < ((rd_L1 t1075 (wrap64 (x13_1 + 1))).length : Int) then (spec_EditPath.j3 kj15 l0 l1 a2 a3 t1075 x12_1 x13_1 x14_1 (rd (rd_L1 t1075 x13_1) x14_1) ((wrap64 ((rd (rd_L1 t1075 (wrap64 (x13_1 + 1))) (wrap64 (x14_1 + 1))) + a2)) == (rd (rd_L1 t1075 x13_1) x14_1))) else (none)) else (none)) else (none)) else (none))) else (none)) else (none)) else (spec_EditPath.j3 kj15 l0 l1 a2 a3 t1075 x12_1 x13_1 x14_1 (rd (rd_L1 t1075 x13_1) x14_1) false)) else (spec_EditPath.j3 kj15 l0 l1 a2 a3 t1075 x12_1 x13_1 x14_1 (rd (rd_L1 t1075 x13_1) x14_1) false)) = some (r1, r2) := by rw [if_neg (show ¬ (false = true) by decide)] at H; exact H
                            clear H
                            have H := H1
                            clear H1
                            have HC29 := Aside0.mk H
                            clear H
                            go_upto_region 16 with (fail)
                            repeat (go_quiet (fail); go_upto_region 16 with (fail))
                            go_cut [91] (fun v91 wc => ∃ (kq : Nat) (x91_28 : Bool), v91 = .bool x91_28 ∧ Aside0 (spec_EditPath.j3 kq l0 l1 a2 a3 t1075 x12_1 x13_1 x14_1 (rd (rd_L1 t1075 x13_1) x14_1) x91_28 = some (r1, r2)) ∧ Aside0 (kq ≤ kj15) ∧ Aside0 (Kd.S (Kd.slice 2 (Kd.int .i64)) 22 wc w.heap.size (fun _ => True) (.slice (some ad1078) t1075.length co17) t1075) ∧ Aside0 (Kd.C (Kd.int .i64) wc (some ad1079) (rd_L1 t1075 x13_1).length (rd_L1 t1075 x13_1)) ∧ Aside0 (Below w.heap.size w wc))
                            case first =>
                              have H := HC29.out
                              clear HC29
                              by_cases c30 : x13_1 < (l0.length : Int)
                              · rw [if_pos c30] at H
                                have c30b0 : decide (x13_1 < (l0.length : Int)) = true := decide_eq_true c30
                                clear c30
                                (first | rw [c30b0] | (simp only [i64_w, i32_w]; rw [c30b0]) | skip)
                                by_cases c31 : x14_1 < (l1.length : Int)
                                · rw [if_pos c31] at H
                                  have c31b0 : decide (x14_1 < (l1.length : Int)) = true := decide_eq_true c31
                                  clear c31
                                  by_cases c32 : 0 ≤ x13_1
                                  · rw [if_pos c32] at H
                                    have c32b0 : decide (0 ≤ x13_1) = true := decide_eq_true c32
                                    clear c32
                                    by_cases c33 : 0 ≤ x14_1
                                    · rw [if_pos c33] at H
                                      have c33b0 : decide (0 ≤ x14_1) = true := decide_eq_true c33
                                      clear c33
                                      by_cases c34 : (rd l0 x13_1) = (rd l1 x14_1)
                                      · rw [if_pos c34] at H
                                        have c34b0 : ((rd l0 x13_1) == (rd l1 x14_1)) = true := beq_iff_eq.mpr c34
                                        have c34b1 : ((rd l0 x13_1) != (rd l1 x14_1)) = false := bne_eq_false_iff_eq.mpr c34
                                        clear c34
                                        have H' := Aside0.mk H
                                        clear H
                                        have p1084 : 0 ≤ (x13_1 : Int) := of_decide_eq_true (by first | (with_reducible assumption) | assumption)
                                        have q1084 : x13_1 < (l0.length : Int) := of_decide_eq_true (by first | (with_reducible assumption) | assumption)
                                        obtain ⟨ad1084, e1084, hx1084_0⟩ := Kd.at_int HR0.out x13_1 p1084 q1084
                                        cases e1084
                                        replace hx1084_0 := (HB.out.cell (World.block_lt_of_cell? w _ hx1084_0)).trans hx1084_0
                                        replace p1084 := eq_true p1084
                                        replace q1084 := eq_true q1084
                                        have p1085 : 0 ≤ (x14_1 : Int) := of_decide_eq_true (by first | (with_reducible assumption) | assumption)
                                        have q1085 : x14_1 < (l1.length : Int) := of_decide_eq_true (by first | (with_reducible assumption) | assumption)
                                        obtain ⟨ad1085, e1085, hx1085_0⟩ := Kd.at_int HR1.out x14_1 p1085 q1085
                                        cases e1085
                                        replace hx1085_0 := (HB.out.cell (World.block_lt_of_cell? w _ hx1085_0)).trans hx1085_0
                                        replace p1085 := eq_true p1085
                                        replace q1085 := eq_true q1085
                                        go_wp2
                                        repeat (go_quiet (fail); try go_wp2)
                                        go_meet
                                        case rel => exact ⟨_, (false), (by first | rfl | (simp; done) | (simp [*]; done)), H', ⟨by have := HK1.out; have := HJ8.out; have := HJ15.out; first | omega | exact Nat.le_refl _⟩, ⟨by (with_reducible repeat (first | apply Kd.S_alloc | apply Kd.S_drewN | apply Kd.S_drew)); exact HO_11.out⟩, ⟨by repeat (first | (with_reducible exact HR1078_0.out) | (with_reducible refine Kd.C_alloc ?_ _) | (with_reducible refine Kd.C_drewN ?_ _) | (with_reducible refine Kd.C_drew ?_) | exact HR1078_0.out)⟩, ⟨by repeat (first | (with_reducible first | exact HB.out | apply below_alloc | apply pw_below_drewN | apply below_drew1) | exact HB.out)⟩⟩
                                      · rw [if_neg c34] at H
                                        have c34b0 : ((rd l0 x13_1) == (rd l1 x14_1)) = false := beq_eq_false_iff_ne.mpr c34
                                        have c34b1 : ((rd l0 x13_1) != (rd l1 x14_1)) = true := bne_iff_ne.mpr c34
                                        obtain ⟨ji35, hji35⟩ : ∃ j_ : Int, (wrap64 (x13_1 + 1)) = j_ := ⟨_, rfl⟩
                                        replace H : (if 0 ≤ (ji35) then (if (ji35) < (t1075.length : Int) then (if 0 ≤ (wrap64 (x14_1 + 1)) then (if (wrap64 (x14_1 + 1)) < ((rd_L1 t1075 (ji35)).length : Int) then (spec_EditPath.j3 kj15 l0 l1 a2 a3 t1075 x12_1 x13_1 x14_1 (rd (rd_L1 t1075 x13_1) x14_1) ((wrap64 ((rd (rd_L1 t1075 (ji35)) (wrap64 (x14_1 + 1))) + a2)) == (rd (rd_L1 t1075 x13_1) x14_1))) else (none)) else (none)) else (none)) else (none)) = some (r1, r2) := by first | (rw [hji35] at H; exact H) | (simp only [hji35] at H ⊢; exact H)
                                        have hji35w : (IntKind.i64.wrap (x13_1 + 1)) = ji35 := (i64_w _).trans hji35
                                        by_cases c36 : 0 ≤ (ji35)
                                        · rw [if_pos c36] at H
                                          have c36b0 : decide (0 ≤ (ji35)) = true := decide_eq_true c36
                                          clear c36
                                          by_cases c37 : (ji35) < (t1075.length : Int)
                                          · rw [if_pos c37] at H
                                            have c37b0 : decide ((ji35) < (t1075.length : Int)) = true := decide_eq_true c37
                                            clear c37
                                            obtain ⟨ji38, hji38⟩ : ∃ j_ : Int, (wrap64 (x14_1 + 1)) = j_ := ⟨_, rfl⟩
                                            replace H : (if 0 ≤ (ji38) then (if (ji38) < ((rd_L1 t1075 (ji35)).length : Int) then (spec_EditPath.j3 kj15 l0 l1 a2 a3 t1075 x12_1 x13_1 x14_1 (rd (rd_L1 t1075 x13_1) x14_1) ((wrap64 ((rd (rd_L1 t1075 (ji35)) (ji38)) + a2)) == (rd (rd_L1 t1075 x13_1) x14_1))) else (none)) else (none)) = some (r1, r2) := by first | (rw [hji38] at H; exact H) | (simp only [hji38] at H ⊢; exact H)
                                            have hji38w : (IntKind.i64.wrap (x14_1 + 1)) = ji38 := (i64_w _).trans hji38
                                            by_cases c39 : 0 ≤ (ji38)
                                            · rw [if_pos c39] at H
                                              have c39b0 : decide (0 ≤ (ji38)) = true := decide_eq_true c39
                                              clear c39
                                              by_cases c40 : (ji38) < ((rd_L1 t1075 (ji35)).length : Int)
                                              · rw [if_pos c40] at H
                                                have c40b0 : decide ((ji38) < ((rd_L1 t1075 (ji35)).length : Int)) = true := decide_eq_true c40
                                                clear c40
                                                have H' := Aside0.mk H
                                                clear H
                                                have p1084 : 0 ≤ (x13_1 : Int) := of_decide_eq_true (by first | (with_reducible assumption) | assumption)
                                                have q1084 : x13_1 < (l0.length : Int) := of_decide_eq_true (by first | (with_reducible assumption) | assumption)
                                                obtain ⟨ad1084, e1084, hx1084_0⟩ := Kd.at_int HR0.out x13_1 p1084 q1084
                                                cases e1084
                                                replace hx1084_0 := (HB.out.cell (World.block_lt_of_cell? w _ hx1084_0)).trans hx1084_0
                                                replace p1084 := eq_true p1084
                                                replace q1084 := eq_true q1084
                                                have p1085 : 0 ≤ (x14_1 : Int) := of_decide_eq_true (by first | (with_reducible assumption) | assumption)
                                                have q1085 : x14_1 < (l1.length : Int) := of_decide_eq_true (by first | (with_reducible assumption) | assumption)
                                                obtain ⟨ad1085, e1085, hx1085_0⟩ := Kd.at_int HR1.out x14_1 p1085 q1085
                                                cases e1085
                                                replace hx1085_0 := (HB.out.cell (World.block_lt_of_cell? w _ hx1085_0)).trans hx1085_0
                                                replace p1085 := eq_true p1085
                                                replace q1085 := eq_true q1085
                                                have p1086 : 0 ≤ ((ji35) : Int) := of_decide_eq_true (by first | (with_reducible assumption) | assumption)
                                                have q1086 : (ji35) < (t1075.length : Int) := of_decide_eq_true (by first | (with_reducible assumption) | assumption)
                                                obtain ⟨ad1086, A1086_0, c1086_0, e1086, hx1086_0, hl1086_0, hi1086_0⟩ := at_L1 (Kd.S_reads' HO_11.out).2.2 (ji35) p1086 q1086
                                                obtain rfl : ad1078 = ad1086 := (by injection e1086)
                                                obtain ⟨ce1086, hce1086, hMe1086, hcc1086⟩ := Kd.S_get HO_11.out [] (ji35) p1086 (by first | exact q1086 | exact of_decide_eq_true (by first | (with_reducible assumption) | assumption) | (have e_ := (Kd.S_reads' HO_11.out).1; omega))
                                                obtain ⟨ve1086_0, rfl, ge1086_0⟩ := hMe1086
                                                have hv1086_0 := hcc1086 0 _ rfl
                                                rw [Nat.add_zero, show ((Kd.slice 2 (Kd.int .i64))).sz = 1 from rfl, Nat.mul_one] at hv1086_0
                                                replace hv1086_0 := Option.some.inj (hv1086_0.symm.trans hx1086_0)
                                                rw [hv1086_0] at ge1086_0
                                                have HL1086_0 := Aside0.mk (show Kd.R (Kd.int .i64) 2 _ _ _ _ (rd_L1 t1075 (ji35)) from ge1086_0)
                                                clear hv1086_0 ge1086_0
                                                clear hcc1086 hce1086
                                                have HR1086_0 := Aside0.mk hi1086_0
                                                have HC1086_0 := Aside0.mk hl1086_0
                                                clear hi1086_0 hl1086_0
                                                replace p1086 := eq_true p1086
                                                replace q1086 := eq_true q1086
                                                have p1087 : 0 ≤ ((ji38) : Int) := of_decide_eq_true (by first | (with_reducible assumption) | assumption)
                                                have q1087 : (ji38) < ((rd_L1 t1075 (ji35)).length : Int) := of_decide_eq_true (by first | (with_reducible assumption) | assumption)
                                                obtain ⟨ad1087, e1087, hx1087_0⟩ := Kd.at_int (by repeat (first | (with_reducible exact HR1086_0.out) | (with_reducible refine Kd.C_alloc ?_ _) | (with_reducible refine Kd.C_drewN ?_ _) | (with_reducible refine Kd.C_drew ?_) | exact HR1086_0.out)) (ji38) p1087 q1087
                                                cases e1087
                                                replace p1087 := eq_true p1087
                                                replace q1087 := eq_true q1087
                                                go_wp2
                                                repeat (go_quiet (fail); try go_wp2)
                                                go_meet
                                                case rel => exact ⟨_, (((wrap64 ((rd (rd_L1 t1075 (ji35)) (ji38)) + a2)) == (rd (rd_L1 t1075 x13_1) x14_1))), (by first | rfl | (simp; done) | (simp only [← hji35, ← hji38] <;> (first | rfl | simp)) | (simp [*]; done)), H', ⟨by have := HK1.out; have := HJ8.out; have := HJ15.out; first | omega | exact Nat.le_refl _⟩, ⟨by (with_reducible repeat (first | apply Kd.S_alloc | apply Kd.S_drewN | apply Kd.S_drew)); exact HO_11.out⟩, ⟨by repeat (first | (with_reducible exact HR1078_0.out) | (with_reducible refine Kd.C_alloc ?_ _) | (with_reducible refine Kd.C_drewN ?_ _) | (with_reducible refine Kd.C_drew ?_) | exact HR1078_0.out)⟩, ⟨by repeat (first | (with_reducible first | exact HB.out | apply below_alloc | apply pw_below_drewN | apply below_drew1) | exact HB.out)⟩⟩
                                              · rw [if_neg c40] at H
                                                exact absurd H (by simp)
                                            · rw [if_neg c39] at H
                                              exact absurd H (by simp)
                                          · rw [if_neg c37] at H
                                            exact absurd H (by simp)
                                        · rw [if_neg c36] at H
                                          exact absurd H (by simp)
                                    · rw [if_neg c33] at H
                                      exact absurd H (by simp)
                                  · rw [if_neg c32] at H
                                    exact absurd H (by simp)
                                · rw [if_neg c31] at H
                                  have c31b0 : decide (x14_1 < (l1.length : Int)) = false := decide_eq_false c31
                                  clear c31
                                  have H' := Aside0.mk H
                                  clear H
                                  go_wp2
                                  repeat (go_quiet (fail); try go_wp2)
                                  go_meet
                                  case rel => exact ⟨_, (false), (by first | rfl | (simp; done) | (simp [*]; done)), H', ⟨by have := HK1.out; have := HJ8.out; have := HJ15.out; first | omega | exact Nat.le_refl _⟩, ⟨by (with_reducible repeat (first | apply Kd.S_alloc | apply Kd.S_drewN | apply Kd.S_drew)); exact HO_11.out⟩, ⟨by repeat (first | (with_reducible exact HR1078_0.out) | (with_reducible refine Kd.C_alloc ?_ _) | (with_reducible refine Kd.C_drewN ?_ _) | (with_reducible refine Kd.C_drew ?_) | exact HR1078_0.out)⟩, ⟨by repeat (first | (with_reducible first | exact HB.out | apply below_alloc | apply pw_below_drewN | apply below_drew1) | exact HB.out)⟩⟩
                              · rw [if_neg c30] at H
                                have c30b0 : decide (x13_1 < (l0.length : Int)) = false := decide_eq_false c30
                                clear c30
                                (first | rw [c30b0] | (simp only [i64_w, i32_w]; rw [c30b0]) | skip)
                                have H' := Aside0.mk H
                                clear H
                                go_wp2
                                repeat (go_quiet (fail); try go_wp2)
                                go_meet
                                case rel => exact ⟨_, (false), (by first | rfl | (simp; done) | (simp [*]; done)), H', ⟨by have := HK1.out; have := HJ8.out; have := HJ15.out; first | omega | exact Nat.le_refl _⟩, ⟨by (with_reducible repeat (first | apply Kd.S_alloc | apply Kd.S_drewN | apply Kd.S_drew)); exact HO_11.out⟩, ⟨by repeat (first | (with_reducible exact HR1078_0.out) | (with_reducible refine Kd.C_alloc ?_ _) | (with_reducible refine Kd.C_drewN ?_ _) | (with_reducible refine Kd.C_drew ?_) | exact HR1078_0.out)⟩, ⟨by repeat (first | (with_reducible first | exact HB.out | apply below_alloc | apply pw_below_drewN | apply below_drew1) | exact HB.out)⟩⟩
                            case rest =>
                              clear HC29
                              try clear c1
                              try clear p1
                              try clear q1
                              try clear hx1
                              try clear c2
                              try clear p2
                              try clear c3
                              try clear c4
                              try clear c6
                              try clear c6b0
                              try clear c6b1
                              try clear p6
                              try clear c10
                              try clear c10b0
                              try clear p10
                              try clear q10
                              try clear hx10
                              try clear c11
                              try clear c12
                              try clear c12b0
                              try clear c13
                              try clear c13b0
                              try clear c14
                              try clear c14b0
                              try clear c15
                              try clear c15b0
                              try clear c18
                              try clear c18b0
                              try clear c19
                              try clear c19b0
                              try clear c20
                              try clear c20b0
                              try clear c20b1
                              try clear c22
                              try clear c22b0
                              try clear c23
                              try clear c23b0
                              try clear c25
                              try clear c25b0
                              try clear c26
                              try clear c26b0
                              try clear c27
                              try clear c28
                              try clear c28b0
                              try clear c28b1
                              try clear c28b2
                              try clear c30
                              try clear c30b0
                              try clear c31
                              try clear c31b0
                              try clear c32
                              try clear c32b0
                              try clear c33
                              try clear c33b0
                              try clear c34
                              try clear c34b0
                              try clear c34b1
                              try clear c36
                              try clear c36b0
                              try clear c37
                              try clear c37b0
                              try clear c39
                              try clear c39b0
                              try clear c40
                              try clear c40b0
                              try clear hx1078_0
                              try clear hx1079_0
                              try clear hx1080_0
                              try clear hx1081_0
                              try clear hx1082_0
                              try clear hx1083_0
                              try clear hx1084_0
                              try clear hx1085_0
                              try clear hx1086_0
                              try clear hx1087_0
                              try clear p1
                              try clear p10
                              try clear p1078
                              try clear p1079
                              try clear p1080
                              try clear p1081
                              try clear p1082
                              try clear p1083
                              try clear p1084
                              try clear p1085
                              try clear p1086
                              try clear p1087
                              try clear p2
                              try clear p6
                              try clear q1
                              try clear q10
                              try clear q1078
                              try clear q1079
                              try clear q1080
                              try clear q1081
                              try clear q1082
                              try clear q1083
                              try clear q1084
                              try clear q1085
                              try clear q1086
                              try clear q1087
                              obtain ⟨kq, x91_28, rfl, HA, HJ28, HO_11, HR1078_0, HB⟩ := hcut
                              cases kq with
                              | zero => exact absurd HA.out (by simp [spec_EditPath.j3])
                              | succ kj28 =>
                                have H := HA.out
                                clear HA
                                simp only [spec_EditPath.j3] at H
                                by_cases c41 : x91_28 = true
                                · subst c41
                                  have H1 : (if x12_1.size + 1 ≤ 9223372036854775807 then (spec_EditPath.l0 kj28 l0 l1 a2 a3 t1075 (x12_1 ++ (⟨#[120]⟩ : ByteArray)) (wrap64 (x13_1 + 1)) (wrap64 (x14_1 + 1))) else (none)) = some (r1, r2) := by rw [if_pos rfl] at H; exact H
                                  clear H
                                  have H := H1
                                  clear H1
                                  by_cases c42 : x12_1.size + 1 ≤ 9223372036854775807
                                  · rw [if_pos c42] at H
                                    have c42b0 := eq_true c42
                                    have c42b1 : decide (x12_1.size + 1 ≤ 9223372036854775807) = true := decide_eq_true c42
                                    try have c42b2 : (9223372036854775807 < x12_1.size + 1) = False := eq_false (Nat.not_lt.2 c42)
                                    have H' := Aside0.mk H
                                    clear H
                                    go_wp2
                                    repeat (go_quiet (fail); try go_wp2)
                                    go_roundg kj28
                                    case measure => have := HK1.out; have := HJ8.out; have := HJ15.out; have := HJ28.out; omega
                                    case rel => exact ⟨(x12_1 ++ (⟨#[120]⟩ : ByteArray)), (wrap64 (x13_1 + 1)), (wrap64 (x14_1 + 1)), (by first | rfl | (simp; done) | (simp [*]; done)), (by first | rfl | (simp; done) | (simp [*]; done)), (by first | rfl | (simp; done) | (simp [*]; done)), H', ⟨by have := HK1.out; have := HJ8.out; have := HJ15.out; have := HJ28.out; omega⟩, ⟨by (with_reducible repeat (first | apply Kd.S_alloc | apply Kd.S_drewN | apply Kd.S_drew)); exact HO_11.out⟩, ⟨by repeat (first | (with_reducible first | exact HB.out | apply below_alloc | apply pw_below_drewN | apply below_drew1) | exact HB.out)⟩⟩
                                  · rw [if_neg c42] at H
                                    exact absurd H (by simp)
                                · replace c41 := Bool.eq_false_iff.mpr c41
                                  subst c41
                                  have H1 : (if x13_1 < (l0.length : Int) then (if 0 ≤ (wrap64 (x13_1 + 1)) then (if (wrap64 (x13_1 + 1)) < (t1075.length : Int) then (if 0 ≤ x14_1 then (if x14_1 < ((rd_L1 t1075 (wrap64 (x13_1 + 1))).length : Int) then (if (wrap64 ((rd (rd_L1 t1075 (wrap64 (x13_1 + 1))) x14_1) + a3)) = (rd (rd_L1 t1075 x13_1) x14_1) then (if x12_1.size + 1 ≤ 9223372036854775807 then (spec_EditPath.l0 kj28 l0 l1 a2 a3 t1075 (x12_1 ++ (⟨#[45]⟩ : ByteArray)) (wrap64 (x13_1 + 1)) x14_1) else (none)) else (if x12_1.size + 1 ≤ 9223372036854775807 then (spec_EditPath.l0 kj28 l0 l1 a2 a3 t1075 (x12_1 ++ (⟨#[43]⟩ : ByteArray)) x13_1 (wrap64 (x14_1 + 1))) else (none))) else (none)) else (none)) else (none)) else (none)) else (if x12_1.size + 1 ≤ 9223372036854775807 then (spec_EditPath.l0 kj28 l0 l1 a2 a3 t1075 (x12_1 ++ (⟨#[43]⟩ : ByteArray)) x13_1 (wrap64 (x14_1 + 1))) else (none))) = some (r1, r2) := by rw [if_neg (show ¬ (false = true) by decide)] at H; exact H
                                  clear H
                                  have H := H1
                                  clear H1
                                  by_cases c43 : x13_1 < (l0.length : Int)
                                  · rw [if_pos c43] at H
                                    have c43b0 : decide (x13_1 < (l0.length : Int)) = true := decide_eq_true c43
                                    clear c43
                                    obtain ⟨ji44, hji44⟩ : ∃ j_ : Int, (wrap64 (x13_1 + 1)) = j_ := ⟨_, rfl⟩
                                    replace H : (if 0 ≤ (ji44) then (if (ji44) < (t1075.length : Int) then (if 0 ≤ x14_1 then (if x14_1 < ((rd_L1 t1075 (ji44)).length : Int) then (if (wrap64 ((rd (rd_L1 t1075 (ji44)) x14_1) + a3)) = (rd (rd_L1 t1075 x13_1) x14_1) then (if x12_1.size + 1 ≤ 9223372036854775807 then (spec_EditPath.l0 kj28 l0 l1 a2 a3 t1075 (x12_1 ++ (⟨#[45]⟩ : ByteArray)) ji44 x14_1) else (none)) else (if x12_1.size + 1 ≤ 9223372036854775807 then (spec_EditPath.l0 kj28 l0 l1 a2 a3 t1075 (x12_1 ++ (⟨#[43]⟩ : ByteArray)) x13_1 (wrap64 (x14_1 + 1))) else (none))) else (none)) else (none)) else (none)) else (none)) = some (r1, r2) := by first | (rw [hji44] at H; exact H) | (simp only [hji44] at H ⊢; exact H)
                                    have hji44w : (IntKind.i64.wrap (x13_1 + 1)) = ji44 := (i64_w _).trans hji44
                                    by_cases c45 : 0 ≤ (ji44)
                                    · rw [if_pos c45] at H
                                      have c45b0 : decide (0 ≤ (ji44)) = true := decide_eq_true c45
                                      clear c45
                                      by_cases c46 : (ji44) < (t1075.length : Int)
                                      · rw [if_pos c46] at H
                                        have c46b0 : decide ((ji44) < (t1075.length : Int)) = true := decide_eq_true c46
                                        clear c46
                                        by_cases c47 : 0 ≤ x14_1
                                        · rw [if_pos c47] at H
                                          have c47b0 : decide (0 ≤ x14_1) = true := decide_eq_true c47
                                          clear c47
                                          by_cases c48 : x14_1 < ((rd_L1 t1075 (ji44)).length : Int)
                                          · rw [if_pos c48] at H
                                            have c48b0 : decide (x14_1 < ((rd_L1 t1075 (ji44)).length : Int)) = true := decide_eq_true c48
                                            clear c48
                                            by_cases c49 : (wrap64 ((rd (rd_L1 t1075 (ji44)) x14_1) + a3)) = (rd (rd_L1 t1075 x13_1) x14_1)
                                            · rw [if_pos c49] at H
                                              have c49b0 : ((wrap64 ((rd (rd_L1 t1075 (ji44)) x14_1) + a3)) == (rd (rd_L1 t1075 x13_1) x14_1)) = true := beq_iff_eq.mpr c49
                                              have c49b1 : ((wrap64 ((rd (rd_L1 t1075 (ji44)) x14_1) + a3)) != (rd (rd_L1 t1075 x13_1) x14_1)) = false := bne_eq_false_iff_eq.mpr c49
                                              clear c49
                                              by_cases c50 : x12_1.size + 1 ≤ 9223372036854775807
                                              · rw [if_pos c50] at H
                                                have c50b0 := eq_true c50
                                                have c50b1 : decide (x12_1.size + 1 ≤ 9223372036854775807) = true := decide_eq_true c50
                                                try have c50b2 : (9223372036854775807 < x12_1.size + 1) = False := eq_false (Nat.not_lt.2 c50)
                                                have H' := Aside0.mk H
                                                clear H
                                                have p1088 : 0 ≤ ((ji44) : Int) := of_decide_eq_true (by first | (with_reducible assumption) | assumption)
                                                have q1088 : (ji44) < (t1075.length : Int) := of_decide_eq_true (by first | (with_reducible assumption) | assumption)
                                                obtain ⟨ad1088, A1088_0, c1088_0, e1088, hx1088_0, hl1088_0, hi1088_0⟩ := at_L1 (Kd.S_reads' HO_11.out).2.2 (ji44) p1088 q1088
                                                obtain rfl : ad1078 = ad1088 := (by injection e1088)
                                                obtain ⟨ce1088, hce1088, hMe1088, hcc1088⟩ := Kd.S_get HO_11.out [] (ji44) p1088 (by first | exact q1088 | exact of_decide_eq_true (by first | (with_reducible assumption) | assumption) | (have e_ := (Kd.S_reads' HO_11.out).1; omega))
                                                obtain ⟨ve1088_0, rfl, ge1088_0⟩ := hMe1088
                                                have hv1088_0 := hcc1088 0 _ rfl
                                                rw [Nat.add_zero, show ((Kd.slice 2 (Kd.int .i64))).sz = 1 from rfl, Nat.mul_one] at hv1088_0
                                                replace hv1088_0 := Option.some.inj (hv1088_0.symm.trans hx1088_0)
                                                rw [hv1088_0] at ge1088_0
                                                have HL1088_0 := Aside0.mk (show Kd.R (Kd.int .i64) 2 _ _ _ _ (rd_L1 t1075 (ji44)) from ge1088_0)
                                                clear hv1088_0 ge1088_0
                                                clear hcc1088 hce1088
                                                have HR1088_0 := Aside0.mk hi1088_0
                                                have HC1088_0 := Aside0.mk hl1088_0
                                                clear hi1088_0 hl1088_0
                                                replace p1088 := eq_true p1088
                                                replace q1088 := eq_true q1088
                                                have p1089 : 0 ≤ (x14_1 : Int) := of_decide_eq_true (by first | (with_reducible assumption) | assumption)
                                                have q1089 : x14_1 < ((rd_L1 t1075 (ji44)).length : Int) := of_decide_eq_true (by first | (with_reducible assumption) | assumption)
                                                obtain ⟨ad1089, e1089, hx1089_0⟩ := Kd.at_int (by repeat (first | (with_reducible exact HR1088_0.out) | (with_reducible refine Kd.C_alloc ?_ _) | (with_reducible refine Kd.C_drewN ?_ _) | (with_reducible refine Kd.C_drew ?_) | exact HR1088_0.out)) x14_1 p1089 q1089
                                                cases e1089
                                                replace p1089 := eq_true p1089
                                                replace q1089 := eq_true q1089
                                                go_wp2
                                                repeat (go_quiet (fail); try go_wp2)
                                                go_roundg kj28
                                                case measure => have := HK1.out; have := HJ8.out; have := HJ15.out; have := HJ28.out; omega
                                                case rel => exact ⟨(x12_1 ++ (⟨#[45]⟩ : ByteArray)), (ji44), (x14_1), (by first | rfl | (simp; done) | (simp [*]; done)), (by first | rfl | (simp; done) | (simp only [← hji44] <;> (first | rfl | simp)) | (simp [*]; done)), (by first | rfl | (simp; done) | (simp [*]; done)), H', ⟨by have := HK1.out; have := HJ8.out; have := HJ15.out; have := HJ28.out; omega⟩, ⟨by (with_reducible repeat (first | apply Kd.S_alloc | apply Kd.S_drewN | apply Kd.S_drew)); exact HO_11.out⟩, ⟨by repeat (first | (with_reducible first | exact HB.out | apply below_alloc | apply pw_below_drewN | apply below_drew1) | exact HB.out)⟩⟩
                                              · rw [if_neg c50] at H
                                                exact absurd H (by simp)
                                            · rw [if_neg c49] at H
                                              have c49b0 : ((wrap64 ((rd (rd_L1 t1075 (ji44)) x14_1) + a3)) == (rd (rd_L1 t1075 x13_1) x14_1)) = false := beq_eq_false_iff_ne.mpr c49
                                              have c49b1 : ((wrap64 ((rd (rd_L1 t1075 (ji44)) x14_1) + a3)) != (rd (rd_L1 t1075 x13_1) x14_1)) = true := bne_iff_ne.mpr c49
                                              by_cases c51 : x12_1.size + 1 ≤ 9223372036854775807
                                              · rw [if_pos c51] at H
                                                have c51b0 := eq_true c51
                                                have c51b1 : decide (x12_1.size + 1 ≤ 9223372036854775807) = true := decide_eq_true c51
                                                try have c51b2 : (9223372036854775807 < x12_1.size + 1) = False := eq_false (Nat.not_lt.2 c51)
                                                have H' := Aside0.mk H
                                                clear H
                                                have p1088 : 0 ≤ ((ji44) : Int) := of_decide_eq_true (by first | (with_reducible assumption) | assumption)
                                                have q1088 : (ji44) < (t1075.length : Int) := of_decide_eq_true (by first | (with_reducible assumption) | assumption)
                                                obtain ⟨ad1088, A1088_0, c1088_0, e1088, hx1088_0, hl1088_0, hi1088_0⟩ := at_L1 (Kd.S_reads' HO_11.out).2.2 (ji44) p1088 q1088
                                                obtain rfl : ad1078 = ad1088 := (by injection e1088)
                                                obtain ⟨ce1088, hce1088, hMe1088, hcc1088⟩ := Kd.S_get HO_11.out [] (ji44) p1088 (by first | exact q1088 | exact of_decide_eq_true (by first | (with_reducible assumption) | assumption) | (have e_ := (Kd.S_reads' HO_11.out).1; omega))
                                                obtain ⟨ve1088_0, rfl, ge1088_0⟩ := hMe1088
                                                have hv1088_0 := hcc1088 0 _ rfl
                                                rw [Nat.add_zero, show ((Kd.slice 2 (Kd.int .i64))).sz = 1 from rfl, Nat.mul_one] at hv1088_0
                                                replace hv1088_0 := Option.some.inj (hv1088_0.symm.trans hx1088_0)
                                                rw [hv1088_0] at ge1088_0
                                                have HL1088_0 := Aside0.mk (show Kd.R (Kd.int .i64) 2 _ _ _ _ (rd_L1 t1075 (ji44)) from ge1088_0)
                                                clear hv1088_0 ge1088_0
                                                clear hcc1088 hce1088
                                                have HR1088_0 := Aside0.mk hi1088_0
                                                have HC1088_0 := Aside0.mk hl1088_0
                                                clear hi1088_0 hl1088_0
                                                replace p1088 := eq_true p1088
                                                replace q1088 := eq_true q1088
                                                have p1089 : 0 ≤ (x14_1 : Int) := of_decide_eq_true (by first | (with_reducible assumption) | assumption)
                                                have q1089 : x14_1 < ((rd_L1 t1075 (ji44)).length : Int) := of_decide_eq_true (by first | (with_reducible assumption) | assumption)
                                                obtain ⟨ad1089, e1089, hx1089_0⟩ := Kd.at_int (by repeat (first | (with_reducible exact HR1088_0.out) | (with_reducible refine Kd.C_alloc ?_ _) | (with_reducible refine Kd.C_drewN ?_ _) | (with_reducible refine Kd.C_drew ?_) | exact HR1088_0.out)) x14_1 p1089 q1089
                                                cases e1089
                                                replace p1089 := eq_true p1089
                                                replace q1089 := eq_true q1089
                                                go_wp2
                                                repeat (go_quiet (fail); try go_wp2)
                                                go_roundg kj28
                                                case measure => have := HK1.out; have := HJ8.out; have := HJ15.out; have := HJ28.out; omega
                                                case rel => exact ⟨(x12_1 ++ (⟨#[43]⟩ : ByteArray)), (x13_1), (wrap64 (x14_1 + 1)), (by first | rfl | (simp; done) | (simp [*]; done)), (by first | rfl | (simp; done) | (simp [*]; done)), (by first | rfl | (simp; done) | (simp [*]; done)), H', ⟨by have := HK1.out; have := HJ8.out; have := HJ15.out; have := HJ28.out; omega⟩, ⟨by (with_reducible repeat (first | apply Kd.S_alloc | apply Kd.S_drewN | apply Kd.S_drew)); exact HO_11.out⟩, ⟨by repeat (first | (with_reducible first | exact HB.out | apply below_alloc | apply pw_below_drewN | apply below_drew1) | exact HB.out)⟩⟩
                                              · rw [if_neg c51] at H
                                                exact absurd H (by simp)
                                          · rw [if_neg c48] at H
                                            exact absurd H (by simp)
                                        · rw [if_neg c47] at H
                                          exact absurd H (by simp)
                                      · rw [if_neg c46] at H
                                        exact absurd H (by simp)
                                    · rw [if_neg c45] at H
                                      exact absurd H (by simp)
                                  · rw [if_neg c43] at H
                                    have c43b0 : decide (x13_1 < (l0.length : Int)) = false := decide_eq_false c43
                                    clear c43
                                    by_cases c52 : x12_1.size + 1 ≤ 9223372036854775807
                                    · rw [if_pos c52] at H
                                      have c52b0 := eq_true c52
                                      have c52b1 : decide (x12_1.size + 1 ≤ 9223372036854775807) = true := decide_eq_true c52
                                      try have c52b2 : (9223372036854775807 < x12_1.size + 1) = False := eq_false (Nat.not_lt.2 c52)
                                      have H' := Aside0.mk H
                                      clear H
                                      go_wp2
                                      repeat (go_quiet (fail); try go_wp2)
                                      go_roundg kj28
                                      case measure => have := HK1.out; have := HJ8.out; have := HJ15.out; have := HJ28.out; omega
                                      case rel => exact ⟨(x12_1 ++ (⟨#[43]⟩ : ByteArray)), (x13_1), (wrap64 (x14_1 + 1)), (by first | rfl | (simp; done) | (simp [*]; done)), (by first | rfl | (simp; done) | (simp [*]; done)), (by first | rfl | (simp; done) | (simp [*]; done)), H', ⟨by have := HK1.out; have := HJ8.out; have := HJ15.out; have := HJ28.out; omega⟩, ⟨by (with_reducible repeat (first | apply Kd.S_alloc | apply Kd.S_drewN | apply Kd.S_drew)); exact HO_11.out⟩, ⟨by repeat (first | (with_reducible first | exact HB.out | apply below_alloc | apply pw_below_drewN | apply below_drew1) | exact HB.out)⟩⟩
                                    · rw [if_neg c52] at H
                                      exact absurd H (by simp)
                    · rw [if_neg c15] at H
                      exact absurd H (by simp)
                  · rw [if_neg c14] at H
                    exact absurd H (by simp)
                · rw [if_neg c13] at H
                  exact absurd H (by simp)
              · rw [if_neg c12] at H
                exact absurd H (by simp)
            · replace c11 := Bool.eq_false_iff.mpr c11
              subst c11
              have H1 : (some (x12_1, 0)) = some (r1, r2) := by rw [if_neg (show ¬ (false = true) by decide)] at H; exact H
              clear H
              have H := H1
              clear H1
              simp only [Option.some.injEq, Prod.mk.injEq] at H
              obtain ⟨rfl, rfl⟩ := H
              go_wp2
              repeat (go_quiet (fail); try go_wp2)
              go_ret2
              exact ⟨by first | rfl | (simp [errW_none, errW_some] <;> rfl) | (simp [*, errW_none, errW_some] <;> rfl), by repeat (first | (with_reducible first | exact HB.out | apply below_alloc | apply pw_below_drewN | apply below_drew1) | exact HB.out)⟩
  · rw [if_neg c6] at H
    have c6b0 : (t1074 == 0) = false := beq_eq_false_iff_ne.mpr c6
    have c6b1 : (t1074 != 0) = true := bne_iff_ne.mpr c6
    simp only [Option.some.injEq, Prod.mk.injEq] at H
    obtain ⟨rfl, rfl⟩ := H
    go_enter Try.func41, Try.ntmps41
    go_wp2_with (first | (go_at_call 75; (with_reducible refine (spec_l12Ask.calls k _ _ l0 _ _ l1 a2 a3 t1074 _ ?side1 ?side2 ?side3 ?side4 A5.out).mono ?_); (case side1 => repeat (first | exact HR0.out | (with_reducible refine Kd.C_alloc ?_ _) | (with_reducible refine Kd.C_drewN ?_ _) | (with_reducible refine Kd.C_drew ?_))); (case side2 => exact HC0.out); (case side3 => repeat (first | exact HR1.out | (with_reducible refine Kd.C_alloc ?_ _) | (with_reducible refine Kd.C_drewN ?_ _) | (with_reducible refine Kd.C_drew ?_))); (case side4 => exact HC1.out); rintro e w' ⟨rfl, ⟨nd, rfl⟩⟩; (try first | exact ⟨rfl, _, World.drewN_drewN _ _ _⟩ | exact ⟨rfl, _, Eq.trans (World.drewN_drewN _ _ _) (congrArg (World.drewN _) (Nat.add_assoc _ _ _))⟩)))
    repeat (go_quiet (first | (go_at_call 75; (with_reducible refine (spec_l12Ask.calls k _ _ l0 _ _ l1 a2 a3 t1074 _ ?side1 ?side2 ?side3 ?side4 A5.out).mono ?_); (case side1 => repeat (first | exact HR0.out | (with_reducible refine Kd.C_alloc ?_ _) | (with_reducible refine Kd.C_drewN ?_ _) | (with_reducible refine Kd.C_drew ?_))); (case side2 => exact HC0.out); (case side3 => repeat (first | exact HR1.out | (with_reducible refine Kd.C_alloc ?_ _) | (with_reducible refine Kd.C_drewN ?_ _) | (with_reducible refine Kd.C_drew ?_))); (case side4 => exact HC1.out); rintro e w' ⟨rfl, ⟨nd, rfl⟩⟩; (try first | exact ⟨rfl, _, World.drewN_drewN _ _ _⟩ | exact ⟨rfl, _, Eq.trans (World.drewN_drewN _ _ _) (congrArg (World.drewN _) (Nat.add_assoc _ _ _))⟩))); try go_wp2_with (first | (go_at_call 75; (with_reducible refine (spec_l12Ask.calls k _ _ l0 _ _ l1 a2 a3 t1074 _ ?side1 ?side2 ?side3 ?side4 A5.out).mono ?_); (case side1 => repeat (first | exact HR0.out | (with_reducible refine Kd.C_alloc ?_ _) | (with_reducible refine Kd.C_drewN ?_ _) | (with_reducible refine Kd.C_drew ?_))); (case side2 => exact HC0.out); (case side3 => repeat (first | exact HR1.out | (with_reducible refine Kd.C_alloc ?_ _) | (with_reducible refine Kd.C_drewN ?_ _) | (with_reducible refine Kd.C_drew ?_))); (case side4 => exact HC1.out); rintro e w' ⟨rfl, ⟨nd, rfl⟩⟩; (try first | exact ⟨rfl, _, World.drewN_drewN _ _ _⟩ | exact ⟨rfl, _, Eq.trans (World.drewN_drewN _ _ _) (congrArg (World.drewN _) (Nat.add_assoc _ _ _))⟩))))
    go_ret2
    exact ⟨by first | rfl | (simp [errW_none, errW_some] <;> rfl) | (simp [*, errW_none, errW_some] <;> rfl), by repeat (first | (with_reducible first | exact HB.out | apply below_alloc | apply pw_below_drewN | apply below_drew1) | exact HB.out)⟩

end Go.Proofs.Ytddhommmokdlnaa.P
end

section
/- How the arguments of this seat's laws read, as the kinds of the printed words: an argument that the row reads has the cells of its kind, and its numbers, texts and lengths are in bounds. No condition. -/
namespace Go.Proofs.Ytddhommmokdlnaa.P
open Go.RowKit Go.ChangeShapes Go.WideShapes Go.Proofs.YtddhommmokdlnaaW.PrintWords Go.Proofs.YtddhommmokdlnaaW.PrintLast
set_option linter.unusedVariables false

section
variable {H : Type} {enc : TypeId × Value → H} {P : Program} {w : World} {held : Bool}

theorem list_choose {α : Type} (p : Nat → α → Prop) : ∀ n, (∀ i, i < n → ∃ y, p i y) → ∃ ys : List α, ys.length = n ∧ ∀ (i : Nat) (y : α), ys[i]? = some y → p i y := by
  intro n
  induction n with
  | zero => exact fun _ => ⟨[], rfl, fun i y h => by simp at h⟩
  | succ n ih =>
    intro h
    obtain ⟨ys, hl, hp⟩ := ih (fun i hi => h i (by omega))
    obtain ⟨z, hz⟩ := h n (by omega)
    refine ⟨ys ++ [z], by simp [hl], fun i y hy => ?_⟩
    rcases Nat.lt_or_ge i ys.length with hi | hi
    · rw [List.getElem?_append_left hi] at hy
      exact hp i y hy
    · rw [List.getElem?_append_right hi] at hy
      have h0 : i - ys.length = 0 := by
        rcases Nat.eq_zero_or_pos (i - ys.length) with h1 | h1
        · exact h1
        · rw [List.getElem?_eq_none (by simp; omega)] at hy
          cases hy
      rw [h0] at hy
      simp only [List.getElem?_cons_zero, Option.some.injEq] at hy
      subst hy
      have : i = n := by omega
      subst this
      exact hz

theorem len_cons {n : Nat} {cs : List Value} (h : cs.length = n + 1) : ∃ c t, cs = c :: t ∧ t.length = n := by
  cases cs with
  | nil => simp at h
  | cons c t => exact ⟨c, t, rfl, by simpa using h⟩

theorem opn_int {t : TypeId} {k : IntKind} (ht : P.underlying t = some (.int k)) {fuel : Nat} {cs : List Value} {x : DataW H × List MemPlace} (h : DataW.trod enc P w 0 (fun _ => true) held fuel t cs = some x) :
    ∃ y : Int, (Kd.int k).K w y cs ∧ (Lit.int k y).wf = true := by
  obtain ⟨n, hcs, _, hw⟩ := DataW.trod_int ht h
  exact ⟨n, hcs, hw⟩

theorem opn_bool {t : TypeId} (ht : P.underlying t = some .bool) {fuel : Nat} {cs : List Value} {x : DataW H × List MemPlace} (h : DataW.trod enc P w 0 (fun _ => true) held fuel t cs = some x) :
    ∃ y : Bool, Kd.bool.K w y cs ∧ True := by
  obtain ⟨b, hcs, _⟩ := DataW.trod_bool ht h
  exact ⟨b, hcs, trivial⟩

theorem opn_string {t : TypeId} (ht : P.underlying t = some .string) {fuel : Nat} {cs : List Value} {x : DataW H × List MemPlace} (h : DataW.trod enc P w 0 (fun _ => true) held fuel t cs = some x) :
    ∃ y : ByteArray, Kd.string.K w y cs ∧ y.size ≤ maxLen := by
  obtain ⟨s, hcs, _, hs⟩ := DataW.trod_string ht h
  exact ⟨s, hcs, hs⟩

theorem opn_slice {α : Type} (d : Kd α) (ok : α → Prop) {t e : TypeId} (ht : P.underlying t = some (.slice e)) (ce : P.cellsOf e = d.sz)
    (hE : ∀ {fuel : Nat} {cs : List Value} {x : DataW H × List MemPlace}, DataW.trod enc P w 0 (fun _ => true) held fuel e cs = some x → ∃ y : α, d.K w y cs ∧ ok y)
    {fuel : Nat} {cs : List Value} {x : DataW H × List MemPlace} (h : DataW.trod enc P w 0 (fun _ => true) held fuel t cs = some x) :
    ∃ ys : List α, (Kd.slice e d).K w ys cs ∧ ys.length ≤ maxLen ∧ ∀ y ∈ ys, ok y := by
  rcases Go.Deep.open_slice ht h with ⟨rfl, _⟩ | ⟨a, len, cap, m, n, D, Pl, rfl, hb, hl, hm, hmm, rfl, hx⟩
  · exact ⟨[], ⟨none, 0, rfl, Nat.le_refl _, rfl, by simp, fun h => absurd h (Nat.lt_irrefl 0)⟩, Nat.zero_le _, by simp⟩
  · simp only [if_true] at hmm
    subst hmm
    obtain ⟨ys, hyl, hy⟩ := list_choose (fun i (y : α) => (∃ cs', w.cells? 0 (a.add (i * P.cellsOf e)) (P.cellsOf e) = some cs' ∧ d.K w y cs') ∧ ok y) len (fun i hi => by
      obtain ⟨cs', h1, h2⟩ := hx i (by omega)
      obtain ⟨y, hk, ho⟩ := hE h2
      exact ⟨y, ⟨cs', h1, hk⟩, ho⟩)
    subst hyl
    refine ⟨ys, ⟨some a, m, rfl, hl, rfl, Nat.le_trans hl (by unfold maxLen at hm; exact hm), fun _ => ⟨a, rfl, fun j p hp => ?_⟩⟩, Nat.le_trans hl hm, fun y hmem => ?_⟩
    · obtain ⟨⟨cs', h1, hk⟩, _⟩ := hy j p hp
      obtain ⟨_, hlen, hcell⟩ := World.cells?_some h1
      rw [ce] at hlen hcell
      refine ⟨cs', hlen, hk, fun i u hu => ?_⟩
      have hi : i < d.sz := by
        rw [← hlen]
        exact (List.getElem?_eq_some_iff.1 hu).1
      have := hcell i hi
      rw [Go.Deep.add_add] at this
      rw [this, hu]
    · obtain ⟨i, hi⟩ := List.getElem?_of_mem hmem
      exact (hy i y hi).2
end
theorem opn_L22 {H : Type} {enc : TypeId × Value → H} {w : World} {held : Bool} {fuel : Nat} {cs : List Value} {x : DataW H × List MemPlace} (h : DataW.trod enc Try.prog w 0 (fun _ => true) held fuel 22 cs = some x) :
    ∃ y : List Int, (Kd.slice 2 (Kd.int .i64)).K w y cs ∧ y.length ≤ maxLen ∧ ∀ y0 ∈ y, (Lit.int .i64 y0).wf = true :=
  opn_slice (Kd.int .i64) (fun y0 => (Lit.int .i64 y0).wf = true) Try.underlying22 (show Try.prog.cellsOf 2 = _ by kernel_rfl) (fun h => (opn_int Try.underlying2) h) h
end Go.Proofs.Ytddhommmokdlnaa.P
end

section
/- Plain words on what holds from some number of rounds on. No program in them. -/
namespace Go.Proofs.Ytddhommmokdlnaa.P
open Go.RowKit Go.Proofs.Ytddhommmokdlnaa.P Go.Proofs.YtddhommmokdlnaaW.PrintWords Go.Proofs.YtddhommmokdlnaaW.PrintLast Go.Proofs.YtddhommmokdlnaaW.PrintMore
set_option linter.unusedVariables false
set_option linter.unusedSimpArgs false

theorem Ev.succ {α : Type} {g : Nat → Option α} {r : α} (h : Ev (fun k => g (k + 1)) r) : Ev g r := Ev.step (f := fun k => g (k + 1)) (fun _ => rfl) h
theorem Ev.ite_pos {α : Type} {c : Prop} [Decidable c] {f g : Nat → Option α} {r : α} (hc : c) (h : Ev f r) : Ev (fun k => if c then f k else g k) r := Ev.congr (fun _ => if_pos hc) h
theorem Ev.ite_neg {α : Type} {c : Prop} [Decidable c] {f g : Nat → Option α} {r : α} (hc : ¬ c) (h : Ev g r) : Ev (fun k => if c then f k else g k) r := Ev.congr (fun _ => if_neg hc) h
theorem Ev.bindc {α β : Type} {o : Option α} {f : Nat → α → Option β} {a : α} {r : β} (ho : o = some a) (h : Ev (fun k => f k a) r) : Ev (fun k => o.bind (f k)) r := Ev.congr (fun _ => by rw [ho]; rfl) h
theorem Ev.konst {α : Type} {o : Option α} {r : α} (h : o = some r) : Ev (fun _ => o) r := ⟨0, fun _ _ => h⟩
theorem Ev.both {α : Type} {g : Nat → Option α} {r q : α} (h : Ev g r) (h' : Ev g q) : r = q := by
  obtain ⟨a, ha⟩ := h
  obtain ⟨b, hb⟩ := h'
  have h1 := ha (max a b) (Nat.le_max_left _ _)
  have h2 := hb (max a b) (Nat.le_max_right _ _)
  rw [h1] at h2
  exact Option.some.inj h2
theorem Ev.cast {α : Type} {g : Nat → Option α} {r q : α} (h : Ev g r) (e : r = q) : Ev g q := e ▸ h
theorem Ev.out {α : Type} {g : Nat → Option α} {r : α} (h : Ev g r) : ∃ k, g k = some r := h.rounds

/-- A sum, a difference that needs no wrap. -/
theorem w64 {x : Int} (h0 : -9223372036854775808 ≤ x) (h1 : x ≤ 9223372036854775807) : wrap64 x = x := by unfold wrap64; omega
theorem mn_eq (a b : Int) : mn a b = min a b := by unfold mn; split <;> omega
theorem mx_eq (a b : Int) : mx a b = max a b := by unfold mx; split <;> omega
theorem wf64 {x : Int} (h : (Lit.int .i64 x).wf = true) : -9223372036854775808 ≤ x ∧ x ≤ 9223372036854775807 := by
  simp [Lit.wf, IntKind.min, IntKind.max, IntKind.signed, IntKind.bits] at h
  omega

end Go.Proofs.Ytddhommmokdlnaa.P
end

section
namespace Go.Proofs.Ytddhommmokdlnaa.P
open Go.RowKit Go.Proofs.YtddhommmokdlnaaW.PrintWords Go.Proofs.YtddhommmokdlnaaW.PrintLast Go.Proofs.YtddhommmokdlnaaW.PrintMore
attribute [local go_sem] max2_int min2_int max_two min_two max_three min_three max_four min_four   -- for this text's walks alone
set_option linter.unusedVariables false
set_option linter.unusedSimpArgs false

/-! ### laws_heldInt64S: function 20 -/
def laws_heldInt64S.l0 : Nat → List Int → Int → Int → Option (Int)
  | 0, _, _, _ => none
  | k + 1, x0, x1, x5 => if x5 < (x0.length : Int) then (if 0 ≤ x5 then (if (rd x0 x5) = x1 then (laws_heldInt64S.l0 k x0 (wrap64 (x1 + 1)) (wrap64 (x5 + 1))) else (some (-1))) else (none)) else (some x1)
def laws_heldInt64S.f (k : Nat) (l0 : List Int) (a1 : Int) : Option (Int) := laws_heldInt64S.l0 k l0 a1 0
theorem laws_heldInt64S.mono_l : ∀ k, (∀ y0 y1 y2, LeO (laws_heldInt64S.l0 k y0 y1 y2) (laws_heldInt64S.l0 (k + 1) y0 y1 y2))
  | 0 => fun _ _ _ r h => by simp [laws_heldInt64S.l0] at h
  | k + 1 => by
    have ih0 := laws_heldInt64S.mono_l k
    · intro y0 y1 y2
      unfold laws_heldInt64S.l0
      repeat' first
      | (with_reducible exact ih0 _ _ _)
      | (with_reducible exact LeO.refl _)
      | (with_reducible exact LeO.none _)
      | (with_reducible refine LeO.ite ?_ ?_)
      | (with_reducible refine LeO.bind ?_ (fun _ => ?_))
      | exact ih0 _ _ _
      | exact LeO.none _
      | refine LeO.ite ?_ ?_
      | refine LeO.bind ?_ (fun _ => ?_)
theorem laws_heldInt64S.mono : ∀ a0 a1 k, LeO (laws_heldInt64S.f k a0 a1) (laws_heldInt64S.f (k + 1) a0 a1) := by
  intro a0 a1 k
  have ih0 := laws_heldInt64S.mono_l k
  unfold laws_heldInt64S.f
  repeat' first
      | (with_reducible exact ih0 _ _ _)
      | (with_reducible exact LeO.refl _)
      | (with_reducible exact LeO.none _)
      | (with_reducible refine LeO.ite ?_ ?_)
      | (with_reducible refine LeO.bind ?_ (fun _ => ?_))
      | exact ih0 _ _ _
      | exact LeO.none _
      | refine LeO.ite ?_ ?_
      | refine LeO.bind ?_ (fun _ => ?_)
set_option maxHeartbeats 8000000 in
set_option maxRecDepth 100000 in
theorem laws_heldInt64S.calls (k : Nat) (A0 : Option Addr) (c0 : Nat) (l0 : List Int) (a1 : Int) (r : Int) (w : World) (hr0 : Kd.C (Kd.int .i64) w A0 l0.length l0) (hc0 : l0.length ≤ c0) (h : laws_heldInt64S.f k l0 a1 = some r) :
    Calls Try.prog 20 #[.slice A0 l0.length c0, .int .i64 a1] w fun e w' => e = .returned (.int .i64 r) ∧ Drawn0 w w' := by
  have HR0 := Aside0.mk hr0
  have HC0 := Aside0.mk hc0
  clear hr0 hc0
  have H : (laws_heldInt64S.l0 k l0 a1 0) = some r := h
  clear h
  have H' := Aside0.mk H
  clear H
  go_enter Try.func20, Try.ntmps20
  go_wp2
  go_loopg [1, 5] k (fun kq v1 v5 w' => ∃ (x1_1 : Int) (x5_1 : Int), v1 = .int .i64 x1_1 ∧ v5 = .int .i64 x5_1 ∧ Aside0 (laws_heldInt64S.l0 kq l0 x1_1 x5_1 = some r) ∧ Aside0 (kq ≤ k) ∧ Drawn0 w w')
  case atStart => exact ⟨(a1), (0), (by first | rfl | (simp; done) | (simp [*]; done)), (by first | rfl | (simp; done) | (simp [*]; done)), H', ⟨Nat.le_refl _⟩, by repeat (first | exact Drawn0.refl _ | apply Drawn0.step)⟩
  case round =>
    clear H'
    try clear c2
    try clear p2
    obtain ⟨x1_1, x5_1, rfl, rfl, HA, HK1, ⟨m1, rfl⟩⟩ := hrel
    cases gk with
    | zero => exact absurd HA.out (by simp [laws_heldInt64S.l0])
    | succ k1 =>
      have H := HA.out
      clear HA
      simp only [laws_heldInt64S.l0] at H
      by_cases c3 : x5_1 < (l0.length : Int)
      · rw [if_pos c3] at H
        have c3b0 : decide (x5_1 < (l0.length : Int)) = true := decide_eq_true c3
        clear c3
        by_cases c4 : 0 ≤ x5_1
        · rw [if_pos c4] at H
          have c4b0 : decide (0 ≤ x5_1) = true := decide_eq_true c4
          clear c4
          by_cases c5 : (rd l0 x5_1) = x1_1
          · rw [if_pos c5] at H
            have c5b0 : ((rd l0 x5_1) == x1_1) = true := beq_iff_eq.mpr c5
            have c5b1 : ((rd l0 x5_1) != x1_1) = false := bne_eq_false_iff_eq.mpr c5
            clear c5
            have H' := Aside0.mk H
            clear H
            have p132 : 0 ≤ (x5_1 : Int) := of_decide_eq_true (by first | (with_reducible assumption) | assumption)
            have q132 : x5_1 < (l0.length : Int) := of_decide_eq_true (by first | (with_reducible assumption) | assumption)
            obtain ⟨ad132, e132, hx132_0⟩ := Kd.at_int HR0.out x5_1 p132 q132
            cases e132
            replace p132 := eq_true p132
            replace q132 := eq_true q132
            go_wp2
            go_roundg k1
            case measure => have := HK1.out; omega
            case rel => exact ⟨(wrap64 (x1_1 + 1)), (wrap64 (x5_1 + 1)), (by first | rfl | (simp; done) | (simp [*]; done)), (by first | rfl | (simp; done) | (simp [*]; done)), H', ⟨by have := HK1.out; omega⟩, by repeat (first | exact Drawn0.refl _ | apply Drawn0.step)⟩
          · rw [if_neg c5] at H
            have c5b0 : ((rd l0 x5_1) == x1_1) = false := beq_eq_false_iff_ne.mpr c5
            have c5b1 : ((rd l0 x5_1) != x1_1) = true := bne_iff_ne.mpr c5
            obtain rfl := Option.some.inj H
            have p132 : 0 ≤ (x5_1 : Int) := of_decide_eq_true (by first | (with_reducible assumption) | assumption)
            have q132 : x5_1 < (l0.length : Int) := of_decide_eq_true (by first | (with_reducible assumption) | assumption)
            obtain ⟨ad132, e132, hx132_0⟩ := Kd.at_int HR0.out x5_1 p132 q132
            cases e132
            replace p132 := eq_true p132
            replace q132 := eq_true q132
            go_wp2
            go_ret
            exact ⟨by first | rfl | (simp; done) | (simp [*]; done), by repeat (first | exact Drawn0.refl _ | apply Drawn0.step)⟩
        · rw [if_neg c4] at H
          exact absurd H (by simp)
      · rw [if_neg c3] at H
        have c3b0 : decide (x5_1 < (l0.length : Int)) = false := decide_eq_false c3
        clear c3
        obtain rfl := Option.some.inj H
        go_wp2
        go_ret
        exact ⟨by first | rfl | (simp; done) | (simp [*]; done), by repeat (first | exact Drawn0.refl _ | apply Drawn0.step)⟩

end Go.Proofs.Ytddhommmokdlnaa.P
end

section
namespace Go.Proofs.Ytddhommmokdlnaa.P
open Go.RowKit Go.Proofs.YtddhommmokdlnaaW.PrintWords Go.Proofs.YtddhommmokdlnaaW.PrintLast Go.Proofs.YtddhommmokdlnaaW.PrintMore
attribute [local go_sem] max2_int min2_int max_two min_two max_three min_three max_four min_four   -- for this text's walks alone
set_option linter.unusedVariables false
set_option linter.unusedSimpArgs false

/-! ### laws_markInt64S: function 19 -/
def laws_markInt64S.l0 : Nat → List Int → Int → Int → Option (Int × List Int)
  | 0, _, _, _ => none
  | k + 1, x0, x1, x5 => if x5 < (x0.length : Int) then (if 0 ≤ x5 then (laws_markInt64S.l0 k (x0.set (x5 : Int).toNat x1) (wrap64 (x1 + 1)) (wrap64 (x5 + 1))) else (none)) else (some (x1, x0))
def laws_markInt64S.f (k : Nat) (l0 : List Int) (a1 : Int) : Option (Int × List Int) := laws_markInt64S.l0 k l0 a1 0
theorem laws_markInt64S.mono_l : ∀ k, (∀ y0 y1 y2, LeO (laws_markInt64S.l0 k y0 y1 y2) (laws_markInt64S.l0 (k + 1) y0 y1 y2))
  | 0 => fun _ _ _ r h => by simp [laws_markInt64S.l0] at h
  | k + 1 => by
    have ih0 := laws_markInt64S.mono_l k
    · intro y0 y1 y2
      unfold laws_markInt64S.l0
      repeat' first
      | (with_reducible exact ih0 _ _ _)
      | (with_reducible exact LeO.refl _)
      | (with_reducible exact LeO.none _)
      | (with_reducible refine LeO.ite ?_ ?_)
      | (with_reducible refine LeO.bind ?_ (fun _ => ?_))
      | exact ih0 _ _ _
      | exact LeO.none _
      | refine LeO.ite ?_ ?_
      | refine LeO.bind ?_ (fun _ => ?_)
theorem laws_markInt64S.mono : ∀ a0 a1 k, LeO (laws_markInt64S.f k a0 a1) (laws_markInt64S.f (k + 1) a0 a1) := by
  intro a0 a1 k
  have ih0 := laws_markInt64S.mono_l k
  unfold laws_markInt64S.f
  repeat' first
      | (with_reducible exact ih0 _ _ _)
      | (with_reducible exact LeO.refl _)
      | (with_reducible exact LeO.none _)
      | (with_reducible refine LeO.ite ?_ ?_)
      | (with_reducible refine LeO.bind ?_ (fun _ => ?_))
      | exact ih0 _ _ _
      | exact LeO.none _
      | refine LeO.ite ?_ ?_
      | refine LeO.bind ?_ (fun _ => ?_)
set_option maxHeartbeats 8000000 in
set_option maxRecDepth 100000 in
theorem laws_markInt64S.calls (k : Nat) (P0_ : Nat → Prop) (u9000_ : Value) (l0 : List Int) (a1 : Int) (r1 : Int) (r2 : List Int) (w0 w : World) (hB : Below w0.heap.size w0 w) (ho0 : Kd.R (Kd.int .i64) 2 w w0.heap.size P0_ u9000_ l0) (h : laws_markInt64S.f k l0 a1 = some (r1, r2)) :
    Calls Try.prog 19 #[u9000_, .int .i64 a1] w fun e w' => e = .returned (.int .i64 r1) ∧ Kd.R (Kd.int .i64) 2 w' w0.heap.size (fun k_ => (P0_ k_ ∨ w.heap.size ≤ k_)) u9000_ r2 ∧ Below w0.heap.size w0 w' ∧ Kept w w' (fun k_ => P0_ k_) := by
  have HO0 := Aside0.mk (show Kd.R (Kd.int .i64) 2 w w0.heap.size (fun k_ => (P0_ k_ ∨ w.heap.size ≤ k_)) u9000_ l0 from Kd.R_mono ho0 (fun k_ hk => (.inl hk)))
  have HK := Aside0.mk (Kept.refl w (fun k_ => P0_ k_))
  have HW0 := Aside0.mk hB.size
  have HB := Aside0.mk hB
  clear hB
  have H : (laws_markInt64S.l0 k l0 a1 0) = some (r1, r2) := h
  clear h
  have H' := Aside0.mk H
  clear H
  go_enter Try.func19, Try.ntmps19
  go_wp2
  go_loopg [1, 5] k (fun kq v1 v5 w' => ∃ (x0_1 : List Int) (x1_1 : Int) (x5_1 : Int), v1 = .int .i64 x1_1 ∧ v5 = .int .i64 x5_1 ∧ Aside0 (laws_markInt64S.l0 kq x0_1 x1_1 x5_1 = some (r1, r2)) ∧ Aside0 (kq ≤ k) ∧ Aside0 (Kd.R (Kd.int .i64) 2 w' w0.heap.size (fun k_ => (P0_ k_ ∨ w.heap.size ≤ k_)) u9000_ x0_1) ∧ Aside0 (Kept w w' (fun k_ => P0_ k_)) ∧ Aside0 (Below w0.heap.size w0 w'))
  case atStart => exact ⟨(l0), (a1), (0), (by first | rfl | (simp; done) | (simp [*]; done)), (by first | rfl | (simp; done) | (simp [*]; done)), H', ⟨Nat.le_refl _⟩, ⟨by (with_reducible repeat (first | apply Kd.R_alloc | apply Kd.R_drewN | apply Kd.R_drew)); exact HO0.out⟩, ⟨by repeat (first | (with_reducible first | exact HK.out | apply Kept.alloc | apply Kept.drewN | apply Kept.drew) | exact HK.out)⟩, ⟨by repeat (first | (with_reducible first | exact HB.out | apply below_alloc | apply pw_below_drewN | apply below_drew1) | exact HB.out)⟩⟩
  case round =>
    clear H'
    try clear c1
    try clear p2
    obtain ⟨x0_1, x1_1, x5_1, rfl, rfl, HA, HK1, HO_0, HK, HB⟩ := hrel
    cases gk with
    | zero => exact absurd HA.out (by simp [laws_markInt64S.l0])
    | succ k1 =>
      have H := HA.out
      clear HA
      simp only [laws_markInt64S.l0] at H
      by_cases c3 : x5_1 < (x0_1.length : Int)
      · rw [if_pos c3] at H
        have c3b0 : decide (x5_1 < (x0_1.length : Int)) = true := decide_eq_true c3
        clear c3
        by_cases c4 : 0 ≤ x5_1
        · rw [if_pos c4] at H
          have c4b0 : decide (0 ≤ x5_1) = true := decide_eq_true c4
          clear c4
          obtain ⟨y131, hy131⟩ : ∃ y_ : List Int, y_ = (x0_1.set (x5_1 : Int).toNat x1_1) := ⟨_, rfl⟩
          replace H : (laws_markInt64S.l0 k1 y131 (wrap64 (x1_1 + 1)) (wrap64 (x5_1 + 1))) = some (r1, r2) := by first | (rw [hy131]; with_reducible exact H) | (have H2_ := (Option.bind_some _ _).symm.trans H; rw [hy131]; with_reducible exact H2_) | (have H2_ := (Option.bind_some _ _).symm.trans H; with_reducible exact H2_) | with_reducible exact H | (rw [hy131]; exact H) | exact H
          have Ny131 := Aside0.mk hy131
          clear hy131
          have H' := Aside0.mk H
          clear H
          obtain ⟨Ao6, co6, eo6⟩ := Kd.R_slice HO_0.out
          subst eo6
          have p5 : 0 ≤ (x5_1 : Int) := of_decide_eq_true (by first | (with_reducible assumption) | assumption)
          have q5 : (x5_1 : Int) < ((x0_1.length : Int) : Int) := of_decide_eq_true (by first | (with_reducible assumption) | assumption)
          obtain ⟨go5, co5, eo5, gb5, gl5, cl5, HG5⟩ := Kd.R_form HO_0.out (by omega)
          (first | cases eo5 | (injection eo5 with ea_ en_ ec_; (first | subst ea_ | (injection ea_ with ea_; subst ea_)); subst ec_; clear en_))
          have GB5 := Aside0.mk gb5
          have GG5 := Aside0.mk HG5
          clear gb5 gl5 HG5
          have HMgo5 := Aside0.mk (show (P0_ go5 ∨ w.heap.size ≤ go5) from (HO_0.out.1 _ rfl))
          obtain ⟨hx5_0, hf5_0⟩ := Kd.R_celln 0 HO_0.out (x5_1 : Int) p5 q5
          replace p5 := eq_true p5
          replace q5 := eq_true q5
          have HP7 := Kd.R_putg HO_0.out (x5_1 : Int) x1_1
          go_wp2_with (first | ((with_reducible refine gate_store (t := 2) (p := 15) rfl ?_); refine store_event (t := 2) (p := 15) (v := ?vo_w8) (w1 := (wr.setCell ⟨go5, (x5_1 : Int).toNat, none⟩ (.int .i64 x1_1))) ?hg ?ho ?hn ?hr ?_; (case ho => rfl); (case hg => rfl); (case hn => rfl); (case hr => first | (go_simp; done) | (go_simp; rfl)); intro w8 hw; have hg : wr.grownBy w8 (some go5) := (by rw [hw]; exact HP7.2); have hp_ : Kd.R (Kd.int .i64) 2 w8 w0.heap.size (fun k_ => (P0_ k_ ∨ w.heap.size ≤ k_)) (.slice (some ⟨go5, 0, none⟩) x0_1.length co6) y131 := (by rw [hw, Ny131.out]; exact HP7.1); clear HP7; have n0_ := Aside0.mk (hp_); have n1_ := Aside0.mk ((by rw [hw]; exact below_set (HB.out) GB5.out : Below w0.heap.size w0 w8)); have n2_ := Aside0.mk (Kept.of_grown (S := (fun k_ => P0_ k_)) hg (by repeat (first | (with_reducible first | exact HK.out | apply Kept.alloc | apply Kept.drewN | apply Kept.drew) | exact HK.out)) (fun k_ e_ => (HO_0.out.1 k_ e_))); clear HO_0; clear HB; clear HK; have HO_0 := n0_; have HB := n1_; have HK := n2_; clear n0_ n1_ n2_; clear hg hw hp_))
          go_roundg k1
          case measure => have := HK1.out; omega
          case rel => exact ⟨(y131), (wrap64 (x1_1 + 1)), (wrap64 (x5_1 + 1)), (by first | rfl | (simp; done) | (simp [*]; done)), (by first | rfl | (simp; done) | (simp [*]; done)), H', ⟨by have := HK1.out; omega⟩, ⟨by (with_reducible repeat (first | apply Kd.R_alloc | apply Kd.R_drewN | apply Kd.R_drew)); exact HO_0.out⟩, ⟨by repeat (first | (with_reducible first | exact HK.out | apply Kept.alloc | apply Kept.drewN | apply Kept.drew) | exact HK.out)⟩, ⟨by repeat (first | (with_reducible first | exact HB.out | apply below_alloc | apply pw_below_drewN | apply below_drew1) | exact HB.out)⟩⟩
        · rw [if_neg c4] at H
          exact absurd H (by simp)
      · rw [if_neg c3] at H
        have c3b0 : decide (x5_1 < (x0_1.length : Int)) = false := decide_eq_false c3
        clear c3
        simp only [Option.some.injEq, Prod.mk.injEq] at H
        obtain ⟨rfl, rfl⟩ := H
        obtain ⟨Ao9, co9, eo9⟩ := Kd.R_slice HO_0.out
        subst eo9
        go_wp2
        go_ret
        exact ⟨by first | rfl | (simp [errW_none, errW_some] <;> rfl) | (simp [*, errW_none, errW_some] <;> rfl), by (with_reducible repeat (first | apply Kd.R_alloc | apply Kd.R_drewN | apply Kd.R_drew)); exact HO_0.out, by repeat (first | (with_reducible first | exact HB.out | apply below_alloc | apply pw_below_drewN | apply below_drew1) | exact HB.out), by repeat (first | (with_reducible first | exact HK.out | apply Kept.alloc | apply Kept.drewN | apply Kept.drew) | exact HK.out)⟩

end Go.Proofs.Ytddhommmokdlnaa.P
end

section
/- What the laws' own helpers tell of lists of whole numbers: a copy, equality, marks. Plain Lean over the printed functions. -/
namespace Go.Proofs.Ytddhommmokdlnaa.P
open Go.RowKit Go.Proofs.Ytddhommmokdlnaa.P Go.Proofs.YtddhommmokdlnaaW.PrintWords Go.Proofs.YtddhommmokdlnaaW.PrintLast Go.Proofs.YtddhommmokdlnaaW.PrintMore
set_option linter.unusedVariables false
set_option linter.unusedSimpArgs false

theorem set_at {l : List Int} {i : Nat} {v : Int} {m : List Int} (h : i < l.length) (e : l.take i = m) : (l.set i v).take (i + 1) = m ++ [v] := by
  rw [List.take_succ_eq_append_getElem (by simpa using h)]
  simp [List.take_set_of_le, e]
theorem rd_at {l : List Int} {i : Nat} (h : i < l.length) : rd l (i : Int) = l[i] := by simp [rd, h]

theorem toInt64S_l0 (l : List Int) (hl : l.length ≤ 9223372036854775807) : ∀ (d i : Nat) (m : List Int), l.length - i = d → i ≤ l.length → m.length = l.length → m.take i = l.take i → Ev (fun k => laws_toInt64S.l0 k l m i) l := by
  intro d
  induction d with
  | zero =>
    intro i m hd hi hm ht
    have : i = l.length := by omega
    subst this
    refine Ev.succ ?_
    simp only [laws_toInt64S.l0]
    refine Ev.ite_neg (by omega) ?_
    rw [List.take_of_length_le (by omega), List.take_of_length_le (Nat.le_refl _)] at ht
    rw [ht]
    exact Ev.now _
  | succ d ih =>
    intro i m hd hi hm ht
    refine Ev.succ ?_
    simp only [laws_toInt64S.l0]
    refine Ev.ite_pos (by omega) ?_
    refine Ev.ite_pos (by omega) ?_
    refine Ev.ite_pos (by omega) ?_
    rw [w64 (x := (i : Int) + 1) (by omega) (by omega), rd_at (show i < l.length by omega), Int.toNat_natCast]
    have := ih (i + 1) (m.set i l[i]) (by omega) (by omega) (by simpa using hm) (by
      rw [set_at (by omega) ht, ← List.take_succ_eq_append_getElem (by omega)])
    simpa using this
theorem toInt64S_ev (l : List Int) (h : l.length ≤ 35184372088832) : Ev (fun k => laws_toInt64S.f k l) l := by
  unfold laws_toInt64S.f
  refine Ev.ite_pos (by omega) ?_
  refine Ev.ite_pos (by omega) ?_
  exact toInt64S_l0 l (by omega) l.length 0 _ (by omega) (by omega) (by simp) (by simp)

theorem eqInt64S_l0 (a b : List Int) (hl : a.length ≤ 9223372036854775807) (hab : a.length = b.length) : ∀ (d i : Nat), a.length - i = d → i ≤ a.length → a.take i = b.take i → Ev (fun k => laws_eqInt64S.l0 k a b i) (decide (a = b)) := by
  intro d
  induction d with
  | zero =>
    intro i hd hi ht
    refine Ev.succ ?_
    simp only [laws_eqInt64S.l0]
    refine Ev.ite_neg (by omega) ?_
    rw [List.take_of_length_le (by omega), List.take_of_length_le (by omega)] at ht
    simpa [ht] using Ev.now true
  | succ d ih =>
    intro i hd hi ht
    refine Ev.succ ?_
    simp only [laws_eqInt64S.l0]
    refine Ev.ite_pos (by omega) ?_
    refine Ev.ite_pos (by omega) ?_
    refine Ev.ite_pos (by omega) ?_
    by_cases he : rd a i = rd b i
    · refine Ev.ite_pos he ?_
      rw [w64 (x := (i : Int) + 1) (by omega) (by omega)]
      rw [rd_at (show i < a.length by omega), rd_at (show i < b.length by omega)] at he
      have := ih (i + 1) (by omega) (by omega) (by
        rw [List.take_succ_eq_append_getElem (by omega), List.take_succ_eq_append_getElem (by omega), ht, he])
      simpa using this
    · refine Ev.ite_neg he ?_
      have : ¬ a = b := fun e => he (by rw [e])
      simpa [this] using Ev.now false
theorem eqInt64S_ev (a b : List Int) (hl : a.length ≤ 9223372036854775807) : Ev (fun k => laws_eqInt64S.f k a b) (decide (a = b)) := by
  unfold laws_eqInt64S.f
  by_cases h : a.length = b.length
  · refine Ev.ite_pos (by omega) ?_
    exact eqInt64S_l0 a b hl h a.length 0 (by omega) (by omega) (by simp)
  · refine Ev.ite_neg (by omega) ?_
    have : ¬ a = b := fun e => h (by rw [e])
    simpa [this] using Ev.now false
theorem eqInt64S_self (a : List Int) (hl : a.length ≤ 9223372036854775807) : Ev (fun k => laws_eqInt64S.f k a a) true := by simpa using eqInt64S_ev a a hl

/-- The marks from v on: n of them. -/
def marks : Nat → Int → List Int
  | 0, _ => []
  | n + 1, v => v :: marks n (v + 1)
theorem marks_length : ∀ n v, (marks n v).length = n
  | 0, _ => rfl
  | n + 1, v => by simp [marks, marks_length n]
theorem marks_get : ∀ n v i, i < n → (marks n v)[i]? = some (v + i)
  | 0, _, i, h => by omega
  | n + 1, v, 0, _ => by simp [marks]
  | n + 1, v, i + 1, h => by
    simp only [marks, List.getElem?_cons_succ]
    rw [marks_get n (v + 1) i (by omega)]
    congr 1
    omega
theorem markInt64S_l0 (n : Nat) (v : Int) (hn : n ≤ 4611686018427387904) (h0 : 0 ≤ v) (hv : v ≤ 4611686018427387903) : ∀ (d i : Nat) (l : List Int), n - i = d → i ≤ n → l.length = n → (∀ j, j < i → l[j]? = some (v + j)) →
    Ev (fun k => laws_markInt64S.l0 k l (v + i) i) (v + n, marks n v) := by
  intro d
  induction d with
  | zero =>
    intro i l hd hi hl hj
    have : i = n := by omega
    subst this
    refine Ev.succ ?_
    simp only [laws_markInt64S.l0]
    refine Ev.ite_neg (by omega) ?_
    have : l = marks i v := by
      refine List.ext_getElem? fun j => ?_
      rcases Nat.lt_or_ge j i with h | h
      · rw [hj j h, marks_get i v j h]
      · rw [List.getElem?_eq_none (by omega), List.getElem?_eq_none (by rw [marks_length]; omega)]
    rw [this]
    exact Ev.now _
  | succ d ih =>
    intro i l hd hi hl hj
    refine Ev.succ ?_
    simp only [laws_markInt64S.l0]
    refine Ev.ite_pos (by omega) ?_
    refine Ev.ite_pos (by omega) ?_
    rw [w64 (x := (i : Int) + 1) (by omega) (by omega), w64 (x := v + (i : Int) + 1) (by omega) (by omega), Int.toNat_natCast]
    have := ih (i + 1) (l.set i (v + i)) (by omega) (by omega) (by simpa using hl) (fun j hj' => by
      rcases Nat.lt_or_ge j i with h | h
      · rw [List.getElem?_set_ne (by omega), hj j h]
      · have : j = i := by omega
        subst this
        rw [List.getElem?_set_self (by omega)])
    simpa [Int.add_assoc] using this
theorem markInt64S_ev (l : List Int) (v : Int) (hn : l.length ≤ 4611686018427387904) (h0 : 0 ≤ v) (hv : v ≤ 4611686018427387903) : Ev (fun k => laws_markInt64S.f k l v) (v + l.length, marks l.length v) := by
  unfold laws_markInt64S.f
  have := markInt64S_l0 l.length v hn h0 hv l.length 0 l (by omega) (by omega) rfl (fun j hj => by omega)
  simpa using this
theorem heldInt64S_l0 (n : Nat) (v : Int) (hn : n ≤ 4611686018427387904) (h0 : 0 ≤ v) (hv : v ≤ 4611686018427387903) : ∀ (d i : Nat), n - i = d → i ≤ n →
    Ev (fun k => laws_heldInt64S.l0 k (marks n v) (v + i) i) (v + n) := by
  intro d
  induction d with
  | zero =>
    intro i hd hi
    have : i = n := by omega
    subst this
    refine Ev.succ ?_
    simp only [laws_heldInt64S.l0]
    refine Ev.ite_neg (by rw [marks_length]; omega) ?_
    exact Ev.now _
  | succ d ih =>
    intro i hd hi
    refine Ev.succ ?_
    simp only [laws_heldInt64S.l0]
    refine Ev.ite_pos (by rw [marks_length]; omega) ?_
    refine Ev.ite_pos (by omega) ?_
    refine Ev.ite_pos (by
      have h := marks_get n v i (by omega)
      simp only [rd, Int.toNat_natCast, List.getD_eq_getElem?_getD, h, Option.getD_some]) ?_
    rw [w64 (x := (i : Int) + 1) (by omega) (by omega), w64 (x := v + (i : Int) + 1) (by omega) (by omega)]
    have := ih (i + 1) (by omega) (by omega)
    simpa [Int.add_assoc] using this
theorem heldInt64S_ev (n : Nat) (v : Int) (hn : n ≤ 4611686018427387904) (h0 : 0 ≤ v) (hv : v ≤ 4611686018427387903) : Ev (fun k => laws_heldInt64S.f k (marks n v) v) (v + n) := by
  unfold laws_heldInt64S.f
  have := heldInt64S_l0 n v hn h0 hv n 0 (by omega) (by omega)
  simpa using this

end Go.Proofs.Ytddhommmokdlnaa.P
end

section
/- A number from low to high: the reference's word. Plain Lean. -/
namespace Go.Proofs.Ytddhommmokdlnaa.P
open Go.RowKit Go.Proofs.Ytddhommmokdlnaa.P Go.Proofs.YtddhommmokdlnaaW.PrintWords Go.Proofs.YtddhommmokdlnaaW.PrintLast Go.Proofs.YtddhommmokdlnaaW.PrintMore
set_option linter.unusedVariables false
set_option linter.unusedSimpArgs false

theorem spec_l00In_eq (n a b : Int) : spec_l00In.f n a b = some (decide (a ≤ n) && decide (n ≤ b)) := by
  unfold spec_l00In.f
  by_cases h : n ≥ a
  · have : a ≤ n := h
    simp [this]
  · have : ¬ a ≤ n := h
    simp [this]

end Go.Proofs.Ytddhommmokdlnaa.P
end

section
/- The lesser of two. Plain Lean. -/
namespace Go.Proofs.Ytddhommmokdlnaa.P
open Go.RowKit Go.Proofs.Ytddhommmokdlnaa.P Go.Proofs.YtddhommmokdlnaaW.PrintWords Go.Proofs.YtddhommmokdlnaaW.PrintLast Go.Proofs.YtddhommmokdlnaaW.PrintMore
set_option linter.unusedVariables false
set_option linter.unusedSimpArgs false

theorem spec_l00Min_eq (a b : Int) : spec_l00Min.f a b = some (min a b) := by
  unfold spec_l00Min.f
  by_cases h : a < b
  · rw [if_pos h, Int.min_def, if_pos (by omega)]
  · rw [if_neg h, Int.min_def]
    split
    · congr 1; omega
    · rfl

end Go.Proofs.Ytddhommmokdlnaa.P
end

section
/- A list from a place on. Plain Lean. -/
namespace Go.Proofs.Ytddhommmokdlnaa.P
open Go.RowKit Go.Proofs.Ytddhommmokdlnaa.P Go.Proofs.YtddhommmokdlnaaW.PrintWords Go.Proofs.YtddhommmokdlnaaW.PrintLast Go.Proofs.YtddhommmokdlnaaW.PrintMore
set_option linter.unusedVariables false
set_option linter.unusedSimpArgs false

theorem all_drop_at {l : List Int} {i : Nat} (q : Int → Bool) (h : i < l.length) : (l.drop i).all q = (q (rd l i) && (l.drop (i + 1)).all q) := by
  rw [List.drop_eq_getElem_cons h, List.all_cons, rd_at h]

end Go.Proofs.Ytddhommmokdlnaa.P
end

section
/- Is a number a pitch. Plain Lean. -/
namespace Go.Proofs.Ytddhommmokdlnaa.P
open Go.RowKit Go.Proofs.Ytddhommmokdlnaa.P Go.Proofs.YtddhommmokdlnaaW.PrintWords Go.Proofs.YtddhommmokdlnaaW.PrintLast Go.Proofs.YtddhommmokdlnaaW.PrintMore
set_option linter.unusedVariables false
set_option linter.unusedSimpArgs false

def inP (n : Int) : Bool := decide (-12 ≤ n) && decide (n ≤ 23)

end Go.Proofs.Ytddhommmokdlnaa.P
end

section
/- Is a number a pitch: the reference. Plain Lean. -/
namespace Go.Proofs.Ytddhommmokdlnaa.P
open Go.RowKit Go.Proofs.Ytddhommmokdlnaa.P Go.Proofs.YtddhommmokdlnaaW.PrintWords Go.Proofs.YtddhommmokdlnaaW.PrintLast Go.Proofs.YtddhommmokdlnaaW.PrintMore
set_option linter.unusedVariables false
set_option linter.unusedSimpArgs false

theorem spec_l03Pitch_eq (n : Int) : spec_l03Pitch.f n = some (inP n) := by
  unfold spec_l03Pitch.f
  rw [spec_l00In_eq]
  rfl

end Go.Proofs.Ytddhommmokdlnaa.P
end

section
/- Are all numbers pitches, and not too many: the reference and the program. Plain Lean. -/
namespace Go.Proofs.Ytddhommmokdlnaa.P
open Go.RowKit Go.Proofs.Ytddhommmokdlnaa.P Go.Proofs.YtddhommmokdlnaaW.PrintWords Go.Proofs.YtddhommmokdlnaaW.PrintLast Go.Proofs.YtddhommmokdlnaaW.PrintMore
set_option linter.unusedVariables false
set_option linter.unusedSimpArgs false

def pitchesB (l : List Int) : Bool := decide (l.length ≤ 64) && l.all inP
theorem spec_l05Pitches_l0 (l : List Int) (hl : l.length ≤ 9223372036854775807) : ∀ (d i : Nat), l.length - i = d → i ≤ l.length → Ev (fun k => spec_l05Pitches.l0 k l i) ((l.drop i).all inP && decide (l.length ≤ 64)) := by
  intro d
  induction d with
  | zero =>
    intro i hd hi
    refine Ev.succ ?_
    simp only [spec_l05Pitches.l0]
    refine Ev.ite_neg (by omega) ?_
    rw [List.drop_of_length_le (by omega)]
    refine Ev.cast (Ev.now _) ?_
    simp
    omega
  | succ d ih =>
    intro i hd hi
    refine Ev.succ ?_
    simp only [spec_l05Pitches.l0]
    refine Ev.ite_pos (by omega) ?_
    refine Ev.ite_pos (by omega) ?_
    refine Ev.bindc (spec_l03Pitch_eq _) ?_
    rw [all_drop_at inP (by omega)]
    cases hq : inP (rd l i) with
    | true =>
      refine Ev.ite_pos rfl ?_
      rw [w64 (x := (i : Int) + 1) (by omega) (by omega)]
      simpa using ih (i + 1) (by omega) (by omega)
    | false =>
      refine Ev.ite_neg (by decide) ?_
      simpa using Ev.now false
theorem spec_l05Pitches_ev (l : List Int) (hl : l.length ≤ 9223372036854775807) : Ev (fun k => spec_l05Pitches.f k l) (pitchesB l) := by
  unfold spec_l05Pitches.f pitchesB
  have := spec_l05Pitches_l0 l hl l.length 0 (by omega) (by omega)
  rw [Bool.and_comm]
  simpa using this
theorem impl_pitchesOk_eq (l : List Int) : impl_pitchesOk.f l = some (pitchesB l) := by
  unfold impl_pitchesOk.f impl_allWithin.f pitchesB
  by_cases h : l.length ≤ 64
  · have h' : (l.length : Int) ≤ 64 := by omega
    simp only [h', h, if_true, decide_true, Bool.true_and]
    rfl
  · have h' : ¬ (l.length : Int) ≤ 64 := by omega
    simp [h]
    omega
theorem pitchesB_len {l : List Int} (h : pitchesB l = true) : l.length ≤ 64 := by
  simp only [pitchesB, Bool.and_eq_true, decide_eq_true_eq] at h
  exact h.1
theorem pitchesB_rd {l : List Int} (h : pitchesB l = true) {i : Int} (h0 : 0 ≤ i) (h1 : i < l.length) : -12 ≤ rd l i ∧ rd l i ≤ 23 := by
  simp only [pitchesB, Bool.and_eq_true, decide_eq_true_eq, List.all_eq_true] at h
  obtain ⟨n, rfl⟩ := Int.eq_ofNat_of_zero_le h0
  rw [rd_at (show n < l.length by omega)]
  have := h.2 l[n] (List.getElem_mem _)
  simpa [inP] using this

end Go.Proofs.Ytddhommmokdlnaa.P
end

section
/- An element of a list of lists. Plain Lean. -/
namespace Go.Proofs.Ytddhommmokdlnaa.P
open Go.RowKit Go.Proofs.Ytddhommmokdlnaa.P Go.Proofs.YtddhommmokdlnaaW.PrintWords Go.Proofs.YtddhommmokdlnaaW.PrintLast Go.Proofs.YtddhommmokdlnaaW.PrintMore
set_option linter.unusedVariables false
set_option linter.unusedSimpArgs false

theorem rdL_at {f : List (List Int)} {i : Nat} (h : i < f.length) : rd_L1 f (i : Int) = f[i] := by simp [rd_L1, h]

end Go.Proofs.Ytddhommmokdlnaa.P
end

section
/- A number from low to high: the program's word. Plain Lean. -/
namespace Go.Proofs.Ytddhommmokdlnaa.P
open Go.RowKit Go.Proofs.Ytddhommmokdlnaa.P Go.Proofs.YtddhommmokdlnaaW.PrintWords Go.Proofs.YtddhommmokdlnaaW.PrintLast Go.Proofs.YtddhommmokdlnaaW.PrintMore
set_option linter.unusedVariables false
set_option linter.unusedSimpArgs false

theorem impl_within_eq (n a b : Int) : impl_within.f n a b = some (decide (a ≤ n) && decide (n ≤ b)) := by
  unfold impl_within.f
  by_cases h : n ≥ a
  · have : a ≤ n := h
    simp [this]
  · have : ¬ a ≤ n := h
    simp [this]

end Go.Proofs.Ytddhommmokdlnaa.P
end

section
/- The table of the least costs: the reference and the program make the same one. Plain Lean. -/
namespace Go.Proofs.Ytddhommmokdlnaa.P
open Go.RowKit Go.Proofs.Ytddhommmokdlnaa.P Go.Proofs.YtddhommmokdlnaaW.PrintWords Go.Proofs.YtddhommmokdlnaaW.PrintLast Go.Proofs.YtddhommmokdlnaaW.PrintMore
set_option linter.unusedVariables false
set_option linter.unusedSimpArgs false

def ecell (a b : List Int) (ch g : Int) (T : List (List Int)) (i c : Nat) : Int :=
  if i = a.length then wrap64 (g * ((b.length : Int) - c)) else if c = b.length then wrap64 (g * ((a.length : Int) - i)) else
  min (min (if rd a i = rd b c then rd (rd_L1 T ((i : Int) + 1)) ((c : Int) + 1) else wrap64 (rd (rd_L1 T ((i : Int) + 1)) ((c : Int) + 1) + ch)) (wrap64 (rd (rd_L1 T ((i : Int) + 1)) c + g))) (wrap64 (rd (rd_L1 T i) ((c : Int) + 1) + g))
def estep (a b : List Int) (ch g : Int) (i c : Nat) (T : List (List Int)) : List (List Int) := T.set i ((rd_L1 T i).set c (ecell a b ch g T i c))
def erow (a b : List Int) (ch g : Int) (i : Nat) : Nat → List (List Int) → List (List Int)
  | 0, T => T
  | c + 1, T => erow a b ch g i c (estep a b ch g i c T)
def eallS (a b : List Int) (ch g : Int) : Nat → List (List Int) → List (List Int)
  | 0, T => T
  | r + 1, T => eallS a b ch g r (erow a b ch g r (b.length + 1) T)
def eallI (a b : List Int) (ch g : Int) : Nat → List (List Int) → List (List Int)
  | 0, T => T
  | r + 1, T => eallI a b ch g r (erow a b ch g r (b.length + 1) (T.set r (List.replicate (b.length + 1) 0)))
theorem rdL_set_eq {T : List (List Int)} {i : Nat} {R : List Int} (h : i < T.length) : rd_L1 (T.set i R) (i : Int) = R := by
  simp [rd_L1, h]
theorem rdL_set_ne {T : List (List Int)} {i : Nat} {R : List Int} {j : Int} (hj : 0 ≤ j) (h : j ≠ i) : rd_L1 (T.set i R) j = rd_L1 T j := by
  obtain ⟨n, rfl⟩ := Int.eq_ofNat_of_zero_le hj
  have : i ≠ n := by omega
  simp [rd_L1, List.getElem?_set, this]
theorem rdI_set_ne {T : List Int} {i : Nat} {R : Int} {j : Int} (hj : 0 ≤ j) (h : j ≠ i) : rd (T.set i R) j = rd T j := by
  obtain ⟨n, rfl⟩ := Int.eq_ofNat_of_zero_le hj
  have : i ≠ n := by omega
  simp [rd, List.getElem?_set, this]
theorem rdI_set_eq {T : List Int} {i : Nat} {R : Int} (h : i < T.length) : rd (T.set i R) (i : Int) = R := by
  simp [rd, h]
theorem estep_len (a b : List Int) (ch g : Int) (i c : Nat) (T : List (List Int)) : (estep a b ch g i c T).length = T.length := by simp [estep]
theorem estep_ne (a b : List Int) (ch g : Int) (i c : Nat) (T : List (List Int)) {j : Int} (hj : 0 ≤ j) (h : j ≠ i) : rd_L1 (estep a b ch g i c T) j = rd_L1 T j := rdL_set_ne hj h
theorem estep_eq (a b : List Int) (ch g : Int) (i c : Nat) (T : List (List Int)) (h : i < T.length) : rd_L1 (estep a b ch g i c T) i = (rd_L1 T i).set c (ecell a b ch g T i c) := rdL_set_eq h
theorem erow_len (a b : List Int) (ch g : Int) (i : Nat) : ∀ c T, (erow a b ch g i c T).length = T.length
  | 0, T => rfl
  | c + 1, T => by rw [erow, erow_len, estep_len]
theorem erow_ne (a b : List Int) (ch g : Int) (i : Nat) {j : Int} (hj : 0 ≤ j) (h : j ≠ i) : ∀ c T, rd_L1 (erow a b ch g i c T) j = rd_L1 T j
  | 0, T => rfl
  | c + 1, T => by rw [erow, erow_ne a b ch g i hj h, estep_ne a b ch g i c T hj h]
theorem erow_row (a b : List Int) (ch g : Int) (i : Nat) : ∀ c T, i < T.length → (rd_L1 (erow a b ch g i c T) i).length = (rd_L1 T i).length
  | 0, T, _ => rfl
  | c + 1, T, h => by rw [erow, erow_row a b ch g i c _ (by rw [estep_len]; exact h), estep_eq _ _ _ _ _ _ _ h, List.length_set]
theorem erow_ge (a b : List Int) (ch g : Int) (i : Nat) {q : Int} : ∀ (c : Nat) T, (c : Int) ≤ q → i < T.length → rd (rd_L1 (erow a b ch g i c T) i) q = rd (rd_L1 T i) q
  | 0, T, _, _ => rfl
  | c + 1, T, hc, h => by rw [erow, erow_ge a b ch g i c _ (by omega) (by rw [estep_len]; exact h), estep_eq _ _ _ _ _ _ _ h, rdI_set_ne (by omega) (by omega)]
theorem erow_last (a b : List Int) (ch g : Int) (i : Nat) (T : List (List Int)) (h : i < T.length) (hr : (rd_L1 T i).length = b.length + 1) : rd (rd_L1 (erow a b ch g i (b.length + 1) T) i) b.length = wrap64 (g * ((a.length : Int) - i)) := by
  rw [erow, erow_ge a b ch g i b.length _ (by omega) (by rw [estep_len]; exact h), estep_eq _ _ _ _ _ _ _ h, rdI_set_eq (by omega), ecell]
  by_cases e : i = a.length
  · rw [if_pos e, e]; simp
  · rw [if_neg e, if_pos rfl]
theorem erow_agree (a b : List Int) (ch g : Int) (i : Nat) : ∀ (c : Nat) (X Y : List (List Int)), i < X.length → i < Y.length → (∀ j : Int, (i : Int) ≤ j → rd_L1 X j = rd_L1 Y j) → ∀ j : Int, (i : Int) ≤ j → rd_L1 (erow a b ch g i c X) j = rd_L1 (erow a b ch g i c Y) j
  | 0, X, Y, _, _, h => h
  | c + 1, X, Y, hx, hy, h => by
    refine erow_agree a b ch g i c _ _ (by rw [estep_len]; exact hx) (by rw [estep_len]; exact hy) ?_
    intro j hj
    by_cases e : j = i
    · subst e
      rw [estep_eq _ _ _ _ _ _ _ hx, estep_eq _ _ _ _ _ _ _ hy]
      have e1 := h i (by omega)
      have e2 := h ((i : Int) + 1) (by omega)
      rw [e1, ecell, ecell, e1, e2]
    · rw [estep_ne _ _ _ _ _ _ _ (by omega) e, estep_ne _ _ _ _ _ _ _ (by omega) e, h j hj]
theorem tab_ext {X Y : List (List Int)} (hl : X.length = Y.length) (h : ∀ j : Int, 0 ≤ j → rd_L1 X j = rd_L1 Y j) : X = Y := by
  refine List.ext_getElem hl fun n h1 h2 => ?_
  have := h n (by omega)
  rwa [rdL_at h1, rdL_at h2] at this
theorem eall_eq (a b : List Int) (ch g : Int) (n : Nat) : ∀ (r : Nat) (S I : List (List Int)), r ≤ n → S.length = n → I.length = n → (∀ j : Int, (r : Int) ≤ j → rd_L1 S j = rd_L1 I j) → (∀ j : Int, 0 ≤ j → j < r → rd_L1 S j = List.replicate (b.length + 1) 0) → eallS a b ch g r S = eallI a b ch g r I
  | 0, S, I, _, hs, hi, h, _ => tab_ext (hs.trans hi.symm) (fun j hj => h j (by omega))
  | r + 1, S, I, hr, hs, hi, h, h0 => by
    rw [eallS, eallI]
    refine eall_eq a b ch g n r _ _ (by omega) (by rw [erow_len]; exact hs) (by rw [erow_len, List.length_set]; exact hi) ?_ ?_
    · refine erow_agree a b ch g r _ _ _ (by omega) (by rw [List.length_set]; omega) ?_
      intro j hj
      by_cases e : j = r
      · subst e
        rw [rdL_set_eq (by omega), h0 r (by omega) (by omega)]
      · rw [rdL_set_ne (by omega) e, h j (by omega)]
    · intro j h1 h2
      rw [erow_ne _ _ _ _ _ h1 (by omega), h0 j h1 (by omega)]
def egood (a b : List Int) (g : Int) (T : List (List Int)) (r : Nat) : Prop := ∀ j : Int, (r : Int) ≤ j → j ≤ a.length → (rd_L1 T j).length = b.length + 1 ∧ rd (rd_L1 T j) b.length = wrap64 (g * ((a.length : Int) - j))
theorem erow_good (a b : List Int) (ch g : Int) (r : Nat) (I : List (List Int)) (hr : r ≤ a.length) (hi : I.length = a.length + 1) (h : egood a b g I (r + 1)) : egood a b g (erow a b ch g r (b.length + 1) (I.set r (List.replicate (b.length + 1) 0))) r := by
  intro j h1 h2
  by_cases e : j = r
  · subst e
    have h3 : (rd_L1 (I.set r (List.replicate (b.length + 1) 0)) (r : Int)).length = b.length + 1 := by rw [rdL_set_eq (by omega)]; simp
    exact ⟨by rw [erow_row _ _ _ _ _ _ _ (by rw [List.length_set]; omega), h3], erow_last a b ch g r _ (by rw [List.length_set]; omega) h3⟩
  · rw [erow_ne _ _ _ _ _ (by omega) e, rdL_set_ne (by omega) e]
    exact h j (by omega) h2
theorem eall_good (a b : List Int) (ch g : Int) : ∀ (r : Nat) (I : List (List Int)), r ≤ a.length + 1 → I.length = a.length + 1 → egood a b g I r → (eallI a b ch g r I).length = a.length + 1 ∧ egood a b g (eallI a b ch g r I) 0
  | 0, I, _, hi, h => ⟨hi, h⟩
  | r + 1, I, hr, hi, h => by
    rw [eallI]
    exact eall_good a b ch g r _ (by omega) (by rw [erow_len, List.length_set]; exact hi) (erow_good a b ch g r I (by omega) hi h)
def etab (a b : List Int) (ch g : Int) : List (List Int) := eallI a b ch g (a.length + 1) (List.replicate (a.length + 1) [])
theorem etab_good (a b : List Int) (ch g : Int) : (etab a b ch g).length = a.length + 1 ∧ egood a b g (etab a b ch g) 0 := by
  refine eall_good a b ch g _ _ (Nat.le_refl _) (by simp) ?_
  intro j h1 h2
  exact absurd h1 (by omega)
theorem etab_ref (a b : List Int) (ch g : Int) : eallS a b ch g (a.length + 1) (List.replicate (a.length + 1) (List.replicate (b.length + 1) 0)) = etab a b ch g := by
  refine eall_eq a b ch g (a.length + 1) _ _ _ (Nat.le_refl _) (by simp) (by simp) ?_ ?_
  · intro j hj
    obtain ⟨n, rfl⟩ := Int.eq_ofNat_of_zero_le (show 0 ≤ j by omega)
    have : ¬ n < a.length + 1 := by omega
    simp [rd_L1, List.getElem?_replicate, this]
  · intro j h1 h2
    obtain ⟨n, rfl⟩ := Int.eq_ofNat_of_zero_le h1
    have : n < a.length + 1 := by omega
    simp [rd_L1, List.getElem?_replicate, this]
theorem spec_l12Edit_l2 (a b : List Int) (ch g : Int) (ha : a.length ≤ 64) (hb : b.length ≤ 64) (i : Nat) (hi : i ≤ a.length) (r : List (List Int)) : ∀ (c : Nat) (T : List (List Int)), c ≤ b.length + 1 → T.length = a.length + 1 → (rd_L1 T i).length = b.length + 1 → (i < a.length → (rd_L1 T ((i : Int) + 1)).length = b.length + 1) → Ev (fun k => spec_l12Edit.l1 k a b ch g (erow a b ch g i c T) ((i : Int) - 1)) r → Ev (fun k => spec_l12Edit.l2 k a b ch g T i ((c : Int) - 1)) r
  | 0, T, _, _, _, _, h => by
    refine Ev.succ ?_
    simp only [spec_l12Edit.l2]
    refine Ev.ite_neg (by omega) ?_
    rw [w64 (by omega) (by omega)]
    exact h
  | c + 1, T, hc, hT, hr, hr1, h => by
    have e1 : ((c + 1 : Nat) : Int) - 1 = c := by omega
    have ih := spec_l12Edit_l2 a b ch g ha hb i hi r c (estep a b ch g i c T) (by omega) (by rw [estep_len]; exact hT) (by rw [estep_eq _ _ _ _ _ _ _ (by omega), List.length_set]; exact hr) (fun q => by rw [estep_ne _ _ _ _ _ _ _ (by omega) (by omega)]; exact hr1 q) h
    rw [e1]
    refine Ev.succ ?_
    simp only [spec_l12Edit.l2]
    refine Ev.ite_pos (by omega) ?_
    rw [w64 (x := (c : Int) - 1) (by omega) (by omega), w64 (x := (c : Int) + 1) (by omega) (by omega), w64 (x := (i : Int) + 1) (by omega) (by omega), w64 (x := (b.length : Int) - c) (by omega) (by omega), w64 (x := (a.length : Int) - i) (by omega) (by omega)]
    simp only [Int.toNat_natCast]
    rw [estep] at ih
    by_cases hn : i = a.length
    · refine Ev.ite_pos (by omega) (Ev.ite_pos (by omega) (Ev.ite_pos (by omega) (Ev.ite_pos (by omega) (Ev.ite_pos (by omega) ?_))))
      rw [ecell, if_pos hn] at ih
      exact ih
    · refine Ev.ite_neg (by omega) ?_
      by_cases hm : c = b.length
      · refine Ev.ite_pos (by omega) (Ev.ite_pos (by omega) (Ev.ite_pos (by omega) (Ev.ite_pos (by omega) (Ev.ite_pos (by omega) ?_))))
        rw [ecell, if_neg hn, if_pos hm] at ih
        exact ih
      · have hr2 := hr1 (by omega)
        refine Ev.ite_neg (by omega) (Ev.ite_pos (by omega) (Ev.ite_pos (by omega) (Ev.ite_pos (by omega) (Ev.ite_pos (by omega) (Ev.ite_pos (by omega) (Ev.ite_pos (by omega) (Ev.ite_pos (by omega) (Ev.ite_pos (by omega) ?_))))))))
        rw [ecell, if_neg hn, if_neg hm] at ih
        by_cases hv : rd a i = rd b c
        · rw [if_pos hv] at ih
          exact Ev.ite_pos hv (Ev.ite_pos (by omega) (Ev.bindc (spec_l00Min_eq _ _) (Ev.ite_pos (by omega) (Ev.ite_pos (by omega) (Ev.bindc (spec_l00Min_eq _ _) (Ev.ite_pos (by omega) ih))))))
        · rw [if_neg hv] at ih
          exact Ev.ite_neg hv (Ev.ite_pos (by omega) (Ev.bindc (spec_l00Min_eq _ _) (Ev.ite_pos (by omega) (Ev.ite_pos (by omega) (Ev.bindc (spec_l00Min_eq _ _) (Ev.ite_pos (by omega) ih))))))
theorem spec_l12Edit_l1 (a b : List Int) (ch g : Int) (ha : a.length ≤ 64) (hb : b.length ≤ 64) : ∀ (r : Nat) (T : List (List Int)), r ≤ a.length + 1 → T.length = a.length + 1 → (∀ j : Int, 0 ≤ j → j ≤ a.length → (rd_L1 T j).length = b.length + 1) → Ev (fun k => spec_l12Edit.l1 k a b ch g T ((r : Int) - 1)) (eallS a b ch g r T)
  | 0, T, _, _, _ => by
    refine Ev.succ ?_
    simp only [spec_l12Edit.l1]
    exact Ev.ite_neg (by omega) (Ev.now _)
  | r + 1, T, hr, hT, h => by
    have e1 : ((r + 1 : Nat) : Int) - 1 = r := by omega
    have ih := spec_l12Edit_l1 a b ch g ha hb r (erow a b ch g r (b.length + 1) T) (by omega) (by rw [erow_len]; exact hT) (by
      intro j h1 h2
      by_cases e : j = r
      · subst e
        rw [erow_row _ _ _ _ _ _ _ (by omega)]
        exact h _ h1 h2
      · rw [erow_ne _ _ _ _ _ h1 e]
        exact h _ h1 h2)
    rw [e1]
    refine Ev.succ ?_
    simp only [spec_l12Edit.l1]
    refine Ev.ite_pos (by omega) ?_
    have := spec_l12Edit_l2 a b ch g ha hb r (by omega) _ (b.length + 1) T (Nat.le_refl _) hT (h _ (by omega) (by omega)) (fun q => h _ (by omega) (by omega)) ih
    have e2 : ((b.length + 1 : Nat) : Int) - 1 = b.length := by omega
    rw [e2] at this
    exact this
theorem spec_l12Edit_l0 (a b : List Int) (ch g : Int) (ha : a.length ≤ 64) (hb : b.length ≤ 64) : ∀ (d i : Nat), a.length + 1 - i = d → i ≤ a.length + 1 → Ev (fun k => spec_l12Edit.l0 k a b ch g (List.replicate i (List.replicate (b.length + 1) 0)) i) (etab a b ch g) := by
  intro d
  induction d with
  | zero =>
    intro i hd hi
    have : i = a.length + 1 := by omega
    subst this
    refine Ev.succ ?_
    simp only [spec_l12Edit.l0]
    refine Ev.ite_neg (by omega) ?_
    have := spec_l12Edit_l1 a b ch g ha hb (a.length + 1) (List.replicate (a.length + 1) (List.replicate (b.length + 1) 0)) (Nat.le_refl _) (by simp) (by
      intro j h1 h2
      obtain ⟨n, rfl⟩ := Int.eq_ofNat_of_zero_le h1
      have : n < a.length + 1 := by omega
      simp [rd_L1, List.getElem?_replicate, this])
    rw [etab_ref] at this
    have e2 : ((a.length + 1 : Nat) : Int) - 1 = a.length := by omega
    rw [e2] at this
    exact this
  | succ d ih =>
    intro i hd hi
    refine Ev.succ ?_
    simp only [spec_l12Edit.l0]
    have e0 : wrap64 ((b.length : Int) + 1) = ((b.length + 1 : Nat) : Int) := by rw [w64 (by omega) (by omega)]; omega
    rw [e0, w64 (x := (i : Int) + 1) (by omega) (by omega)]
    simp only [Int.toNat_natCast]
    refine Ev.ite_pos (by omega) (Ev.ite_pos (by omega) (Ev.ite_pos (by omega) (Ev.ite_pos (by simp; omega) ?_)))
    have := ih (i + 1) (by omega) (by omega)
    rw [List.replicate_succ'] at this
    exact this
theorem spec_l12Edit_ev (a b : List Int) (ch g : Int) (ha : a.length ≤ 64) (hb : b.length ≤ 64) : Ev (fun k => spec_l12Edit.f k a b ch g) (etab a b ch g) := by
  unfold spec_l12Edit.f
  exact spec_l12Edit_l0 a b ch g ha hb _ 0 rfl (by omega)
theorem impl_editCosts_l1 (a b : List Int) (ch g : Int) (ha : a.length ≤ 64) (hb : b.length ≤ 64) (i : Nat) (hi : i ≤ a.length) (r : List (List Int)) : ∀ (c : Nat) (T : List (List Int)), c ≤ b.length + 1 → T.length = a.length + 1 → (rd_L1 T i).length = b.length + 1 → (i < a.length → (rd_L1 T ((i : Int) + 1)).length = b.length + 1) → Ev (fun k => impl_editCosts.l0 k a b ch g (erow a b ch g i c T) ((i : Int) - 1)) r → Ev (fun k => impl_editCosts.l1 k a b ch g T i ((c : Int) - 1)) r
  | 0, T, _, _, _, _, h => by
    refine Ev.succ ?_
    simp only [impl_editCosts.l1]
    refine Ev.ite_neg (by omega) ?_
    rw [w64 (by omega) (by omega)]
    exact h
  | c + 1, T, hc, hT, hr, hr1, h => by
    have e1 : ((c + 1 : Nat) : Int) - 1 = c := by omega
    have ih := impl_editCosts_l1 a b ch g ha hb i hi r c (estep a b ch g i c T) (by omega) (by rw [estep_len]; exact hT) (by rw [estep_eq _ _ _ _ _ _ _ (by omega), List.length_set]; exact hr) (fun q => by rw [estep_ne _ _ _ _ _ _ _ (by omega) (by omega)]; exact hr1 q) h
    rw [e1]
    refine Ev.succ ?_
    simp only [impl_editCosts.l1]
    refine Ev.ite_pos (by omega) ?_
    rw [w64 (x := (c : Int) - 1) (by omega) (by omega), w64 (x := (c : Int) + 1) (by omega) (by omega), w64 (x := (i : Int) + 1) (by omega) (by omega), w64 (x := (b.length : Int) - c) (by omega) (by omega), w64 (x := (a.length : Int) - i) (by omega) (by omega)]
    simp only [Int.toNat_natCast, mn_eq, Int.add_comm g]
    rw [estep] at ih
    by_cases hn : i = a.length
    · refine Ev.ite_pos (by omega) (Ev.ite_pos (by omega) (Ev.ite_pos (by omega) (Ev.ite_pos (by omega) (Ev.ite_pos (by omega) ?_))))
      rw [ecell, if_pos hn] at ih
      exact ih
    · refine Ev.ite_neg (by omega) ?_
      by_cases hm : c = b.length
      · refine Ev.ite_pos (by omega) (Ev.ite_pos (by omega) (Ev.ite_pos (by omega) (Ev.ite_pos (by omega) (Ev.ite_pos (by omega) ?_))))
        rw [ecell, if_neg hn, if_pos hm] at ih
        exact ih
      · have hr2 := hr1 (by omega)
        refine Ev.ite_neg (by omega) (Ev.ite_pos (by omega) (Ev.ite_pos (by omega) (Ev.ite_pos (by omega) (Ev.ite_pos (by omega) (Ev.ite_pos (by omega) (Ev.ite_pos (by omega) (Ev.ite_pos (by omega) (Ev.ite_pos (by omega) ?_))))))))
        rw [ecell, if_neg hn, if_neg hm] at ih
        by_cases hv : rd a i = rd b c
        · rw [if_pos hv] at ih
          exact Ev.ite_pos hv (Ev.ite_pos (by omega) (Ev.ite_pos (by omega) (Ev.ite_pos (by omega) (Ev.ite_pos (by omega) ih))))
        · rw [if_neg hv] at ih
          exact Ev.ite_neg hv (Ev.ite_pos (by omega) (Ev.ite_pos (by omega) (Ev.ite_pos (by omega) (Ev.ite_pos (by omega) ih))))
theorem impl_editCosts_l0 (a b : List Int) (ch g : Int) (ha : a.length ≤ 64) (hb : b.length ≤ 64) : ∀ (r : Nat) (T : List (List Int)), r ≤ a.length + 1 → T.length = a.length + 1 → egood a b g T r → Ev (fun k => impl_editCosts.l0 k a b ch g T ((r : Int) - 1)) (eallI a b ch g r T)
  | 0, T, _, _, _ => by
    refine Ev.succ ?_
    simp only [impl_editCosts.l0]
    exact Ev.ite_neg (by omega) (Ev.now _)
  | r + 1, T, hr, hT, h => by
    have e1 : ((r + 1 : Nat) : Int) - 1 = r := by omega
    have ih := impl_editCosts_l0 a b ch g ha hb r _ (by omega) (by rw [erow_len, List.length_set]; exact hT) (erow_good a b ch g r T (by omega) hT h)
    rw [e1]
    refine Ev.succ ?_
    simp only [impl_editCosts.l0]
    have e0 : wrap64 ((b.length : Int) + 1) = ((b.length + 1 : Nat) : Int) := by rw [w64 (by omega) (by omega)]; omega
    rw [e0]
    simp only [Int.toNat_natCast]
    refine Ev.ite_pos (by omega) (Ev.ite_pos (by omega) (Ev.ite_pos (by omega) (Ev.ite_pos (by omega) (Ev.ite_pos (by omega) ?_))))
    have := impl_editCosts_l1 a b ch g ha hb r (by omega) _ (b.length + 1) (T.set r (List.replicate (b.length + 1) 0)) (Nat.le_refl _) (by rw [List.length_set]; exact hT) (by rw [rdL_set_eq (by omega)]; simp) (fun q => by rw [rdL_set_ne (by omega) (by omega)]; exact (h _ (by omega) (by omega)).1) ih
    have e2 : ((b.length + 1 : Nat) : Int) - 1 = b.length := by omega
    rw [e2] at this
    exact this
theorem impl_editCosts_ev (a b : List Int) (ch g : Int) (ha : a.length ≤ 64) (hb : b.length ≤ 64) : Ev (fun k => impl_editCosts.f k a b ch g) (etab a b ch g) := by
  unfold impl_editCosts.f
  have e0 : wrap64 ((a.length : Int) + 1) = ((a.length + 1 : Nat) : Int) := by rw [w64 (by omega) (by omega)]; omega
  rw [e0]
  simp only [Int.toNat_natCast]
  refine Ev.ite_pos (by omega) (Ev.ite_pos (by omega) ?_)
  have := impl_editCosts_l0 a b ch g ha hb (a.length + 1) (List.replicate (a.length + 1) []) (Nat.le_refl _) (by simp) (fun j h1 h2 => absurd h1 (by omega))
  have e2 : ((a.length + 1 : Nat) : Int) - 1 = a.length := by omega
  rw [e2] at this
  exact this
def ecode (a b : List Int) (ch g : Int) : Int := if pitchesB a && pitchesB b then (if (0 ≤ ch ∧ ch ≤ 100) ∧ 0 ≤ g ∧ g ≤ 100 then 0 else 2) else 7
theorem spec_l12Ask_j0 (ch g : Int) (e : Bool) : Ev (fun k => spec_l12Ask.j0 k ch g e) (if e then 7 else if (0 ≤ ch ∧ ch ≤ 100) ∧ 0 ≤ g ∧ g ≤ 100 then 0 else 2) := by
  refine Ev.succ ?_
  simp only [spec_l12Ask.j0]
  cases e with
  | true => exact Ev.ite_pos rfl (Ev.now _)
  | false =>
    refine Ev.ite_neg (by decide) (Ev.bindc (spec_l00In_eq _ _ _) ?_)
    by_cases c1 : 0 ≤ ch ∧ ch ≤ 100
    · refine Ev.ite_pos (by simp [c1]) (Ev.bindc (spec_l00In_eq _ _ _) ?_)
      by_cases c2 : 0 ≤ g ∧ g ≤ 100
      · refine Ev.ite_pos (by simp [c2]) (Ev.cast (Ev.now _) ?_)
        simp [c1, c2]
      · refine Ev.ite_neg (by simpa using c2) (Ev.cast (Ev.now _) ?_)
        simp [c1, c2]
    · refine Ev.ite_neg (by simpa using c1) (Ev.cast (Ev.now _) ?_)
      simp [c1]
theorem spec_l12Ask_ev (a b : List Int) (ch g : Int) (ha : a.length ≤ 1048576) (hb : b.length ≤ 1048576) : Ev (fun k => spec_l12Ask.f k a b ch g) (ecode a b ch g) := by
  unfold spec_l12Ask.f ecode
  refine Ev.bind (spec_l05Pitches_ev a (by omega)) ?_
  cases h : pitchesB a with
  | false => exact Ev.ite_neg (by decide) (spec_l12Ask_j0 ch g true)
  | true =>
    refine Ev.ite_pos rfl (Ev.bind (spec_l05Pitches_ev b (by omega)) ?_)
    cases h2 : pitchesB b with
    | false => exact spec_l12Ask_j0 ch g true
    | true => exact spec_l12Ask_j0 ch g false
theorem impl_editCode_j0 (ch g : Int) (e : Bool) : Ev (fun k => impl_editCode.j0 k ch g e) (if e then 7 else if (0 ≤ ch ∧ ch ≤ 100) ∧ 0 ≤ g ∧ g ≤ 100 then 0 else 2) := by
  refine Ev.succ ?_
  simp only [impl_editCode.j0]
  cases e with
  | true => exact Ev.ite_pos rfl (Ev.now _)
  | false =>
    refine Ev.ite_neg (by decide) (Ev.bindc (impl_within_eq _ _ _) ?_)
    by_cases c1 : 0 ≤ ch ∧ ch ≤ 100
    · refine Ev.ite_pos (by simp [c1]) (Ev.bindc (impl_within_eq _ _ _) ?_)
      by_cases c2 : 0 ≤ g ∧ g ≤ 100
      · refine Ev.ite_pos (by simp [c2]) (Ev.cast (Ev.now _) ?_)
        simp [c1, c2]
      · refine Ev.ite_neg (by simpa using c2) (Ev.cast (Ev.now _) ?_)
        simp [c1, c2]
    · refine Ev.ite_neg (by simpa using c1) (Ev.cast (Ev.now _) ?_)
      simp [c1]
theorem impl_editCode_ev (a b : List Int) (ch g : Int) : Ev (fun k => impl_editCode.f k a b ch g) (ecode a b ch g) := by
  unfold impl_editCode.f ecode
  refine Ev.bindc (impl_pitchesOk_eq a) ?_
  cases h : pitchesB a with
  | false => exact Ev.ite_neg (by decide) (impl_editCode_j0 ch g true)
  | true =>
    refine Ev.ite_pos rfl (Ev.bindc (impl_pitchesOk_eq b) ?_)
    cases h2 : pitchesB b with
    | false => exact impl_editCode_j0 ch g true
    | true => exact impl_editCode_j0 ch g false
theorem ecode_ok {a b : List Int} {ch g : Int} (h : ecode a b ch g = 0) : a.length ≤ 64 ∧ b.length ≤ 64 ∧ 0 ≤ g ∧ g ≤ 100 := by
  unfold ecode at h
  split at h
  · rename_i h1
    rw [Bool.and_eq_true] at h1
    split at h
    · rename_i h2
      exact ⟨pitchesB_len h1.1, pitchesB_len h1.2, h2.2⟩
    · omega
  · omega

end Go.Proofs.Ytddhommmokdlnaa.P
end
