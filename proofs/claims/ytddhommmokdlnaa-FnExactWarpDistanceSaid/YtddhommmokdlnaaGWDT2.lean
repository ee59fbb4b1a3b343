/- Texts of this seat, merged: QImplWarpdistance. -/
import Derived.Test.YtddhommmokdlnaaGWDT1
section
namespace Go.Proofs.Ytddhommmokdlnaa.P
open Go.RowKit Go.Proofs.YtddhommmokdlnaaW.PrintWords Go.Proofs.YtddhommmokdlnaaW.PrintLast Go.Proofs.YtddhommmokdlnaaW.PrintMore
attribute [local go_sem] max2_int min2_int max_two min_two max_three min_three max_four min_four   -- for this text's walks alone
set_option linter.unusedVariables false
set_option linter.unusedSimpArgs false

/-! ### impl_WarpDistance: function 38 -/
def impl_WarpDistance.K0 : Array Bool := #[false, false, false, false, false, false, false, false, false, false, false, false, false, false, false, false, false, false, false, false, false, false, false, false, false, false, false]
def impl_WarpDistance.K1 : Array Bool := #[true, false, false, false, false, false, false, false, false, false, false, false, false, false, false, false, false, false, false, false, false, false, false, false, false, false, false]
def impl_WarpDistance.K2 : Array Bool := #[true, true, false, false, false, false, false, false, false, false, false, false, false, false, false, false, false, false, false, false, false, false, false, false, false, false, false]
def impl_WarpDistance.K3 : Array Bool := #[true, true, true, false, false, false, false, false, false, false, false, false, false, false, false, false, false, false, false, false, false, false, false, false, false, false, false]
def impl_WarpDistance.K4 : Array Bool := #[true, true, true, true, false, false, false, false, false, false, false, false, false, false, false, false, false, false, false, false, false, false, false, false, false, false, false]
def impl_WarpDistance.K5 : Array Bool := #[true, true, true, true, false, true, false, false, false, false, false, false, false, false, false, false, false, false, false, false, false, false, false, false, false, false, false]
def impl_WarpDistance.K6 : Array Bool := #[true, true, true, true, false, true, false, false, true, false, false, false, false, false, false, false, false, false, false, false, false, false, false, false, false, false, false]
def impl_WarpDistance.K7 : Array Bool := #[true, true, true, true, false, true, false, false, true, true, false, false, false, false, false, false, false, false, false, false, false, false, false, false, false, false, false]
def impl_WarpDistance.K8 : Array Bool := #[true, true, true, true, false, true, false, false, true, true, true, false, false, false, false, false, false, false, false, false, false, false, false, false, false, false, false]
def impl_WarpDistance.K9 : Array Bool := #[true, true, true, true, false, true, false, false, true, true, true, false, true, false, false, false, false, false, false, false, false, false, false, false, false, false, false]
def impl_WarpDistance.K10 : Array Bool := #[true, true, true, true, false, true, false, false, true, true, true, false, true, true, false, false, false, false, false, false, false, false, false, false, false, false, false]
def impl_WarpDistance.K11 : Array Bool := #[true, true, true, true, false, true, false, false, true, true, true, false, true, true, false, false, true, false, false, false, false, false, false, false, false, false, false]
def impl_WarpDistance.K12 : Array Bool := #[true, true, true, true, false, true, false, false, true, true, true, false, true, true, false, false, true, true, false, false, false, false, false, false, false, false, false]
def impl_WarpDistance.K13 : Array Bool := #[true, true, true, true, false, true, false, false, true, true, true, false, true, true, false, false, true, true, true, false, false, false, false, false, false, false, false]
def impl_WarpDistance.K14 : Array Bool := #[true, true, true, true, false, true, false, false, true, true, true, false, true, true, false, false, true, true, true, true, false, false, false, false, false, false, false]
def impl_WarpDistance.K15 : Array Bool := #[true, true, true, true, false, true, false, false, true, true, true, false, true, true, false, false, true, true, true, true, false, true, false, false, false, false, false]
def impl_WarpDistance.K16 : Array Bool := #[true, true, true, true, false, true, false, false, true, true, true, false, true, true, false, false, true, true, true, true, false, true, true, false, false, false, false]
def impl_WarpDistance.K17 : Array Bool := #[true, true, true, true, true, true, false, false, true, true, true, false, true, true, false, false, true, true, true, true, false, true, true, false, false, false, false]
def impl_WarpDistance.K18 : Array Bool := #[true, true, true, true, true, true, true, false, true, true, true, false, true, true, false, false, true, true, true, true, false, true, true, false, false, false, false]
def impl_WarpDistance.K19 : Array Bool := #[true, true, true, true, true, true, true, true, true, true, true, false, true, true, false, false, true, true, true, true, false, true, true, false, false, false, false]
def impl_WarpDistance.K20 : Array Bool := #[true, true, true, true, true, true, true, true, true, true, true, true, true, true, false, false, true, true, true, true, false, true, true, false, false, false, false]
def impl_WarpDistance.K21 : Array Bool := #[true, true, true, true, true, true, true, true, true, true, true, true, true, true, true, false, true, true, true, true, false, true, true, false, false, false, false]
def impl_WarpDistance.K22 : Array Bool := #[true, true, true, true, true, true, true, true, true, true, true, true, true, true, true, true, true, true, true, true, false, true, true, false, false, false, false]
def impl_WarpDistance.K23 : Array Bool := #[true, true, true, true, true, true, true, true, true, true, true, true, true, true, true, true, true, true, true, true, true, true, true, false, false, false, false]
def impl_WarpDistance.K24 : Array Bool := #[true, true, true, true, true, true, true, true, true, true, true, true, true, true, true, true, true, true, true, true, true, true, true, true, false, false, false]
def impl_WarpDistance.K25 : Array Bool := #[true, true, true, true, true, true, true, true, true, true, true, true, true, true, true, true, true, true, true, true, true, true, true, true, true, false, false]
def impl_WarpDistance.K26 : Array Bool := #[true, true, true, true, true, true, true, true, true, true, true, true, true, true, true, true, true, true, true, true, true, true, true, true, true, true, false]
def impl_WarpDistance.K27 : Array Bool := #[true, true, true, true, true, true, true, true, true, true, true, true, true, true, true, true, true, true, true, true, true, true, true, true, true, true, true]
def impl_WarpDistance.K28 : Array Bool := #[false, false, false, false, false, false, false, false, false, false, false, false, false, false, false, false, false, false, false]
def impl_WarpDistance.K29 : Array Bool := #[true, false, false, false, false, false, false, false, false, false, false, false, false, false, false, false, false, false, false]
def impl_WarpDistance.K30 : Array Bool := #[true, true, false, false, false, false, false, false, false, false, false, false, false, false, false, false, false, false, false]
def impl_WarpDistance.K31 : Array Bool := #[true, true, true, false, false, false, false, false, false, false, false, false, false, false, false, false, false, false, false]
def impl_WarpDistance.K32 : Array Bool := #[true, true, true, false, true, false, false, false, false, false, false, false, false, false, false, false, false, false, false]
def impl_WarpDistance.K33 : Array Bool := #[true, true, true, false, true, true, false, false, false, false, false, false, false, false, false, false, false, false, false]
def impl_WarpDistance.K34 : Array Bool := #[true, true, true, false, true, true, true, false, false, false, false, false, false, false, false, false, false, false, false]
def impl_WarpDistance.K35 : Array Bool := #[true, true, true, false, true, true, true, true, false, false, false, false, false, false, false, false, false, false, false]
def impl_WarpDistance.K36 : Array Bool := #[true, true, true, false, true, true, true, true, true, false, false, false, false, false, false, false, false, false, false]
def impl_WarpDistance.K37 : Array Bool := #[true, true, true, false, true, true, true, true, true, false, true, false, false, false, false, false, false, false, false]
def impl_WarpDistance.K38 : Array Bool := #[true, true, true, false, true, true, true, true, true, false, true, true, false, false, false, false, false, false, false]
def impl_WarpDistance.K39 : Array Bool := #[true, true, true, false, true, true, true, true, true, false, true, true, true, false, false, false, false, false, false]
def impl_WarpDistance.K40 : Array Bool := #[true, true, true, true, true, true, true, true, true, false, true, true, true, false, false, false, false, false, false]
def impl_WarpDistance.K41 : Array Bool := #[true, true, true, true, true, true, true, true, true, true, true, true, true, false, false, false, false, false, false]
def impl_WarpDistance.K42 : Array Bool := #[true, true, true, true, true, true, true, true, true, true, true, true, true, true, false, false, false, false, false]
def impl_WarpDistance.K43 : Array Bool := #[true, true, true, true, true, true, true, true, true, true, true, true, true, true, true, false, false, false, false]
def impl_WarpDistance.K44 : Array Bool := #[true, true, true, true, true, true, true, true, true, true, true, true, true, true, true, true, false, false, false]
def impl_WarpDistance.K45 : Array Bool := #[true, true, true, true, true, true, true, true, true, true, true, true, true, true, true, true, true, false, false]
def impl_WarpDistance.K46 : Array Bool := #[true, true, true, true, true, true, true, true, true, true, true, true, true, true, true, true, true, true, false]
def impl_WarpDistance.K47 : Array Bool := #[true, true, true, true, true, true, true, true, true, true, true, true, true, true, true, true, true, true, true]
mutual
def impl_WarpDistance.j0 : Nat → List Int → List Int → Bool → Option (Int × Int)
  | 0, _, _, _ => none
  | k + 1, x0, x1, x10 => if x10 = true then (some (0, 7)) else (if (x0.length : Int) = 0 then (some (0, 3)) else (if (x1.length : Int) = 0 then (some (0, 3)) else (if 0 ≤ (x0.length : Int) then (if ((x0.length : Int) : Int).toNat ≤ 11728124029610 then (impl_WarpDistance.l0 k x0 x1 (List.replicate ((x0.length : Int) : Int).toNat []) (x0.length : Int) 0) else (none)) else (none))))
def impl_WarpDistance.l0 : Nat → List Int → List Int → List (List Int) → Int → Int → Option (Int × Int)
  | 0, _, _, _, _, _ => none
  | k + 1, x0, x1, x6, x32, x33 => if x33 < x32 then (if 0 ≤ (x1.length : Int) then (if ((x1.length : Int) : Int).toNat ≤ 35184372088832 then (if 0 ≤ x33 then (if x33 < (x6.length : Int) then (impl_WarpDistance.l1 k x0 x1 (x6.set (x33 : Int).toNat (List.replicate ((x1.length : Int) : Int).toNat 0)) x33 x32 x33 (x1.length : Int) 0) else (none)) else (none)) else (none)) else (none)) else (if 0 ≤ (wrap64 ((x0.length : Int) - 1)) then (if (wrap64 ((x0.length : Int) - 1)) < (x6.length : Int) then (if 0 ≤ (wrap64 ((x1.length : Int) - 1)) then (if (wrap64 ((x1.length : Int) - 1)) < ((rd_L1 x6 (wrap64 ((x0.length : Int) - 1))).length : Int) then (some (rd (rd_L1 x6 (wrap64 ((x0.length : Int) - 1))) (wrap64 ((x1.length : Int) - 1)), 0)) else (none)) else (none)) else (none)) else (none))
def impl_WarpDistance.l1 : Nat → List Int → List Int → List (List Int) → Int → Int → Int → Int → Int → Option (Int × Int)
  | 0, _, _, _, _, _, _, _, _ => none
  | k + 1, x0, x1, x6, x7, x32, x33, x43, x44 => if x44 < x43 then (if x7 > 0 then (impl_WarpDistance.j3 k x0 x1 x6 x7 x44 0 x32 x33 x43 x44 (decide (x44 > 0))) else (impl_WarpDistance.j3 k x0 x1 x6 x7 x44 0 x32 x33 x43 x44 false)) else (impl_WarpDistance.l0 k x0 x1 x6 x32 (wrap64 (x33 + 1)))
def impl_WarpDistance.j3 : Nat → List Int → List Int → List (List Int) → Int → Int → Int → Int → Int → Int → Int → Bool → Option (Int × Int)
  | 0, _, _, _, _, _, _, _, _, _, _, _ => none
  | k + 1, x0, x1, x6, x7, x8, x9, x32, x33, x43, x44, x47 => if x47 = true then (if 0 ≤ (wrap64 (x7 - 1)) then (if (wrap64 (x7 - 1)) < (x6.length : Int) then (if 0 ≤ x8 then (if x8 < ((rd_L1 x6 (wrap64 (x7 - 1))).length : Int) then (if 0 ≤ x7 then (if x7 < (x6.length : Int) then (if 0 ≤ (wrap64 (x8 - 1)) then (if (wrap64 (x8 - 1)) < ((rd_L1 x6 x7).length : Int) then (if (wrap64 (x8 - 1)) < ((rd_L1 x6 (wrap64 (x7 - 1))).length : Int) then (if x7 < (x0.length : Int) then (if x8 < (x1.length : Int) then ((impl_abs.f (wrap64 ((rd x0 x7) - (rd x1 x8)))).bind fun t897 => (if x8 < ((rd_L1 x6 x7).length : Int) then (impl_WarpDistance.l1 k x0 x1 (x6.set (x7 : Int).toNat ((rd_L1 x6 x7).set (x8 : Int).toNat (wrap64 ((mn (mn (rd (rd_L1 x6 (wrap64 (x7 - 1))) x8) (rd (rd_L1 x6 x7) (wrap64 (x8 - 1)))) (rd (rd_L1 x6 (wrap64 (x7 - 1))) (wrap64 (x8 - 1)))) + t897)))) x7 x32 x33 x43 (wrap64 (x44 + 1))) else (none))) else (none)) else (none)) else (none)) else (none)) else (none)) else (none)) else (none)) else (none)) else (none)) else (none)) else (none)) else (if x7 > 0 then (if 0 ≤ (wrap64 (x7 - 1)) then (if (wrap64 (x7 - 1)) < (x6.length : Int) then (if 0 ≤ x8 then (if x8 < ((rd_L1 x6 (wrap64 (x7 - 1))).length : Int) then (if 0 ≤ x7 then (if x7 < (x6.length : Int) then (if x7 < (x0.length : Int) then (if x8 < (x1.length : Int) then ((impl_abs.f (wrap64 ((rd x0 x7) - (rd x1 x8)))).bind fun t906 => (if x8 < ((rd_L1 x6 x7).length : Int) then (impl_WarpDistance.l1 k x0 x1 (x6.set (x7 : Int).toNat ((rd_L1 x6 x7).set (x8 : Int).toNat (wrap64 ((rd (rd_L1 x6 (wrap64 (x7 - 1))) x8) + t906)))) x7 x32 x33 x43 (wrap64 (x44 + 1))) else (none))) else (none)) else (none)) else (none)) else (none)) else (none)) else (none)) else (none)) else (none)) else (if x8 > 0 then (if 0 ≤ x7 then (if x7 < (x6.length : Int) then (if 0 ≤ (wrap64 (x8 - 1)) then (if (wrap64 (x8 - 1)) < ((rd_L1 x6 x7).length : Int) then (if x7 < (x0.length : Int) then (if 0 ≤ x8 then (if x8 < (x1.length : Int) then ((impl_abs.f (wrap64 ((rd x0 x7) - (rd x1 x8)))).bind fun t915 => (if x8 < ((rd_L1 x6 x7).length : Int) then (impl_WarpDistance.l1 k x0 x1 (x6.set (x7 : Int).toNat ((rd_L1 x6 x7).set (x8 : Int).toNat (wrap64 ((rd (rd_L1 x6 x7) (wrap64 (x8 - 1))) + t915)))) x7 x32 x33 x43 (wrap64 (x44 + 1))) else (none))) else (none)) else (none)) else (none)) else (none)) else (none)) else (none)) else (none)) else (if 0 ≤ x7 then (if x7 < (x6.length : Int) then (if x7 < (x0.length : Int) then (if 0 ≤ x8 then (if x8 < (x1.length : Int) then ((impl_abs.f (wrap64 ((rd x0 x7) - (rd x1 x8)))).bind fun t922 => (if x8 < ((rd_L1 x6 x7).length : Int) then (impl_WarpDistance.l1 k x0 x1 (x6.set (x7 : Int).toNat ((rd_L1 x6 x7).set (x8 : Int).toNat (wrap64 (x9 + t922)))) x7 x32 x33 x43 (wrap64 (x44 + 1))) else (none))) else (none)) else (none)) else (none)) else (none)) else (none))))
end
def impl_WarpDistance.f (k : Nat) (l0 : List Int) (l1 : List Int) : Option (Int × Int) := (impl_pitchesOk.f l0).bind fun t877 => (if t877 = true then ((impl_pitchesOk.f l1).bind fun t878 => (impl_WarpDistance.j0 k l0 l1 (!t878))) else (impl_WarpDistance.j0 k l0 l1 true))
theorem impl_WarpDistance.mono_l : ∀ k, (∀ y0 y1 y2, LeO (impl_WarpDistance.j0 k y0 y1 y2) (impl_WarpDistance.j0 (k + 1) y0 y1 y2)) ∧ (∀ y0 y1 y2 y3 y4, LeO (impl_WarpDistance.l0 k y0 y1 y2 y3 y4) (impl_WarpDistance.l0 (k + 1) y0 y1 y2 y3 y4)) ∧ (∀ y0 y1 y2 y3 y4 y5 y6 y7, LeO (impl_WarpDistance.l1 k y0 y1 y2 y3 y4 y5 y6 y7) (impl_WarpDistance.l1 (k + 1) y0 y1 y2 y3 y4 y5 y6 y7)) ∧ (∀ y0 y1 y2 y3 y4 y5 y6 y7 y8 y9 y10, LeO (impl_WarpDistance.j3 k y0 y1 y2 y3 y4 y5 y6 y7 y8 y9 y10) (impl_WarpDistance.j3 (k + 1) y0 y1 y2 y3 y4 y5 y6 y7 y8 y9 y10))
  | 0 => ⟨fun _ _ _ r h => by simp [impl_WarpDistance.j0] at h, fun _ _ _ _ _ r h => by simp [impl_WarpDistance.l0] at h, fun _ _ _ _ _ _ _ _ r h => by simp [impl_WarpDistance.l1] at h, fun _ _ _ _ _ _ _ _ _ _ _ r h => by simp [impl_WarpDistance.j3] at h⟩
  | k + 1 => by
    obtain ⟨ih0, ih1, ih2, ih3⟩ := impl_WarpDistance.mono_l k
    refine ⟨?_, ?_, ?_, ?_⟩
    · intro y0 y1 y2
      unfold impl_WarpDistance.j0
      repeat' first
      | (with_reducible exact ih0 _ _ _)
      | (with_reducible exact ih1 _ _ _ _ _)
      | (with_reducible exact ih2 _ _ _ _ _ _ _ _)
      | (with_reducible exact ih3 _ _ _ _ _ _ _ _ _ _ _)
      | (with_reducible exact LeO.refl _)
      | (with_reducible exact LeO.none _)
      | (with_reducible refine LeO.ite ?_ ?_)
      | (with_reducible refine LeO.bind ?_ (fun _ => ?_))
      | exact ih0 _ _ _
      | exact ih1 _ _ _ _ _
      | exact ih2 _ _ _ _ _ _ _ _
      | exact ih3 _ _ _ _ _ _ _ _ _ _ _
      | exact LeO.none _
      | refine LeO.ite ?_ ?_
      | refine LeO.bind ?_ (fun _ => ?_)
    · intro y0 y1 y2 y3 y4
      unfold impl_WarpDistance.l0
      repeat' first
      | (with_reducible exact ih0 _ _ _)
      | (with_reducible exact ih1 _ _ _ _ _)
      | (with_reducible exact ih2 _ _ _ _ _ _ _ _)
      | (with_reducible exact ih3 _ _ _ _ _ _ _ _ _ _ _)
      | (with_reducible exact LeO.refl _)
      | (with_reducible exact LeO.none _)
      | (with_reducible refine LeO.ite ?_ ?_)
      | (with_reducible refine LeO.bind ?_ (fun _ => ?_))
      | exact ih0 _ _ _
      | exact ih1 _ _ _ _ _
      | exact ih2 _ _ _ _ _ _ _ _
      | exact ih3 _ _ _ _ _ _ _ _ _ _ _
      | exact LeO.none _
      | refine LeO.ite ?_ ?_
      | refine LeO.bind ?_ (fun _ => ?_)
    · intro y0 y1 y2 y3 y4 y5 y6 y7
      unfold impl_WarpDistance.l1
      repeat' first
      | (with_reducible exact ih0 _ _ _)
      | (with_reducible exact ih1 _ _ _ _ _)
      | (with_reducible exact ih2 _ _ _ _ _ _ _ _)
      | (with_reducible exact ih3 _ _ _ _ _ _ _ _ _ _ _)
      | (with_reducible exact LeO.refl _)
      | (with_reducible exact LeO.none _)
      | (with_reducible refine LeO.ite ?_ ?_)
      | (with_reducible refine LeO.bind ?_ (fun _ => ?_))
      | exact ih0 _ _ _
      | exact ih1 _ _ _ _ _
      | exact ih2 _ _ _ _ _ _ _ _
      | exact ih3 _ _ _ _ _ _ _ _ _ _ _
      | exact LeO.none _
      | refine LeO.ite ?_ ?_
      | refine LeO.bind ?_ (fun _ => ?_)
    · intro y0 y1 y2 y3 y4 y5 y6 y7 y8 y9 y10
      unfold impl_WarpDistance.j3
      repeat' first
      | (with_reducible exact ih0 _ _ _)
      | (with_reducible exact ih1 _ _ _ _ _)
      | (with_reducible exact ih2 _ _ _ _ _ _ _ _)
      | (with_reducible exact ih3 _ _ _ _ _ _ _ _ _ _ _)
      | (with_reducible exact LeO.refl _)
      | (with_reducible exact LeO.none _)
      | (with_reducible refine LeO.ite ?_ ?_)
      | (with_reducible refine LeO.bind ?_ (fun _ => ?_))
      | exact ih0 _ _ _
      | exact ih1 _ _ _ _ _
      | exact ih2 _ _ _ _ _ _ _ _
      | exact ih3 _ _ _ _ _ _ _ _ _ _ _
      | exact LeO.none _
      | refine LeO.ite ?_ ?_
      | refine LeO.bind ?_ (fun _ => ?_)
theorem impl_WarpDistance.mono : ∀ a0 a1 k, LeO (impl_WarpDistance.f k a0 a1) (impl_WarpDistance.f (k + 1) a0 a1) := by
  intro a0 a1 k
  obtain ⟨ih0, ih1, ih2, ih3⟩ := impl_WarpDistance.mono_l k
  unfold impl_WarpDistance.f
  repeat' first
      | (with_reducible exact ih0 _ _ _)
      | (with_reducible exact ih1 _ _ _ _ _)
      | (with_reducible exact ih2 _ _ _ _ _ _ _ _)
      | (with_reducible exact ih3 _ _ _ _ _ _ _ _ _ _ _)
      | (with_reducible exact LeO.refl _)
      | (with_reducible exact LeO.none _)
      | (with_reducible refine LeO.ite ?_ ?_)
      | (with_reducible refine LeO.bind ?_ (fun _ => ?_))
      | exact ih0 _ _ _
      | exact ih1 _ _ _ _ _
      | exact ih2 _ _ _ _ _ _ _ _
      | exact ih3 _ _ _ _ _ _ _ _ _ _ _
      | exact LeO.none _
      | refine LeO.ite ?_ ?_
      | refine LeO.bind ?_ (fun _ => ?_)
def impl_WarpDistance.T15 : Bool × List (List Nat × List Nat) := (true, [([], []), ([], []), ([1], [1]), ([0, 2], [0, 2]), ([3], [3]), ([], []), ([4, 5], [4, 5]), ([6], [6]), ([], []), ([], []), ([8, 9], [8, 9]), ([10], [10]), ([], []), ([12], [12]), ([11, 13], [11, 13]), ([14], [14]), ([], []), ([], []), ([17], [17]), ([16, 18], [16, 18]), ([19], [19]), ([], []), ([21], [21]), ([20, 22], [20, 22]), ([23], [23]), ([7, 15, 24], [7, 15, 24]), ([25, 0, 1, 2, 3, 4, 5, 6, 7, 8, 9, 10, 11, 12, 13, 14, 15, 16, 17, 18, 19, 20, 21, 22, 23, 24, 25], [25])])
def impl_WarpDistance.B15 : List Nat := [0, 0, 2, 7, 15, 0, 63, 127, 0, 0, 768, 1792, 0, 4096, 16128, 32512, 0, 0, 131072, 458752, 983040, 0, 2097152, 8323072, 16711680, 33554431, 67108863]
theorem impl_WarpDistance.tab15 : rtab .any (opsOf Try.f38 15) = impl_WarpDistance.T15 := by kernel_rfl
theorem impl_WarpDistance.bits15 : waitsOk impl_WarpDistance.T15.2 impl_WarpDistance.B15 = true := by kernel_rfl
def impl_WarpDistance.T20 : Bool × List (List Nat × List Nat) := (true, [([], []), ([], []), ([0, 1], [0, 1]), ([2], [2]), ([], []), ([], []), ([], []), ([], []), ([6, 7], [6, 7]), ([8], [8]), ([], []), ([], []), ([10, 11], [10, 11]), ([12], [12]), ([9, 13], [9, 13]), ([14], [14]), ([5, 15], [5, 15]), ([3, 4, 0, 1, 2, 3, 4, 5, 6, 7, 8, 9, 10, 11, 12, 13, 14, 15, 16], [3, 4]), ([17, 16, 15, 0, 1, 2, 3, 4, 5, 6, 7, 8, 9, 10, 11, 12, 13, 14, 15, 16], [16, 17])])
def impl_WarpDistance.B20 : List Nat := [0, 0, 3, 7, 0, 0, 0, 0, 192, 448, 0, 0, 3072, 7168, 16320, 32704, 65504, 131071, 262143]
theorem impl_WarpDistance.tab20 : rtab .any (opsOf Try.f38 20) = impl_WarpDistance.T20 := by kernel_rfl
theorem impl_WarpDistance.bits20 : waitsOk impl_WarpDistance.T20.2 impl_WarpDistance.B20 = true := by kernel_rfl
set_option maxHeartbeats 8000000 in
set_option maxRecDepth 100000 in
theorem impl_WarpDistance.calls (k : Nat) (A0 : Option Addr) (c0 : Nat) (l0 : List Int) (A1 : Option Addr) (c1 : Nat) (l1 : List Int) (r1 : Int) (r2 : Int) (w : World) (hr0 : Kd.C (Kd.int .i64) w A0 l0.length l0) (hc0 : l0.length ≤ c0) (hr1 : Kd.C (Kd.int .i64) w A1 l1.length l1) (hc1 : l1.length ≤ c1) (h : impl_WarpDistance.f k l0 l1 = some (r1, r2)) :
    Calls Try.prog 38 #[.slice A0 l0.length c0, .slice A1 l1.length c1] w fun e w' => e = .returned (.tuple #[.int .i64 r1, .int .i64 r2]) ∧ Below w.heap.size w w' := by
  have HR0 := Aside0.mk hr0
  have HC0 := Aside0.mk hc0
  clear hr0 hc0
  have HR1 := Aside0.mk hr1
  have HC1 := Aside0.mk hc1
  clear hr1 hc1
  have HB := Aside0.mk (Below.refl w.heap.size w)
  have H : ((impl_pitchesOk.f l0).bind fun t877 => (if t877 = true then ((impl_pitchesOk.f l1).bind fun t878 => (impl_WarpDistance.j0 k l0 l1 (!t878))) else (impl_WarpDistance.j0 k l0 l1 true))) = some (r1, r2) := h
  clear h
  have HC3 := Aside0.mk H
  clear H
  go_enter Try.func38, Try.ntmps38
  go_upto_region 1 with (fail)
  go_cut [10] (fun v10 wc => ∃ (kq : Nat) (x10_2 : Bool), v10 = .bool x10_2 ∧ Aside0 (impl_WarpDistance.j0 kq l0 l1 x10_2 = some (r1, r2)) ∧ Aside0 (kq ≤ k) ∧ Aside0 (Below w.heap.size w wc))
  case first =>
    have H := HC3.out
    clear HC3
    replace H := Option.bind_eq_some_iff.mp H
    obtain ⟨t877, A40, H⟩ := H
    replace H : (if t877 = true then ((impl_pitchesOk.f l1).bind fun t878 => (impl_WarpDistance.j0 k l0 l1 (!t878))) else (impl_WarpDistance.j0 k l0 l1 true)) = some (r1, r2) := H
    have A4 := Aside0.mk A40
    clear A40
    by_cases c5 : t877 = true
    · subst c5
      have H1 : ((impl_pitchesOk.f l1).bind fun t878 => (impl_WarpDistance.j0 k l0 l1 (!t878))) = some (r1, r2) := by rw [if_pos rfl] at H; exact H
      clear H
      have H := H1
      clear H1
      replace H := Option.bind_eq_some_iff.mp H
      obtain ⟨t878, A60, H⟩ := H
      replace H : (impl_WarpDistance.j0 k l0 l1 (!t878)) = some (r1, r2) := H
      have A6 := Aside0.mk A60
      clear A60
      have H' := Aside0.mk H
      clear H
      go_wp2_with (first | ((with_reducible refine gate_callee (f := 67) rfl ?_); refine goesL_ (some 12) rfl rfl Try.func67 (by kernel_rfl) rfl #[.slice A0 l0.length c0] rfl (by (try simp only [List.map_toArray, List.map_cons, List.map_nil]); first | done | rfl | (simp only [List.length_drop, List.length_take]; rfl)) ?_; (with_reducible refine (impl_pitchesOk.calls _ _ l0 true _ ?side1 ?side2 A4.out).mono ?_); (case side1 => repeat (first | exact (Kd.C_below HR0.out HB.out) | (with_reducible refine Kd.C_alloc ?_ _) | (with_reducible refine Kd.C_drewN ?_ _) | (with_reducible refine Kd.C_drew ?_))); (case side2 => exact HC0.out); rintro e w7 ⟨rfl, hb⟩; refine ⟨_, rfl, ?_⟩; have n0_ := Aside0.mk (below_step (by repeat (first | (with_reducible first | exact HB.out | apply below_alloc | apply pw_below_drewN | apply below_drew1) | exact HB.out)) hb); clear HB; have HB := n0_; clear n0_; (try clear hb); (try clear hb2); (try clear hk); (try clear hi)) | (go_at_call 67; (with_reducible refine (impl_pitchesOk.calls _ _ l1 t878 _ ?side1 ?side2 A6.out).mono ?_); (case side1 => repeat (first | exact (Kd.C_below HR1.out HB.out) | (with_reducible refine Kd.C_alloc ?_ _) | (with_reducible refine Kd.C_drewN ?_ _) | (with_reducible refine Kd.C_drew ?_))); (case side2 => exact HC1.out); rintro e w8 ⟨rfl, hb⟩; have n0_ := Aside0.mk (below_step (by repeat (first | (with_reducible first | exact HB.out | apply below_alloc | apply pw_below_drewN | apply below_drew1) | exact HB.out)) hb); clear HB; have HB := n0_; clear n0_; (try clear hb); (try clear hb2); (try clear hk); (try clear hi)))
      go_meet
      case rel => exact ⟨_, (!t878), (by first | rfl | (simp; done) | (simp [*]; done)), H', ⟨by first | omega | exact Nat.le_refl _⟩, ⟨by repeat (first | (with_reducible first | exact HB.out | apply below_alloc | apply pw_below_drewN | apply below_drew1) | exact HB.out)⟩⟩
    · replace c5 := Bool.eq_false_iff.mpr c5
      subst c5
      have H1 : (impl_WarpDistance.j0 k l0 l1 true) = some (r1, r2) := by rw [if_neg (show ¬ (false = true) by decide)] at H; exact H
      clear H
      have H := H1
      clear H1
      have H' := Aside0.mk H
      clear H
      go_wp2_with (first | ((with_reducible refine gate_callee (f := 67) rfl ?_); refine goesL_ (some 12) rfl rfl Try.func67 (by kernel_rfl) rfl #[.slice A0 l0.length c0] rfl (by (try simp only [List.map_toArray, List.map_cons, List.map_nil]); first | done | rfl | (simp only [List.length_drop, List.length_take]; rfl)) ?_; (with_reducible refine (impl_pitchesOk.calls _ _ l0 false _ ?side1 ?side2 A4.out).mono ?_); (case side1 => repeat (first | exact (Kd.C_below HR0.out HB.out) | (with_reducible refine Kd.C_alloc ?_ _) | (with_reducible refine Kd.C_drewN ?_ _) | (with_reducible refine Kd.C_drew ?_))); (case side2 => exact HC0.out); rintro e w9 ⟨rfl, hb⟩; refine ⟨_, rfl, ?_⟩; have n0_ := Aside0.mk (below_step (by repeat (first | (with_reducible first | exact HB.out | apply below_alloc | apply pw_below_drewN | apply below_drew1) | exact HB.out)) hb); clear HB; have HB := n0_; clear n0_; (try clear hb); (try clear hb2); (try clear hk); (try clear hi)))
      go_meet
      case rel => exact ⟨_, (true), (by first | rfl | (simp; done) | (simp [*]; done)), H', ⟨by first | omega | exact Nat.le_refl _⟩, ⟨by repeat (first | (with_reducible first | exact HB.out | apply below_alloc | apply pw_below_drewN | apply below_drew1) | exact HB.out)⟩⟩
  case rest =>
    clear HC3
    try clear c1
    try clear p2
    try clear c3
    try clear c5
    try clear c6
    obtain ⟨kq, x10_2, rfl, HA, HJ2, HB⟩ := hcut
    cases kq with
    | zero => exact absurd HA.out (by simp [impl_WarpDistance.j0])
    | succ kj2 =>
      have H := HA.out
      clear HA
      simp only [impl_WarpDistance.j0] at H
      by_cases c10 : x10_2 = true
      · subst c10
        have H1 : (some (0, 7)) = some (r1, r2) := by rw [if_pos rfl] at H; exact H
        clear H
        have H := H1
        clear H1
        simp only [Option.some.injEq, Prod.mk.injEq] at H
        obtain ⟨rfl, rfl⟩ := H
        go_wp2
        go_ret2
        exact ⟨by first | rfl | (simp [errW_none, errW_some] <;> rfl) | (simp [*, errW_none, errW_some] <;> rfl), by repeat (first | (with_reducible first | exact HB.out | apply below_alloc | apply pw_below_drewN | apply below_drew1) | exact HB.out)⟩
      · replace c10 := Bool.eq_false_iff.mpr c10
        subst c10
        have H1 : (if (l0.length : Int) = 0 then (some (0, 3)) else (if (l1.length : Int) = 0 then (some (0, 3)) else (if 0 ≤ (l0.length : Int) then (if ((l0.length : Int) : Int).toNat ≤ 11728124029610 then (impl_WarpDistance.l0 kj2 l0 l1 (List.replicate ((l0.length : Int) : Int).toNat []) (l0.length : Int) 0) else (none)) else (none)))) = some (r1, r2) := by rw [if_neg (show ¬ (false = true) by decide)] at H; exact H
        clear H
        have H := H1
        clear H1
        by_cases c11 : (l0.length : Int) = 0
        · rw [if_pos c11] at H
          have c11b0 : ((l0.length : Int) == 0) = true := beq_iff_eq.mpr c11
          have c11b1 : ((l0.length : Int) != 0) = false := bne_eq_false_iff_eq.mpr c11
          clear c11
          simp only [Option.some.injEq, Prod.mk.injEq] at H
          obtain ⟨rfl, rfl⟩ := H
          go_wp2
          go_ret2
          exact ⟨by first | rfl | (simp [errW_none, errW_some] <;> rfl) | (simp [*, errW_none, errW_some] <;> rfl), by repeat (first | (with_reducible first | exact HB.out | apply below_alloc | apply pw_below_drewN | apply below_drew1) | exact HB.out)⟩
        · rw [if_neg c11] at H
          have c11b0 : ((l0.length : Int) == 0) = false := beq_eq_false_iff_ne.mpr c11
          have c11b1 : ((l0.length : Int) != 0) = true := bne_iff_ne.mpr c11
          have c11b2 : ¬ (l0 = []) := fun h_ => c11 (by rw [h_]; rfl)
          by_cases c12 : (l1.length : Int) = 0
          · rw [if_pos c12] at H
            have c12b0 : ((l1.length : Int) == 0) = true := beq_iff_eq.mpr c12
            have c12b1 : ((l1.length : Int) != 0) = false := bne_eq_false_iff_eq.mpr c12
            clear c12
            simp only [Option.some.injEq, Prod.mk.injEq] at H
            obtain ⟨rfl, rfl⟩ := H
            go_wp2
            go_ret2
            exact ⟨by first | rfl | (simp [errW_none, errW_some] <;> rfl) | (simp [*, errW_none, errW_some] <;> rfl), by repeat (first | (with_reducible first | exact HB.out | apply below_alloc | apply pw_below_drewN | apply below_drew1) | exact HB.out)⟩
          · rw [if_neg c12] at H
            have c12b0 : ((l1.length : Int) == 0) = false := beq_eq_false_iff_ne.mpr c12
            have c12b1 : ((l1.length : Int) != 0) = true := bne_iff_ne.mpr c12
            have c12b2 : ¬ (l1 = []) := fun h_ => c12 (by rw [h_]; rfl)
            by_cases c13 : 0 ≤ (l0.length : Int)
            · rw [if_pos c13] at H
              have c13b0 := eq_true c13
              have c13b1 : decide (0 ≤ (l0.length : Int)) = true := decide_eq_true c13
              clear c13
              by_cases c14 : ((l0.length : Int) : Int).toNat ≤ 11728124029610
              · rw [if_pos c14] at H
                have c14b0 := eq_true c14
                have c14b1 : decide (((l0.length : Int) : Int).toNat ≤ 11728124029610) = true := decide_eq_true c14
                clear c14
                obtain ⟨y879, hy879⟩ : ∃ y_ : List (List Int), y_ = (List.replicate ((l0.length : Int) : Int).toNat []) := ⟨_, rfl⟩
                replace H : (impl_WarpDistance.l0 kj2 l0 l1 y879 (l0.length : Int) 0) = some (r1, r2) := by first | (rw [hy879]; with_reducible exact H) | (have H2_ := (Option.bind_some _ _).symm.trans H; rw [hy879]; with_reducible exact H2_) | (have H2_ := (Option.bind_some _ _).symm.trans H; with_reducible exact H2_) | with_reducible exact H | (rw [hy879]; exact H) | exact H
                have Ny879 := Aside0.mk hy879
                clear hy879
                have H' := Aside0.mk H
                clear H
                go_wp2_with (first | ((with_reducible refine gate_dst (N := 30) rfl ?_); (try (refine gate_guard (by rfl) ?_; dsimp only)); refine Kd.S_make (Kd.slice 2 (Kd.int .i64)) _ 22 rfl (N := 30) rfl 49 _ _ rfl (l0.length : Int) rfl rfl Try.underlying49 (.slice none 0 0) 24 info22 rfl (by decide) (by omega) [] (ok := fun _ => True) (okp := fun _ => True) ⟨_, rfl, Kd.R_nil _ _ _ _ _⟩ (fun _ hk => hk) trivial (of_decide_eq_true (by first | (with_reducible assumption) | assumption)) (Nat.le_trans (Nat.mul_le_mul_right _ (of_decide_eq_true (by first | (with_reducible assumption) | assumption) : (l0.length : Int).toNat ≤ 11728124029610)) (by omega)) (Below.refl _ _) (Nat.le_refl _) ?_; intro v880 w15 ho16 hb hg_ hnew_; clear hg_ hnew_; (first | rw [← Ny879.out] at ho16 | (simp only [Int.reduceToNat] at ho16; rw [← Ny879.out] at ho16)); have n0_ := Aside0.mk (Kd.S_lower ho16 (below_size (by repeat (first | (with_reducible first | exact HB.out | apply below_alloc | apply pw_below_drewN | apply below_drew1) | exact HB.out)))); have n1_ := Aside0.mk (below_step (by repeat (first | (with_reducible first | exact HB.out | apply below_alloc | apply pw_below_drewN | apply below_drew1) | exact HB.out)) hb); clear HB; have HO881 := n0_; have HB := n1_; clear n0_ n1_; clear hb ho16))
                go_loopg [33] kj2 (fun kq v33 w' => ∃ (x6_2 : List (List Int)) (x33_2 : Int), v33 = .int .i64 x33_2 ∧ Aside0 (impl_WarpDistance.l0 kq l0 l1 x6_2 (l0.length : Int) x33_2 = some (r1, r2)) ∧ Aside0 (kq ≤ kj2) ∧ Aside0 (Kd.S (Kd.slice 2 (Kd.int .i64)) 22 w' w.heap.size (fun _ => True) v880 x6_2) ∧ Aside0 (Below w.heap.size w w'))
                case atStart => exact ⟨(y879), (0), (by first | rfl | (simp; done) | (simp [*]; done)), H', ⟨Nat.le_refl _⟩, ⟨by (with_reducible repeat (first | apply Kd.S_alloc | apply Kd.S_drewN | apply Kd.S_drew)); exact HO881.out⟩, ⟨by repeat (first | (with_reducible first | exact HB.out | apply below_alloc | apply pw_below_drewN | apply below_drew1) | exact HB.out)⟩⟩
                case round =>
                  clear H'
                  try clear c1
                  try clear p2
                  try clear c3
                  try clear c5
                  try clear c6
                  try clear c10
                  try clear c11
                  try clear c11b0
                  try clear c11b1
                  try clear c11b2
                  try clear c12
                  try clear c12b0
                  try clear c12b1
                  try clear c12b2
                  try clear c13
                  try clear c13b0
                  try clear c13b1
                  try clear c14
                  try clear c14b0
                  try clear c14b1
                  try clear p2
                  obtain ⟨x6_2, x33_2, rfl, HA, HK2, HO_6, HB⟩ := hrel
                  cases gk with
                  | zero => exact absurd HA.out (by simp [impl_WarpDistance.l0])
                  | succ k2 =>
                    have H := HA.out
                    clear HA
                    simp only [impl_WarpDistance.l0] at H
                    by_cases c17 : x33_2 < (l0.length : Int)
                    · rw [if_pos c17] at H
                      have c17b0 : decide (x33_2 < (l0.length : Int)) = true := decide_eq_true c17
                      clear c17
                      by_cases c18 : 0 ≤ (l1.length : Int)
                      · rw [if_pos c18] at H
                        have c18b0 := eq_true c18
                        have c18b1 : decide (0 ≤ (l1.length : Int)) = true := decide_eq_true c18
                        clear c18
                        by_cases c19 : ((l1.length : Int) : Int).toNat ≤ 35184372088832
                        · rw [if_pos c19] at H
                          have c19b0 := eq_true c19
                          have c19b1 : decide (((l1.length : Int) : Int).toNat ≤ 35184372088832) = true := decide_eq_true c19
                          clear c19
                          obtain ⟨y884, hy884⟩ : ∃ y_ : List Int, y_ = (List.replicate ((l1.length : Int) : Int).toNat 0) := ⟨_, rfl⟩
                          replace H : (if 0 ≤ x33_2 then (if x33_2 < (x6_2.length : Int) then (impl_WarpDistance.l1 k2 l0 l1 (x6_2.set (x33_2 : Int).toNat y884) x33_2 (l0.length : Int) x33_2 (l1.length : Int) 0) else (none)) else (none)) = some (r1, r2) := by first | (rw [hy884]; with_reducible exact H) | (have H2_ := (Option.bind_some _ _).symm.trans H; rw [hy884]; with_reducible exact H2_) | (have H2_ := (Option.bind_some _ _).symm.trans H; with_reducible exact H2_) | with_reducible exact H | (rw [hy884]; exact H) | exact H
                          have Ny884 := Aside0.mk hy884
                          clear hy884
                          by_cases c20 : 0 ≤ x33_2
                          · rw [if_pos c20] at H
                            have c20b0 : decide (0 ≤ x33_2) = true := decide_eq_true c20
                            clear c20
                            by_cases c21 : x33_2 < (x6_2.length : Int)
                            · rw [if_pos c21] at H
                              have c21b0 : decide (x33_2 < (x6_2.length : Int)) = true := decide_eq_true c21
                              clear c21
                              obtain ⟨y887, hy887⟩ : ∃ y_ : List (List Int), y_ = (x6_2.set (x33_2 : Int).toNat y884) := ⟨_, rfl⟩
                              replace H : (impl_WarpDistance.l1 k2 l0 l1 y887 x33_2 (l0.length : Int) x33_2 (l1.length : Int) 0) = some (r1, r2) := by first | (rw [hy887]; with_reducible exact H) | (have H2_ := (Option.bind_some _ _).symm.trans H; rw [hy887]; with_reducible exact H2_) | (have H2_ := (Option.bind_some _ _).symm.trans H; with_reducible exact H2_) | with_reducible exact H | (rw [hy887]; exact H) | exact H
                              have Ny887 := Aside0.mk hy887
                              clear hy887
                              have H' := Aside0.mk H
                              clear H
                              go_wp2_with (first | ((with_reducible refine gate_dst (N := 40) rfl ?_); (try (refine gate_guard (by rfl) ?_; dsimp only)); refine Kd.R_make (Kd.int .i64) _ 2 rfl (N := 40) rfl 22 _ _ rfl (l1.length : Int) rfl rfl Try.underlying22 (.int .i64 0) 8 info2 rfl (by decide) (by omega) 0 (ok := fun _ => True) (okp := fun _ => True) rfl (fun _ hk => hk) trivial (of_decide_eq_true (by first | (with_reducible assumption) | assumption)) (Nat.le_trans (Nat.mul_le_mul_right _ (of_decide_eq_true (by first | (with_reducible assumption) | assumption) : (l1.length : Int).toNat ≤ 35184372088832)) (by omega)) (Below.refl _ _) (Nat.le_refl _) ?_; intro v885 w23 ho24 hb hg_ hnew_; clear hg_ hnew_; (first | rw [← Ny884.out] at ho24 | (simp only [Int.reduceToNat] at ho24; rw [← Ny884.out] at ho24)); have n0_ := Aside0.mk (Kd.S_elder' (by (with_reducible repeat (first | apply Kd.S_alloc | apply Kd.S_drewN | apply Kd.S_drew)); exact HO_6.out) (Kd.R_base ho24) hb); have n1_ := Aside0.mk (Kd.R_lower ho24 (below_size (by repeat (first | (with_reducible first | exact HB.out | apply below_alloc | apply pw_below_drewN | apply below_drew1) | exact HB.out)))); have n2_ := Aside0.mk (below_step (by repeat (first | (with_reducible first | exact HB.out | apply below_alloc | apply pw_below_drewN | apply below_drew1) | exact HB.out)) hb); clear HO_6; clear HB; have HO_6 := n0_; have HO886 := n1_; have HB := n2_; clear n0_ n1_ n2_; clear hb ho24; have p22 : 0 ≤ (x33_2 : Int) := of_decide_eq_true (by first | (with_reducible assumption) | assumption); have q22 : (x33_2 : Int) < ((x6_2.length : Int) : Int) := of_decide_eq_true (by first | (with_reducible assumption) | assumption); obtain ⟨go22, co22, eo22, gb22, gl22, cl22, HG22⟩ := Kd.S_form HO_6.out (by omega); (first | cases eo22 | (injection eo22 with ea_ en_ ec_; (first | subst ea_ | (injection ea_ with ea_; subst ea_)); subst ec_; clear en_)); have GB22 := Aside0.mk gb22; have GG22 := Aside0.mk HG22; clear gb22 gl22 HG22; obtain ⟨_, ce22, hcl22, hM22, hcc22, hfr22, _, _⟩ := Kd.S_elem HO_6.out [] (x33_2 : Int) p22 q22; obtain ⟨ve22_0, rfl, ge22_0⟩ := hM22; have hx22_0 := hcc22 0 _ rfl; have hf22_0 := hfr22 0; (try simp only [show ((Kd.slice 2 (Kd.int .i64))).sz = 1 from rfl, Nat.mul_one, Nat.add_zero] at hx22_0); (try simp only [show ((Kd.slice 2 (Kd.int .i64))).sz = 1 from rfl, Nat.mul_one, Nat.add_zero] at hf22_0); clear hcl22 hcc22 hfr22; (try clear hM22); replace p22 := eq_true p22; replace q22 := eq_true q22; have n_ := Aside0.mk (Kd.S_mono (ok' := (fun k_ => some k_ ≠ (v885 : Value).ownBlock)) HO_6.out (fun k_ hk => hk.2)); clear HO_6; have HO_6 := n_; clear n_; have HX25 := Aside0.mk (show Kd.S (Kd.slice 2 (Kd.int .i64)) 22 w23 w.heap.size (fun k_ => ((fun _ => True)) k_ ∧ ¬ ((fun k_ => some k_ = (v885 : Value).ownBlock)) k_) (.slice (some ⟨go22, 0, none⟩) x6_2.length co22) x6_2 from (by (with_reducible repeat (first | apply Kd.S_alloc | apply Kd.S_drewN | apply Kd.S_drew)); exact Kd.S_mono HO_6.out (fun k_ hk => ⟨trivial, fun e_ => hk e_⟩))); obtain ⟨oki25, ce25, hcl25, hM25, hcc25, hfr25, hoki25, hH25⟩ := Kd.S_elem HX25.out [] (x33_2 : Int) (of_decide_eq_true (by first | (with_reducible assumption) | assumption)) (by have h_ : (x33_2 : Int) < ((x6_2.length : Int) : Int) := of_decide_eq_true (by first | (with_reducible assumption) | assumption); first | exact h_ | (have e_ := (Kd.S_reads' HO_6.out).1; omega) | simpa using h_); obtain ⟨ve25_0, rfl, ge25_0⟩ := hM25; have HP25 := Kd.S_seg hH25 (of_decide_eq_true (by first | (with_reducible assumption) | assumption)) (by have h_ : (x33_2 : Int) < ((x6_2.length : Int) : Int) := of_decide_eq_true (by first | (with_reducible assumption) | assumption); first | exact h_ | (have e_ := (Kd.S_reads' HO_6.out).1; omega) | simpa using h_) (seg := [v885]) (j := 0) (show 1 ≤ 1 from by decide) (x' := y884) (Kd.M_row (Kd.R_mono (Kd.R_tight rfl (Kd.R_mono (ok' := fun k_ => ((fun _ => True)) k_ ∧ k_ ≠ go22) (Kd.R_apart' (HO886.out) (Kd.S_typed HO_6.out) (by decide)) (fun k_ hk => ⟨trivial, fun e_ => (hk.2) (by rw [e_]; rfl)⟩))) (fun _ h_ => Or.inr (h_)))) (fun _ hk => hk) (fun k_ hk_ => ((Kd.R_mono (ok' := fun k_ => ((fun _ => True)) k_ ∧ k_ ≠ go22) (Kd.R_apart' (HO886.out) (Kd.S_typed HO_6.out) (by decide)) (fun k_ hk => ⟨trivial, fun e_ => (hk.2) (by rw [e_]; rfl)⟩))).1 k_ hk_.symm); have hx25_0 := hcc25 0 _ rfl; (try simp only [show ((Kd.slice 2 (Kd.int .i64))).sz = 1 from rfl, Nat.mul_one, Nat.add_zero] at hx25_0); have hf25_0 := hfr25 0; (try simp only [show ((Kd.slice 2 (Kd.int .i64))).sz = 1 from rfl, Nat.mul_one, Nat.add_zero] at hf25_0); clear hcl25 hcc25 hfr25 hoki25 hH25; (try clear hM25); (try simp only [show ((Kd.slice 2 (Kd.int .i64))).sz = 1 from rfl, Nat.mul_one, Nat.add_zero] at HP25)) | ((with_reducible refine gate_store (t := 22) (p := 41) rfl ?_); refine store_event (t := 22) (p := 41) (v := ?vo_w26) (w1 := (w23.setCell ⟨go22, (x33_2 : Int).toNat, none⟩ (v885))) ?hg ?ho ?hn ?hr ?_; (case ho => rfl); (case hg => rfl); (case hn => rfl); (case hr => first | (go_simp; done) | (go_simp; rfl) | (obtain ⟨Ao_, co_, eo_⟩ := Kd.R_slice HO886.out; rw [eo_]; first | (go_simp; done) | (go_simp; rfl))); intro w26 hw; have hg : w23.grownBy w26 (some go22) := (by rw [hw]; exact HP25.2); have hp_ : Kd.S (Kd.slice 2 (Kd.int .i64)) 22 w26 w.heap.size (fun _ => True) (.slice (some ⟨go22, 0, none⟩) x6_2.length co22) y887 := (by rw [hw, Ny887.out]; exact HP25.1); clear HP25; have n0_ := Aside0.mk (hp_); have n1_ := Aside0.mk ((by rw [hw]; exact below_set (HB.out) GB22.out : Below w.heap.size w w26)); clear HO_6; clear HB; clear HO886; have HO_6 := n0_; have HB := n1_; clear n0_ n1_; clear hg hw hp_))
                              go_loopg [44] k2 (fun kq v44 w' => ∃ (x6_3 : List (List Int)) (x44_3 : Int), v44 = .int .i64 x44_3 ∧ Aside0 (impl_WarpDistance.l1 kq l0 l1 x6_3 x33_2 (l0.length : Int) x33_2 (l1.length : Int) x44_3 = some (r1, r2)) ∧ Aside0 (kq ≤ k2) ∧ Aside0 (Kd.S (Kd.slice 2 (Kd.int .i64)) 22 w' w.heap.size (fun _ => True) (.slice (some ⟨go22, 0, none⟩) x6_2.length co22) x6_3) ∧ Aside0 (Below w.heap.size w w'))
                              case atStart => exact ⟨(y887), (0), (by first | rfl | (simp; done) | (simp [*]; done)), H', ⟨Nat.le_refl _⟩, ⟨by (with_reducible repeat (first | apply Kd.S_alloc | apply Kd.S_drewN | apply Kd.S_drew)); exact HO_6.out⟩, ⟨by repeat (first | (with_reducible first | exact HB.out | apply below_alloc | apply pw_below_drewN | apply below_drew1) | exact HB.out)⟩⟩
                              case round =>
                                clear H'
                                try clear c1
                                try clear c2
                                try clear p2
                                try clear q2
                                try clear hx2
                                try clear hf2
                                try clear c3
                                try clear c5
                                try clear c6
                                try clear c10
                                try clear c11
                                try clear c11b0
                                try clear c11b1
                                try clear c11b2
                                try clear c12
                                try clear c12b0
                                try clear c12b1
                                try clear c12b2
                                try clear c13
                                try clear c13b0
                                try clear c13b1
                                try clear c14
                                try clear c14b0
                                try clear c14b1
                                try clear c17
                                try clear c17b0
                                try clear c18
                                try clear c18b0
                                try clear c18b1
                                try clear c19
                                try clear c19b0
                                try clear c19b1
                                try clear c20
                                try clear c20b0
                                try clear c21
                                try clear c21b0
                                try clear c22
                                try clear p22
                                try clear q22
                                try clear hx22
                                try clear hf22
                                try clear c25
                                try clear hx25
                                try clear hf25
                                try clear hx22_0
                                try clear hx25_0
                                try clear p2
                                try clear p22
                                try clear q22
                                obtain ⟨x6_3, x44_3, rfl, HA, HK3, HO_6, HB⟩ := hrel
                                have hl6_3 := (Kd.S_reads' HO_6.out).1
                                rw [hl6_3] at HO_6
                                (try simp only [hl6_3])
                                cases gk with
                                | zero => exact absurd HA.out (by simp [impl_WarpDistance.l1])
                                | succ k3 =>
                                  have H := HA.out
                                  clear HA
                                  simp only [impl_WarpDistance.l1] at H
                                  by_cases c27 : x44_3 < (l1.length : Int)
                                  · rw [if_pos c27] at H
                                    have c27b0 : decide (x44_3 < (l1.length : Int)) = true := decide_eq_true c27
                                    have c27b2 := c27b0; (try simp only [hl6_3] at c27b2)
                                    clear c27
                                    have HC28 := Aside0.mk H
                                    clear H
                                    go_upto_region 14 with (fail)
                                    go_cut [47] (fun v47 wc => ∃ (kq : Nat) (x47_27 : Bool), v47 = .bool x47_27 ∧ Aside0 (impl_WarpDistance.j3 kq l0 l1 x6_3 x33_2 x44_3 0 (l0.length : Int) x33_2 (l1.length : Int) x44_3 x47_27 = some (r1, r2)) ∧ Aside0 (kq ≤ k3) ∧ Aside0 (Kd.S (Kd.slice 2 (Kd.int .i64)) 22 wc w.heap.size (fun _ => True) (.slice (some ⟨go22, 0, none⟩) x6_3.length co22) x6_3) ∧ Aside0 (Below w.heap.size w wc))
                                    case first =>
                                      have H := HC28.out
                                      clear HC28
                                      by_cases c29 : x33_2 > 0
                                      · rw [if_pos c29] at H
                                        have c29b0 : decide (0 < x33_2) = true := decide_eq_true c29
                                        have c29b2 := c29b0; (try simp only [hl6_3] at c29b2)
                                        clear c29
                                        (first | rw [c29b0] | (simp only [i64_w, i32_w]; rw [c29b0]) | skip)
                                        have H' := Aside0.mk H
                                        clear H
                                        go_wp2
                                        go_meet
                                        case rel => exact ⟨_, (decide (x44_3 > 0)), (by first | rfl | (simp; done) | (simp [*]; done)), H', ⟨by have := HJ2.out; have := HK2.out; have := HK3.out; first | omega | exact Nat.le_refl _⟩, ⟨by (try simp only [hl6_3]); (with_reducible repeat (first | apply Kd.S_alloc | apply Kd.S_drewN | apply Kd.S_drew)); exact HO_6.out⟩, ⟨by repeat (first | (with_reducible first | exact HB.out | apply below_alloc | apply pw_below_drewN | apply below_drew1) | exact HB.out)⟩⟩
                                      · rw [if_neg c29] at H
                                        have c29b0 : decide (0 < x33_2) = false := decide_eq_false c29
                                        have c29b2 := c29b0; (try simp only [hl6_3] at c29b2)
                                        clear c29
                                        (first | rw [c29b0] | (simp only [i64_w, i32_w]; rw [c29b0]) | skip)
                                        have H' := Aside0.mk H
                                        clear H
                                        go_wp2
                                        go_meet
                                        case rel => exact ⟨_, (false), (by first | rfl | (simp; done) | (simp [*]; done)), H', ⟨by have := HJ2.out; have := HK2.out; have := HK3.out; first | omega | exact Nat.le_refl _⟩, ⟨by (try simp only [hl6_3]); (with_reducible repeat (first | apply Kd.S_alloc | apply Kd.S_drewN | apply Kd.S_drew)); exact HO_6.out⟩, ⟨by repeat (first | (with_reducible first | exact HB.out | apply below_alloc | apply pw_below_drewN | apply below_drew1) | exact HB.out)⟩⟩
                                    case rest =>
                                      clear HC28
                                      try clear c1
                                      try clear c2
                                      try clear p2
                                      try clear q2
                                      try clear hx2
                                      try clear hf2
                                      try clear c3
                                      try clear c5
                                      try clear c6
                                      try clear c10
                                      try clear c11
                                      try clear c11b0
                                      try clear c11b1
                                      try clear c11b2
                                      try clear c12
                                      try clear c12b0
                                      try clear c12b1
                                      try clear c12b2
                                      try clear c13
                                      try clear c13b0
                                      try clear c13b1
                                      try clear c14
                                      try clear c14b0
                                      try clear c14b1
                                      try clear c17
                                      try clear c17b0
                                      try clear c18
                                      try clear c18b0
                                      try clear c18b1
                                      try clear c19
                                      try clear c19b0
                                      try clear c19b1
                                      try clear c20
                                      try clear c20b0
                                      try clear c21
                                      try clear c21b0
                                      try clear c22
                                      try clear p22
                                      try clear q22
                                      try clear hx22
                                      try clear hf22
                                      try clear c25
                                      try clear hx25
                                      try clear hf25
                                      try clear c27
                                      try clear c27b0
                                      try clear c29
                                      try clear c29b0
                                      try clear hx22_0
                                      try clear hx25_0
                                      try clear p2
                                      try clear p22
                                      try clear q2
                                      try clear q22
                                      obtain ⟨kq, x47_27, rfl, HA, HJ27, HO_6, HB⟩ := hcut
                                      cases kq with
                                      | zero => exact absurd HA.out (by simp [impl_WarpDistance.j3])
                                      | succ kj27 =>
                                        have H := HA.out
                                        clear HA
                                        simp only [impl_WarpDistance.j3] at H
                                        by_cases c30 : x47_27 = true
                                        · subst c30
                                          have H1 : (if 0 ≤ (wrap64 (x33_2 - 1)) then (if (wrap64 (x33_2 - 1)) < (x6_3.length : Int) then (if 0 ≤ x44_3 then (if x44_3 < ((rd_L1 x6_3 (wrap64 (x33_2 - 1))).length : Int) then (if 0 ≤ x33_2 then (if x33_2 < (x6_3.length : Int) then (if 0 ≤ (wrap64 (x44_3 - 1)) then (if (wrap64 (x44_3 - 1)) < ((rd_L1 x6_3 x33_2).length : Int) then (if (wrap64 (x44_3 - 1)) < ((rd_L1 x6_3 (wrap64 (x33_2 - 1))).length : Int) then (if x33_2 < (l0.length : Int) then (if x44_3 < (l1.length : Int) then ((impl_abs.f (wrap64 ((rd l0 x33_2) - (rd l1 x44_3)))).bind fun t897 => (if x44_3 < ((rd_L1 x6_3 x33_2).length : Int) then (impl_WarpDistance.l1 kj27 l0 l1 (x6_3.set (x33_2 : Int).toNat ((rd_L1 x6_3 x33_2).set (x44_3 : Int).toNat (wrap64 ((mn (mn (rd (rd_L1 x6_3 (wrap64 (x33_2 - 1))) x44_3) (rd (rd_L1 x6_3 x33_2) (wrap64 (x44_3 - 1)))) (rd (rd_L1 x6_3 (wrap64 (x33_2 - 1))) (wrap64 (x44_3 - 1)))) + t897)))) x33_2 (l0.length : Int) x33_2 (l1.length : Int) (wrap64 (x44_3 + 1))) else (none))) else (none)) else (none)) else (none)) else (none)) else (none)) else (none)) else (none)) else (none)) else (none)) else (none)) else (none)) = some (r1, r2) := by rw [if_pos rfl] at H; exact H
                                          clear H
                                          have H := H1
                                          clear H1
                                          obtain ⟨ji31, hji31⟩ : ∃ j_ : Int, (wrap64 (x33_2 - 1)) = j_ := ⟨_, rfl⟩
                                          replace H : (if 0 ≤ (ji31) then (if (ji31) < (x6_3.length : Int) then (if 0 ≤ x44_3 then (if x44_3 < ((rd_L1 x6_3 (ji31)).length : Int) then (if 0 ≤ x33_2 then (if x33_2 < (x6_3.length : Int) then (if 0 ≤ (wrap64 (x44_3 - 1)) then (if (wrap64 (x44_3 - 1)) < ((rd_L1 x6_3 x33_2).length : Int) then (if (wrap64 (x44_3 - 1)) < ((rd_L1 x6_3 (ji31)).length : Int) then (if x33_2 < (l0.length : Int) then (if x44_3 < (l1.length : Int) then ((impl_abs.f (wrap64 ((rd l0 x33_2) - (rd l1 x44_3)))).bind fun t897 => (if x44_3 < ((rd_L1 x6_3 x33_2).length : Int) then (impl_WarpDistance.l1 kj27 l0 l1 (x6_3.set (x33_2 : Int).toNat ((rd_L1 x6_3 x33_2).set (x44_3 : Int).toNat (wrap64 ((mn (mn (rd (rd_L1 x6_3 (ji31)) x44_3) (rd (rd_L1 x6_3 x33_2) (wrap64 (x44_3 - 1)))) (rd (rd_L1 x6_3 (ji31)) (wrap64 (x44_3 - 1)))) + t897)))) x33_2 (l0.length : Int) x33_2 (l1.length : Int) (wrap64 (x44_3 + 1))) else (none))) else (none)) else (none)) else (none)) else (none)) else (none)) else (none)) else (none)) else (none)) else (none)) else (none)) else (none)) = some (r1, r2) := by first | (rw [hji31] at H; exact H) | (simp only [hji31] at H ⊢; exact H)
                                          have hji31w : (IntKind.i64.wrap (x33_2 - 1)) = ji31 := (i64_w _).trans hji31
                                          by_cases c32 : 0 ≤ (ji31)
                                          · rw [if_pos c32] at H
                                            have c32b0 : decide (0 ≤ (ji31)) = true := decide_eq_true c32
                                            have c32b2 := c32b0; (try simp only [hl6_3] at c32b2)
                                            clear c32
                                            by_cases c33 : (ji31) < (x6_3.length : Int)
                                            · rw [if_pos c33] at H
                                              have c33b0 : decide ((ji31) < (x6_3.length : Int)) = true := decide_eq_true c33
                                              have c33b2 := c33b0; (try simp only [hl6_3] at c33b2)
                                              clear c33
                                              by_cases c34 : 0 ≤ x44_3
                                              · rw [if_pos c34] at H
                                                have c34b0 : decide (0 ≤ x44_3) = true := decide_eq_true c34
                                                have c34b2 := c34b0; (try simp only [hl6_3] at c34b2)
                                                clear c34
                                                by_cases c35 : x44_3 < ((rd_L1 x6_3 (ji31)).length : Int)
                                                · rw [if_pos c35] at H
                                                  have c35b0 : decide (x44_3 < ((rd_L1 x6_3 (ji31)).length : Int)) = true := decide_eq_true c35
                                                  have c35b2 := c35b0; (try simp only [hl6_3] at c35b2)
                                                  clear c35
                                                  by_cases c36 : 0 ≤ x33_2
                                                  · rw [if_pos c36] at H
                                                    have c36b0 : decide (0 ≤ x33_2) = true := decide_eq_true c36
                                                    have c36b2 := c36b0; (try simp only [hl6_3] at c36b2)
                                                    clear c36
                                                    by_cases c37 : x33_2 < (x6_3.length : Int)
                                                    · rw [if_pos c37] at H
                                                      have c37b0 : decide (x33_2 < (x6_3.length : Int)) = true := decide_eq_true c37
                                                      have c37b2 := c37b0; (try simp only [hl6_3] at c37b2)
                                                      clear c37
                                                      obtain ⟨ji38, hji38⟩ : ∃ j_ : Int, (wrap64 (x44_3 - 1)) = j_ := ⟨_, rfl⟩
                                                      replace H : (if 0 ≤ (ji38) then (if (ji38) < ((rd_L1 x6_3 x33_2).length : Int) then (if (ji38) < ((rd_L1 x6_3 (ji31)).length : Int) then (if x33_2 < (l0.length : Int) then (if x44_3 < (l1.length : Int) then ((impl_abs.f (wrap64 ((rd l0 x33_2) - (rd l1 x44_3)))).bind fun t897 => (if x44_3 < ((rd_L1 x6_3 x33_2).length : Int) then (impl_WarpDistance.l1 kj27 l0 l1 (x6_3.set (x33_2 : Int).toNat ((rd_L1 x6_3 x33_2).set (x44_3 : Int).toNat (wrap64 ((mn (mn (rd (rd_L1 x6_3 (ji31)) x44_3) (rd (rd_L1 x6_3 x33_2) (ji38))) (rd (rd_L1 x6_3 (ji31)) (ji38))) + t897)))) x33_2 (l0.length : Int) x33_2 (l1.length : Int) (wrap64 (x44_3 + 1))) else (none))) else (none)) else (none)) else (none)) else (none)) else (none)) = some (r1, r2) := by first | (rw [hji38] at H; exact H) | (simp only [hji38] at H ⊢; exact H)
                                                      have hji38w : (IntKind.i64.wrap (x44_3 - 1)) = ji38 := (i64_w _).trans hji38
                                                      by_cases c39 : 0 ≤ (ji38)
                                                      · rw [if_pos c39] at H
                                                        have c39b0 : decide (0 ≤ (ji38)) = true := decide_eq_true c39
                                                        have c39b2 := c39b0; (try simp only [hl6_3] at c39b2)
                                                        clear c39
                                                        by_cases c40 : (ji38) < ((rd_L1 x6_3 x33_2).length : Int)
                                                        · rw [if_pos c40] at H
                                                          have c40b0 : decide ((ji38) < ((rd_L1 x6_3 x33_2).length : Int)) = true := decide_eq_true c40
                                                          have c40b2 := c40b0; (try simp only [hl6_3] at c40b2)
                                                          clear c40
                                                          by_cases c41 : (ji38) < ((rd_L1 x6_3 (ji31)).length : Int)
                                                          · rw [if_pos c41] at H
                                                            have c41b0 : decide ((ji38) < ((rd_L1 x6_3 (ji31)).length : Int)) = true := decide_eq_true c41
                                                            have c41b2 := c41b0; (try simp only [hl6_3] at c41b2)
                                                            clear c41
                                                            obtain ⟨ji42, hji42⟩ : ∃ j_ : Int, (mn (rd (rd_L1 x6_3 (ji31)) x44_3) (rd (rd_L1 x6_3 x33_2) (ji38))) = j_ := ⟨_, rfl⟩
                                                            replace H : (if x33_2 < (l0.length : Int) then (if x44_3 < (l1.length : Int) then ((impl_abs.f (wrap64 ((rd l0 x33_2) - (rd l1 x44_3)))).bind fun t897 => (if x44_3 < ((rd_L1 x6_3 x33_2).length : Int) then (impl_WarpDistance.l1 kj27 l0 l1 (x6_3.set (x33_2 : Int).toNat ((rd_L1 x6_3 x33_2).set (x44_3 : Int).toNat (wrap64 ((mn (ji42) (rd (rd_L1 x6_3 (ji31)) (ji38))) + t897)))) x33_2 (l0.length : Int) x33_2 (l1.length : Int) (wrap64 (x44_3 + 1))) else (none))) else (none)) else (none)) = some (r1, r2) := by first | (rw [hji42] at H; exact H) | (simp only [hji42] at H ⊢; exact H)
                                                            have hji42_ : (if (rd (rd_L1 x6_3 x33_2) (ji38)) < (rd (rd_L1 x6_3 (ji31)) x44_3) then (rd (rd_L1 x6_3 x33_2) (ji38)) else (rd (rd_L1 x6_3 (ji31)) x44_3)) = ji42 := hji42
                                                            obtain ⟨ji43, hji43⟩ : ∃ j_ : Int, (mn (ji42) (rd (rd_L1 x6_3 (ji31)) (ji38))) = j_ := ⟨_, rfl⟩
                                                            replace H : (if x33_2 < (l0.length : Int) then (if x44_3 < (l1.length : Int) then ((impl_abs.f (wrap64 ((rd l0 x33_2) - (rd l1 x44_3)))).bind fun t897 => (if x44_3 < ((rd_L1 x6_3 x33_2).length : Int) then (impl_WarpDistance.l1 kj27 l0 l1 (x6_3.set (x33_2 : Int).toNat ((rd_L1 x6_3 x33_2).set (x44_3 : Int).toNat (wrap64 ((ji43) + t897)))) x33_2 (l0.length : Int) x33_2 (l1.length : Int) (wrap64 (x44_3 + 1))) else (none))) else (none)) else (none)) = some (r1, r2) := by first | (rw [hji43] at H; exact H) | (simp only [hji43] at H ⊢; exact H)
                                                            have hji43_ : (if (rd (rd_L1 x6_3 (ji31)) (ji38)) < (ji42) then (rd (rd_L1 x6_3 (ji31)) (ji38)) else (ji42)) = ji43 := hji43
                                                            by_cases c44 : x33_2 < (l0.length : Int)
                                                            · rw [if_pos c44] at H
                                                              have c44b0 : decide (x33_2 < (l0.length : Int)) = true := decide_eq_true c44
                                                              have c44b2 := c44b0; (try simp only [hl6_3] at c44b2)
                                                              clear c44
                                                              by_cases c45 : x44_3 < (l1.length : Int)
                                                              · rw [if_pos c45] at H
                                                                have c45b0 : decide (x44_3 < (l1.length : Int)) = true := decide_eq_true c45
                                                                have c45b2 := c45b0; (try simp only [hl6_3] at c45b2)
                                                                clear c45
                                                                replace H := Option.bind_eq_some_iff.mp H
                                                                obtain ⟨t897, A460, H⟩ := H
                                                                replace H : (if x44_3 < ((rd_L1 x6_3 x33_2).length : Int) then (impl_WarpDistance.l1 kj27 l0 l1 (x6_3.set (x33_2 : Int).toNat ((rd_L1 x6_3 x33_2).set (x44_3 : Int).toNat (wrap64 ((ji43) + t897)))) x33_2 (l0.length : Int) x33_2 (l1.length : Int) (wrap64 (x44_3 + 1))) else (none)) = some (r1, r2) := H
                                                                have A46 := Aside0.mk A460
                                                                clear A460
                                                                by_cases c47 : x44_3 < ((rd_L1 x6_3 x33_2).length : Int)
                                                                · rw [if_pos c47] at H
                                                                  have c47b0 : decide (x44_3 < ((rd_L1 x6_3 x33_2).length : Int)) = true := decide_eq_true c47
                                                                  have c47b2 := c47b0; (try simp only [hl6_3] at c47b2)
                                                                  clear c47
                                                                  obtain ⟨y898, hy898⟩ : ∃ y_ : List Int, y_ = ((rd_L1 x6_3 x33_2).set (x44_3 : Int).toNat (wrap64 ((ji43) + t897))) := ⟨_, rfl⟩
                                                                  replace H : (impl_WarpDistance.l1 kj27 l0 l1 (x6_3.set (x33_2 : Int).toNat y898) x33_2 (l0.length : Int) x33_2 (l1.length : Int) (wrap64 (x44_3 + 1))) = some (r1, r2) := by first | (rw [hy898]; with_reducible exact H) | (have H2_ := (Option.bind_some _ _).symm.trans H; rw [hy898]; with_reducible exact H2_) | (have H2_ := (Option.bind_some _ _).symm.trans H; with_reducible exact H2_) | with_reducible exact H | (rw [hy898]; exact H) | exact H
                                                                  have Ny898 := Aside0.mk hy898
                                                                  clear hy898
                                                                  obtain ⟨y900, hy900⟩ : ∃ y_ : List (List Int), y_ = (x6_3.set (x33_2 : Int).toNat y898) := ⟨_, rfl⟩
                                                                  replace H : (impl_WarpDistance.l1 kj27 l0 l1 y900 x33_2 (l0.length : Int) x33_2 (l1.length : Int) (wrap64 (x44_3 + 1))) = some (r1, r2) := by first | (rw [hy900]; with_reducible exact H) | (have H2_ := (Option.bind_some _ _).symm.trans H; rw [hy900]; with_reducible exact H2_) | (have H2_ := (Option.bind_some _ _).symm.trans H; with_reducible exact H2_) | with_reducible exact H | (rw [hy900]; exact H) | exact H
                                                                  have Ny900 := Aside0.mk hy900
                                                                  clear hy900
                                                                  have H' := Aside0.mk H
                                                                  clear H
                                                                  try go_wp2
                                                                  have n0_ := Aside0.mk (Kd.S_drew HO_6.out)
                                                                  have n1_ := Aside0.mk (below_drew1 HB.out)
                                                                  clear HO_6
                                                                  clear HB
                                                                  have HO_6 := n0_
                                                                  have HB := n1_
                                                                  clear n0_ n1_
                                                                  have p888 : 0 ≤ ((ji31) : Int) := of_decide_eq_true (by first | (with_reducible assumption) | assumption)
                                                                  have q888 : (ji31) < (x6_3.length : Int) := of_decide_eq_true (by first | (with_reducible assumption) | assumption)
                                                                  obtain ⟨ad888, A888_0, c888_0, e888, hx888_0, hl888_0, hi888_0⟩ := at_L1 (Kd.S_reads' HO_6.out).2.2 (ji31) p888 q888
                                                                  obtain rfl : (⟨go22, 0, none⟩ : Addr) = ad888 := (by injection e888)
                                                                  obtain ⟨ce888, hce888, hMe888, hcc888⟩ := Kd.S_get HO_6.out [] (ji31) p888 (by first | exact q888 | exact of_decide_eq_true (by first | (with_reducible assumption) | assumption) | (have e_ := (Kd.S_reads' HO_6.out).1; omega))
                                                                  obtain ⟨ve888_0, rfl, ge888_0⟩ := hMe888
                                                                  have hv888_0 := hcc888 0 _ rfl
                                                                  rw [Nat.add_zero, show ((Kd.slice 2 (Kd.int .i64))).sz = 1 from rfl, Nat.mul_one] at hv888_0
                                                                  replace hv888_0 := Option.some.inj (hv888_0.symm.trans hx888_0)
                                                                  rw [hv888_0] at ge888_0
                                                                  have HL888_0 := Aside0.mk (show Kd.R (Kd.int .i64) 2 _ _ _ _ (rd_L1 x6_3 (ji31)) from ge888_0)
                                                                  clear hv888_0 ge888_0
                                                                  have HX888_0 := Aside0.mk hx888_0
                                                                  clear hcc888 hce888
                                                                  (first | simp only [add_plain] at hx888_0 | simp only [add_at] at hx888_0 | simp only [Addr.add, Nat.zero_add] at hx888_0 | skip)
                                                                  have HR888_0 := Aside0.mk hi888_0
                                                                  have HC888_0 := Aside0.mk hl888_0
                                                                  clear hi888_0 hl888_0
                                                                  replace p888 := eq_true p888
                                                                  replace q888 := eq_true q888
                                                                  have p889 : 0 ≤ (x44_3 : Int) := of_decide_eq_true (by first | (with_reducible assumption) | assumption)
                                                                  have q889 : x44_3 < ((rd_L1 x6_3 (ji31)).length : Int) := of_decide_eq_true (by first | (with_reducible assumption) | assumption)
                                                                  obtain ⟨ad889, e889, hx889_0⟩ := Kd.at_int (by repeat (first | (with_reducible exact HR888_0.out) | (with_reducible refine Kd.C_alloc ?_ _) | (with_reducible refine Kd.C_drewN ?_ _) | (with_reducible refine Kd.C_drew ?_) | exact HR888_0.out)) x44_3 p889 q889
                                                                  cases e889
                                                                  replace p889 := eq_true p889
                                                                  replace q889 := eq_true q889
                                                                  have p890 : 0 ≤ (x33_2 : Int) := of_decide_eq_true (by first | (with_reducible assumption) | assumption)
                                                                  have q890 : x33_2 < (x6_3.length : Int) := of_decide_eq_true (by first | (with_reducible assumption) | assumption)
                                                                  obtain ⟨ad890, A890_0, c890_0, e890, hx890_0, hl890_0, hi890_0⟩ := at_L1 (Kd.S_reads' HO_6.out).2.2 x33_2 p890 q890
                                                                  obtain rfl : (⟨go22, 0, none⟩ : Addr) = ad890 := (by injection e890)
                                                                  obtain ⟨ce890, hce890, hMe890, hcc890⟩ := Kd.S_get HO_6.out [] x33_2 p890 (by first | exact q890 | exact of_decide_eq_true (by first | (with_reducible assumption) | assumption) | (have e_ := (Kd.S_reads' HO_6.out).1; omega))
                                                                  obtain ⟨ve890_0, rfl, ge890_0⟩ := hMe890
                                                                  have hv890_0 := hcc890 0 _ rfl
                                                                  rw [Nat.add_zero, show ((Kd.slice 2 (Kd.int .i64))).sz = 1 from rfl, Nat.mul_one] at hv890_0
                                                                  replace hv890_0 := Option.some.inj (hv890_0.symm.trans hx890_0)
                                                                  rw [hv890_0] at ge890_0
                                                                  have HL890_0 := Aside0.mk (show Kd.R (Kd.int .i64) 2 _ _ _ _ (rd_L1 x6_3 x33_2) from ge890_0)
                                                                  clear hv890_0 ge890_0
                                                                  have HX890_0 := Aside0.mk hx890_0
                                                                  clear hcc890 hce890
                                                                  (first | simp only [add_plain] at hx890_0 | simp only [add_at] at hx890_0 | simp only [Addr.add, Nat.zero_add] at hx890_0 | skip)
                                                                  have HR890_0 := Aside0.mk hi890_0
                                                                  have HC890_0 := Aside0.mk hl890_0
                                                                  clear hi890_0 hl890_0
                                                                  replace p890 := eq_true p890
                                                                  replace q890 := eq_true q890
                                                                  have p891 : 0 ≤ ((ji38) : Int) := of_decide_eq_true (by first | (with_reducible assumption) | assumption)
                                                                  have q891 : (ji38) < ((rd_L1 x6_3 x33_2).length : Int) := of_decide_eq_true (by first | (with_reducible assumption) | assumption)
                                                                  obtain ⟨ad891, e891, hx891_0⟩ := Kd.at_int (by repeat (first | (with_reducible exact HR890_0.out) | (with_reducible refine Kd.C_alloc ?_ _) | (with_reducible refine Kd.C_drewN ?_ _) | (with_reducible refine Kd.C_drew ?_) | exact HR890_0.out)) (ji38) p891 q891
                                                                  cases e891
                                                                  replace p891 := eq_true p891
                                                                  replace q891 := eq_true q891
                                                                  have p892 : 0 ≤ ((ji31) : Int) := of_decide_eq_true (by first | (with_reducible assumption) | assumption)
                                                                  have q892 : (ji31) < (x6_3.length : Int) := of_decide_eq_true (by first | (with_reducible assumption) | assumption)
                                                                  obtain ⟨ad892, A892_0, c892_0, e892, hx892_0, hl892_0, hi892_0⟩ := at_L1 (Kd.S_reads' HO_6.out).2.2 (ji31) p892 q892
                                                                  obtain rfl : (⟨go22, 0, none⟩ : Addr) = ad892 := (by injection e892)
                                                                  obtain ⟨ce892, hce892, hMe892, hcc892⟩ := Kd.S_get HO_6.out [] (ji31) p892 (by first | exact q892 | exact of_decide_eq_true (by first | (with_reducible assumption) | assumption) | (have e_ := (Kd.S_reads' HO_6.out).1; omega))
                                                                  obtain ⟨ve892_0, rfl, ge892_0⟩ := hMe892
                                                                  have hv892_0 := hcc892 0 _ rfl
                                                                  rw [Nat.add_zero, show ((Kd.slice 2 (Kd.int .i64))).sz = 1 from rfl, Nat.mul_one] at hv892_0
                                                                  replace hv892_0 := Option.some.inj (hv892_0.symm.trans hx892_0)
                                                                  rw [hv892_0] at ge892_0
                                                                  have HL892_0 := Aside0.mk (show Kd.R (Kd.int .i64) 2 _ _ _ _ (rd_L1 x6_3 (ji31)) from ge892_0)
                                                                  clear hv892_0 ge892_0
                                                                  have HX892_0 := Aside0.mk hx892_0
                                                                  clear hcc892 hce892
                                                                  (first | simp only [add_plain] at hx892_0 | simp only [add_at] at hx892_0 | simp only [Addr.add, Nat.zero_add] at hx892_0 | skip)
                                                                  have HR892_0 := Aside0.mk hi892_0
                                                                  have HC892_0 := Aside0.mk hl892_0
                                                                  clear hi892_0 hl892_0
                                                                  replace p892 := eq_true p892
                                                                  replace q892 := eq_true q892
                                                                  have ea_ := Option.some.inj (hx888_0.symm.trans hx892_0)
                                                                  injection ea_ with ea_ en_ ec_
                                                                  subst ea_
                                                                  subst ec_
                                                                  clear en_
                                                                  have p893 : 0 ≤ ((ji38) : Int) := of_decide_eq_true (by first | (with_reducible assumption) | assumption)
                                                                  have q893 : (ji38) < ((rd_L1 x6_3 (ji31)).length : Int) := of_decide_eq_true (by first | (with_reducible assumption) | assumption)
                                                                  obtain ⟨ad893, e893, hx893_0⟩ := Kd.at_int (by repeat (first | (with_reducible exact HR892_0.out) | (with_reducible refine Kd.C_alloc ?_ _) | (with_reducible refine Kd.C_drewN ?_ _) | (with_reducible refine Kd.C_drew ?_) | exact HR892_0.out)) (ji38) p893 q893
                                                                  cases e893
                                                                  replace p893 := eq_true p893
                                                                  replace q893 := eq_true q893
                                                                  refine start_ (n := 27) (S := fun w' => w'.cell? ⟨go22, ((ji31)).toNat, none⟩ = some (.slice (some ad889) (rd_L1 x6_3 (ji31)).length c888_0) ∧ w'.cell? (ad889.add (x44_3).toNat) = some (.int .i64 (rd (rd_L1 x6_3 (ji31)) x44_3)) ∧ w'.cell? ⟨go22, (x33_2).toNat, none⟩ = some (.slice (some ad891) (rd_L1 x6_3 x33_2).length c890_0) ∧ w'.cell? (ad891.add ((ji38)).toNat) = some (.int .i64 (rd (rd_L1 x6_3 x33_2) (ji38))) ∧ w'.cell? ⟨go22, ((ji31)).toNat, none⟩ = some (.slice (some ad889) (rd_L1 x6_3 (ji31)).length c888_0) ∧ w'.cell? (ad889.add ((ji38)).toNat) = some (.int .i64 (rd (rd_L1 x6_3 (ji31)) (ji38)))) (ds := []) impl_WarpDistance.K0 (by kernel_rfl) rfl rfl ⟨hx888_0, hx889_0, hx890_0, hx891_0, hx892_0, hx893_0⟩ (fun hHeld => ?_); refine with_tabW impl_WarpDistance.tab15 impl_WarpDistance.bits15 (fun HT_ HW_ => ?_)
                                                                  generalize wc.drew = w49 at HO_6 HB HL888_0 HL890_0 HL892_0 HR888_0 HR890_0 HR892_0 HX888_0 HX890_0 HX892_0 hx888_0 hx889_0 hx890_0 hx891_0 hx892_0 hx893_0 hHeld ⊢
                                                                  refine pure_ (i := 0) (N := some 54) (v := ?_) (a' := ?_) impl_WarpDistance.K1 rfl rfl (any_of HT_.out (by kernel_rfl)) (fun _ _ _ h => h) (Or.inl ⟨by rfl, ?_⟩) ?_ ?_
                                                                  rotate_left
                                                                  · intro w'
                                                                    go_simp
                                                                    with_reducible rfl
                                                                  rotate_left
                                                                  · simp only [Act.put, List.setIfInBounds_toArray, List.set_cons_zero, List.set_cons_succ, i64_w, i32_w]
                                                                    rfl
                                                                  refine pure_ (i := 1) (N := some 55) (v := ?_) (a' := ?_) impl_WarpDistance.K2 rfl rfl (any_of HT_.out (by kernel_rfl)) (fun _ _ _ h => h) (Or.inl ⟨by rfl, ?_⟩) ?_ ?_
                                                                  rotate_left
                                                                  · intro w'
                                                                    go_simp
                                                                    with_reducible rfl
                                                                  rotate_left
                                                                  · simp only [Act.put, List.setIfInBounds_toArray, List.set_cons_zero, List.set_cons_succ, i64_w, i32_w]
                                                                    rfl
                                                                  refine pure_ (i := 2) (N := some 56) (v := ?_) (a' := ?_) impl_WarpDistance.K3 rfl rfl (any_of HT_.out (by kernel_rfl)) (fun _ _ _ h => h) (Or.inl ⟨by rfl, ?_⟩) ?_ ?_
                                                                  rotate_left
                                                                  · intro w'
                                                                    go_simp
                                                                    with_reducible rfl
                                                                  rotate_left
                                                                  · simp only [Act.put, List.setIfInBounds_toArray, List.set_cons_zero, List.set_cons_succ, i64_w, i32_w]
                                                                    rfl
                                                                  refine pure_ (i := 3) (N := some 57) (v := ?_) (a' := ?_) impl_WarpDistance.K4 rfl rfl (any_of HT_.out (by kernel_rfl)) (fun _ _ _ h => h) (Or.inl ⟨by rfl, ?_⟩) ?_ ?_
                                                                  rotate_left
                                                                  · intro w'
                                                                    go_simp
                                                                    with_reducible rfl
                                                                  rotate_left
                                                                  · simp only [Act.put, List.setIfInBounds_toArray, List.set_cons_zero, List.set_cons_succ, i64_w, i32_w]
                                                                    rfl
                                                                  refine pure_ (i := 5) (N := some 59) (v := ?_) (a' := ?_) impl_WarpDistance.K5 rfl rfl (any_of HT_.out (by kernel_rfl)) (fun _ _ _ h => h) (Or.inl ⟨by rfl, ?_⟩) ?_ ?_
                                                                  rotate_left
                                                                  · intro w'
                                                                    go_simp
                                                                    with_reducible rfl
                                                                  rotate_left
                                                                  · simp only [Act.put, List.setIfInBounds_toArray, List.set_cons_zero, List.set_cons_succ, i64_w, i32_w]
                                                                    rfl
                                                                  refine pure_ (i := 8) (N := some 62) (v := ?_) (a' := ?_) impl_WarpDistance.K6 rfl rfl (any_of HT_.out (by kernel_rfl)) (fun _ _ _ h => h) (Or.inl ⟨by rfl, ?_⟩) ?_ ?_
                                                                  rotate_left
                                                                  · intro w'
                                                                    go_simp
                                                                    with_reducible rfl
                                                                  rotate_left
                                                                  · simp only [Act.put, List.setIfInBounds_toArray, List.set_cons_zero, List.set_cons_succ, i64_w, i32_w]
                                                                    rfl
                                                                  refine pure_ (i := 9) (N := some 63) (v := ?_) (a' := ?_) impl_WarpDistance.K7 rfl rfl (any_of HT_.out (by kernel_rfl)) (fun _ _ _ h => h) (Or.inl ⟨by rfl, ?_⟩) ?_ ?_
                                                                  rotate_left
                                                                  · intro w'
                                                                    go_simp
                                                                    with_reducible rfl
                                                                  rotate_left
                                                                  · simp only [Act.put, List.setIfInBounds_toArray, List.set_cons_zero, List.set_cons_succ, i64_w, i32_w]
                                                                    rfl
                                                                  refine pure_ (i := 10) (N := some 64) (v := ?_) (a' := ?_) impl_WarpDistance.K8 rfl rfl (any_of HT_.out (by kernel_rfl)) (fun _ _ _ h => h) (Or.inl ⟨by rfl, ?_⟩) ?_ ?_
                                                                  rotate_left
                                                                  · intro w'
                                                                    go_simp
                                                                    with_reducible rfl
                                                                  rotate_left
                                                                  · simp only [Act.put, List.setIfInBounds_toArray, List.set_cons_zero, List.set_cons_succ, i64_w, i32_w]
                                                                    rfl
                                                                  refine pure_ (i := 12) (N := some 66) (v := ?_) (a' := ?_) impl_WarpDistance.K9 rfl rfl (any_of HT_.out (by kernel_rfl)) (fun _ _ _ h => h) (Or.inl ⟨by rfl, ?_⟩) ?_ ?_
                                                                  rotate_left
                                                                  · intro w'
                                                                    go_simp
                                                                    with_reducible rfl
                                                                  rotate_left
                                                                  · simp only [Act.put, List.setIfInBounds_toArray, List.set_cons_zero, List.set_cons_succ, i64_w, i32_w]
                                                                    rfl
                                                                  refine pure_ (i := 13) (N := some 67) (v := ?_) (a' := ?_) impl_WarpDistance.K10 rfl rfl (any_of HT_.out (by kernel_rfl)) (fun _ _ _ h => h) (Or.inl ⟨by rfl, ?_⟩) ?_ ?_
                                                                  rotate_left
                                                                  · intro w'
                                                                    go_simp
                                                                    with_reducible rfl
                                                                  rotate_left
                                                                  · simp only [Act.put, List.setIfInBounds_toArray, List.set_cons_zero, List.set_cons_succ, i64_w, i32_w]
                                                                    rfl
                                                                  refine pure_ (i := 16) (N := some 70) (v := ?_) (a' := ?_) impl_WarpDistance.K11 rfl rfl (any_of HT_.out (by kernel_rfl)) (fun _ _ _ h => h) (Or.inl ⟨by rfl, ?_⟩) ?_ ?_
                                                                  rotate_left
                                                                  · intro w'
                                                                    go_simp
                                                                    with_reducible rfl
                                                                  rotate_left
                                                                  · simp only [Act.put, List.setIfInBounds_toArray, List.set_cons_zero, List.set_cons_succ, i64_w, i32_w]
                                                                    rfl
                                                                  refine pure_ (i := 17) (N := some 71) (v := ?_) (a' := ?_) impl_WarpDistance.K12 rfl rfl (any_of HT_.out (by kernel_rfl)) (fun _ _ _ h => h) (Or.inl ⟨by rfl, ?_⟩) ?_ ?_
                                                                  rotate_left
                                                                  · intro w'
                                                                    go_simp
                                                                    with_reducible rfl
                                                                  rotate_left
                                                                  · simp only [Act.put, List.setIfInBounds_toArray, List.set_cons_zero, List.set_cons_succ, i64_w, i32_w]
                                                                    rfl
                                                                  refine pure_ (i := 18) (N := some 72) (v := ?_) (a' := ?_) impl_WarpDistance.K13 rfl rfl (any_of HT_.out (by kernel_rfl)) (fun _ _ _ h => h) (Or.inl ⟨by rfl, ?_⟩) ?_ ?_
                                                                  rotate_left
                                                                  · intro w'
                                                                    go_simp
                                                                    with_reducible rfl
                                                                  rotate_left
                                                                  · simp only [Act.put, List.setIfInBounds_toArray, List.set_cons_zero, List.set_cons_succ, i64_w, i32_w]
                                                                    rfl
                                                                  refine pure_ (i := 19) (N := some 73) (v := ?_) (a' := ?_) impl_WarpDistance.K14 rfl rfl (any_of HT_.out (by kernel_rfl)) (fun _ _ _ h => h) (Or.inl ⟨by rfl, ?_⟩) ?_ ?_
                                                                  rotate_left
                                                                  · intro w'
                                                                    go_simp
                                                                    with_reducible rfl
                                                                  rotate_left
                                                                  · simp only [Act.put, List.setIfInBounds_toArray, List.set_cons_zero, List.set_cons_succ, i64_w, i32_w]
                                                                    rfl
                                                                  refine pure_ (i := 21) (N := some 75) (v := ?_) (a' := ?_) impl_WarpDistance.K15 rfl rfl (any_of HT_.out (by kernel_rfl)) (fun _ _ _ h => h) (Or.inl ⟨by rfl, ?_⟩) ?_ ?_
                                                                  rotate_left
                                                                  · intro w'
                                                                    go_simp
                                                                    with_reducible rfl
                                                                  rotate_left
                                                                  · simp only [Act.put, List.setIfInBounds_toArray, List.set_cons_zero, List.set_cons_succ, i64_w, i32_w]
                                                                    rfl
                                                                  refine pure_ (i := 22) (N := some 76) (v := ?_) (a' := ?_) impl_WarpDistance.K16 rfl rfl (any_of HT_.out (by kernel_rfl)) (fun _ _ _ h => h) (Or.inl ⟨by rfl, ?_⟩) ?_ ?_
                                                                  rotate_left
                                                                  · intro w'
                                                                    go_simp
                                                                    with_reducible rfl
                                                                  rotate_left
                                                                  · simp only [Act.put, List.setIfInBounds_toArray, List.set_cons_zero, List.set_cons_succ, i64_w, i32_w]
                                                                    rfl
                                                                  refine take_ (i := 4) (N := some 58) (v := ?_) (a' := ?_) impl_WarpDistance.K17 rfl rfl (take_ofW HT_.out HW_.out (by kernel_rfl)) (fun _ _ _ h => h) (Or.inl ⟨by rfl, ?_⟩) hHeld ?_ ?_
                                                                  rotate_left
                                                                  · rintro w' ⟨s0, s1, s2, s3, s4, s5⟩
                                                                    go_simp
                                                                    with_reducible rfl
                                                                  rotate_left
                                                                  · simp only [Act.put, List.setIfInBounds_toArray, List.set_cons_zero, List.set_cons_succ, i64_w, i32_w]
                                                                    rfl
                                                                  refine pure_ (i := 6) (N := some 60) (v := ?_) (a' := ?_) impl_WarpDistance.K18 rfl rfl (any_of HT_.out (by kernel_rfl)) (fun _ _ _ h => h) (Or.inl ⟨by rfl, ?_⟩) ?_ ?_
                                                                  rotate_left
                                                                  · intro w'
                                                                    go_simp
                                                                    with_reducible rfl
                                                                  rotate_left
                                                                  · simp only [Act.put, List.setIfInBounds_toArray, List.set_cons_zero, List.set_cons_succ, i64_w, i32_w]
                                                                    rfl
                                                                  refine take_ (i := 7) (N := some 61) (v := ?_) (a' := ?_) impl_WarpDistance.K19 rfl rfl (take_ofW HT_.out HW_.out (by kernel_rfl)) (fun _ _ _ h => h) (Or.inl ⟨by rfl, ?_⟩) hHeld ?_ ?_
                                                                  rotate_left
                                                                  · rintro w' ⟨s0, s1, s2, s3, s4, s5⟩
                                                                    go_simp
                                                                    with_reducible rfl
                                                                  rotate_left
                                                                  · simp only [Act.put, List.setIfInBounds_toArray, List.set_cons_zero, List.set_cons_succ, i64_w, i32_w]
                                                                    rfl
                                                                  refine take_ (i := 11) (N := some 65) (v := ?_) (a' := ?_) impl_WarpDistance.K20 rfl rfl (take_ofW HT_.out HW_.out (by kernel_rfl)) (fun _ _ _ h => h) (Or.inl ⟨by rfl, ?_⟩) hHeld ?_ ?_
                                                                  rotate_left
                                                                  · rintro w' ⟨s0, s1, s2, s3, s4, s5⟩
                                                                    go_simp
                                                                    with_reducible rfl
                                                                  rotate_left
                                                                  · simp only [Act.put, List.setIfInBounds_toArray, List.set_cons_zero, List.set_cons_succ, i64_w, i32_w]
                                                                    rfl
                                                                  refine pure_ (i := 14) (N := some 68) (v := ?_) (a' := ?_) impl_WarpDistance.K21 rfl rfl (any_of HT_.out (by kernel_rfl)) (fun _ _ _ h => h) (Or.inl ⟨by rfl, ?_⟩) ?_ ?_
                                                                  rotate_left
                                                                  · intro w'
                                                                    go_simp
                                                                    with_reducible rfl
                                                                  rotate_left
                                                                  · simp only [Act.put, List.setIfInBounds_toArray, List.set_cons_zero, List.set_cons_succ, i64_w, i32_w]
                                                                    rfl
                                                                  refine take_ (i := 15) (N := some 69) (v := ?_) (a' := ?_) impl_WarpDistance.K22 rfl rfl (take_ofW HT_.out HW_.out (by kernel_rfl)) (fun _ _ _ h => h) (Or.inl ⟨by rfl, ?_⟩) hHeld ?_ ?_
                                                                  rotate_left
                                                                  · rintro w' ⟨s0, s1, s2, s3, s4, s5⟩
                                                                    go_simp
                                                                    with_reducible rfl
                                                                  rotate_left
                                                                  · simp only [Act.put, List.setIfInBounds_toArray, List.set_cons_zero, List.set_cons_succ, i64_w, i32_w]
                                                                    rfl
                                                                  refine take_ (i := 20) (N := some 74) (v := ?_) (a' := ?_) impl_WarpDistance.K23 rfl rfl (take_ofW HT_.out HW_.out (by kernel_rfl)) (fun _ _ _ h => h) (Or.inl ⟨by rfl, ?_⟩) hHeld ?_ ?_
                                                                  rotate_left
                                                                  · rintro w' ⟨s0, s1, s2, s3, s4, s5⟩
                                                                    go_simp
                                                                    with_reducible rfl
                                                                  rotate_left
                                                                  · simp only [Act.put, List.setIfInBounds_toArray, List.set_cons_zero, List.set_cons_succ, i64_w, i32_w]
                                                                    rfl
                                                                  refine pure_ (i := 23) (N := some 77) (v := ?_) (a' := ?_) impl_WarpDistance.K24 rfl rfl (any_of HT_.out (by kernel_rfl)) (fun _ _ _ h => h) (Or.inl ⟨by rfl, ?_⟩) ?_ ?_
                                                                  rotate_left
                                                                  · intro w'
                                                                    go_simp
                                                                    with_reducible rfl
                                                                  rotate_left
                                                                  · simp only [Act.put, List.setIfInBounds_toArray, List.set_cons_zero, List.set_cons_succ, i64_w, i32_w]
                                                                    rfl
                                                                  refine take_ (i := 24) (N := some 78) (v := ?_) (a' := ?_) impl_WarpDistance.K25 rfl rfl (take_ofW HT_.out HW_.out (by kernel_rfl)) (fun _ _ _ h => h) (Or.inl ⟨by rfl, ?_⟩) hHeld ?_ ?_
                                                                  rotate_left
                                                                  · rintro w' ⟨s0, s1, s2, s3, s4, s5⟩
                                                                    go_simp
                                                                    with_reducible rfl
                                                                  rotate_left
                                                                  · simp only [Act.put, List.setIfInBounds_toArray, List.set_cons_zero, List.set_cons_succ, i64_w, i32_w]
                                                                    rfl
                                                                  refine pure_ (i := 25) (N := some 79) (v := ?_) (a' := ?_) impl_WarpDistance.K26 rfl rfl (any_of HT_.out (by kernel_rfl)) (fun _ _ _ h => h) (Or.inl ⟨by rfl, ?_⟩) ?_ ?_
                                                                  rotate_left
                                                                  · intro w'
                                                                    go_simp
                                                                    with_reducible rfl
                                                                  rotate_left
                                                                  · simp only [Act.put, List.setIfInBounds_toArray, List.set_cons_zero, List.set_cons_succ, i64_w, i32_w]
                                                                    rfl
                                                                  refine pure_ (i := 26) (N := some 9) (v := ?_) (a' := ?_) impl_WarpDistance.K27 rfl rfl (any_of HT_.out (by kernel_rfl)) (fun _ _ _ h => h) (Or.inl ⟨by rfl, ?_⟩) ?_ ?_
                                                                  rotate_left
                                                                  · intro w'
                                                                    go_simp
                                                                    with_reducible rfl
                                                                  rotate_left
                                                                  · simp only [Act.put, List.setIfInBounds_toArray, List.set_cons_zero, List.set_cons_succ, i64_w, i32_w]
                                                                    rfl
                                                                  refine done_ (done_of HT_.out (by kernel_rfl)) ?_
                                                                  try go_wp2
                                                                  have n0_ := Aside0.mk (Kd.S_drew HO_6.out)
                                                                  have n1_ := Aside0.mk (Kd.R_drew HL888_0.out)
                                                                  have n2_ := Aside0.mk (Kd.R_drew HL890_0.out)
                                                                  have n3_ := Aside0.mk (Kd.R_drew HL892_0.out)
                                                                  have n4_ := Aside0.mk (Kd.C_drew HR888_0.out)
                                                                  have n5_ := Aside0.mk (Kd.C_drew HR890_0.out)
                                                                  have n6_ := Aside0.mk (Kd.C_drew HR892_0.out)
                                                                  have n7_ := Aside0.mk (below_drew1 HB.out)
                                                                  clear HO_6
                                                                  clear HL888_0
                                                                  clear HL890_0
                                                                  clear HL892_0
                                                                  clear HR888_0
                                                                  clear HR890_0
                                                                  clear HR892_0
                                                                  clear HB
                                                                  have HO_6 := n0_
                                                                  have HL888_0 := n1_
                                                                  have HL890_0 := n2_
                                                                  have HL892_0 := n3_
                                                                  have HR888_0 := n4_
                                                                  have HR890_0 := n5_
                                                                  have HR892_0 := n6_
                                                                  have HB := n7_
                                                                  clear n0_ n1_ n2_ n3_ n4_ n5_ n6_ n7_
                                                                  have p894 : 0 ≤ (x33_2 : Int) := of_decide_eq_true (by first | (with_reducible assumption) | assumption)
                                                                  have q894 : x33_2 < (x6_3.length : Int) := of_decide_eq_true (by first | (with_reducible assumption) | assumption)
                                                                  obtain ⟨ad894, A894_0, c894_0, e894, hx894_0, hl894_0, hi894_0⟩ := at_L1 (Kd.S_reads' HO_6.out).2.2 x33_2 p894 q894
                                                                  obtain rfl : (⟨go22, 0, none⟩ : Addr) = ad894 := (by injection e894)
                                                                  obtain ⟨ce894, hce894, hMe894, hcc894⟩ := Kd.S_get HO_6.out [] x33_2 p894 (by first | exact q894 | exact of_decide_eq_true (by first | (with_reducible assumption) | assumption) | (have e_ := (Kd.S_reads' HO_6.out).1; omega))
                                                                  obtain ⟨ve894_0, rfl, ge894_0⟩ := hMe894
                                                                  have hv894_0 := hcc894 0 _ rfl
                                                                  rw [Nat.add_zero, show ((Kd.slice 2 (Kd.int .i64))).sz = 1 from rfl, Nat.mul_one] at hv894_0
                                                                  replace hv894_0 := Option.some.inj (hv894_0.symm.trans hx894_0)
                                                                  rw [hv894_0] at ge894_0
                                                                  have HL894_0 := Aside0.mk (show Kd.R (Kd.int .i64) 2 _ _ _ _ (rd_L1 x6_3 x33_2) from ge894_0)
                                                                  clear hv894_0 ge894_0
                                                                  have HX894_0 := Aside0.mk hx894_0
                                                                  clear hcc894 hce894
                                                                  (first | simp only [add_plain] at hx894_0 | simp only [add_at] at hx894_0 | simp only [Addr.add, Nat.zero_add] at hx894_0 | skip)
                                                                  have HR894_0 := Aside0.mk hi894_0
                                                                  have HC894_0 := Aside0.mk hl894_0
                                                                  clear hi894_0 hl894_0
                                                                  replace p894 := eq_true p894
                                                                  replace q894 := eq_true q894
                                                                  have p895 : 0 ≤ (x33_2 : Int) := of_decide_eq_true (by first | (with_reducible assumption) | assumption)
                                                                  have q895 : x33_2 < (l0.length : Int) := of_decide_eq_true (by first | (with_reducible assumption) | assumption)
                                                                  obtain ⟨ad895, e895, hx895_0⟩ := Kd.at_int HR0.out x33_2 p895 q895
                                                                  have hw895_0 := hx895_0
                                                                  cases e895
                                                                  replace hx895_0 := (HB.out.cell (World.block_lt_of_cell? w _ hx895_0)).trans hx895_0
                                                                  replace p895 := eq_true p895
                                                                  replace q895 := eq_true q895
                                                                  have p896 : 0 ≤ (x44_3 : Int) := of_decide_eq_true (by first | (with_reducible assumption) | assumption)
                                                                  have q896 : x44_3 < (l1.length : Int) := of_decide_eq_true (by first | (with_reducible assumption) | assumption)
                                                                  obtain ⟨ad896, e896, hx896_0⟩ := Kd.at_int HR1.out x44_3 p896 q896
                                                                  have hw896_0 := hx896_0
                                                                  cases e896
                                                                  replace hx896_0 := (HB.out.cell (World.block_lt_of_cell? w _ hx896_0)).trans hx896_0
                                                                  replace p896 := eq_true p896
                                                                  replace q896 := eq_true q896
                                                                  refine start_ (n := 19) (S := fun w' => w'.cell? ⟨go22, (x33_2).toNat, none⟩ = some (.slice A894_0 (rd_L1 x6_3 x33_2).length c894_0) ∧ w'.cell? (ad895.add (x33_2).toNat) = some (.int .i64 (rd l0 x33_2)) ∧ w'.cell? (ad896.add (x44_3).toNat) = some (.int .i64 (rd l1 x44_3))) (ds := [18]) impl_WarpDistance.K28 (by kernel_rfl) rfl rfl ⟨hx894_0, ((HB.out.cell (World.block_lt_of_cell? w _ hw895_0)).trans hw895_0), ((HB.out.cell (World.block_lt_of_cell? w _ hw896_0)).trans hw896_0)⟩ (fun hHeld => ?_); refine with_tabW impl_WarpDistance.tab20 impl_WarpDistance.bits20 (fun HT_ HW_ => ?_)
                                                                  generalize w49.drew = w50 at HO_6 HL888_0 HL890_0 HL892_0 HR888_0 HR890_0 HR892_0 HB HL894_0 HR894_0 HX894_0 hx894_0 hx895_0 hx896_0 hHeld ⊢
                                                                  refine pure_ (i := 0) (N := some 102) (v := ?_) (a' := ?_) impl_WarpDistance.K29 rfl rfl (any_of HT_.out (by kernel_rfl)) (fun _ _ _ h => h) (Or.inl ⟨by rfl, ?_⟩) ?_ ?_
                                                                  rotate_left
                                                                  · intro w'
                                                                    go_simp
                                                                    with_reducible rfl
                                                                  rotate_left
                                                                  · simp only [Act.put, List.setIfInBounds_toArray, List.set_cons_zero, List.set_cons_succ, i64_w, i32_w]
                                                                    rfl
                                                                  refine pure_ (i := 1) (N := some 103) (v := ?_) (a' := ?_) impl_WarpDistance.K30 rfl rfl (any_of HT_.out (by kernel_rfl)) (fun _ _ _ h => h) (Or.inl ⟨by rfl, ?_⟩) ?_ ?_
                                                                  rotate_left
                                                                  · intro w'
                                                                    go_simp
                                                                    with_reducible rfl
                                                                  rotate_left
                                                                  · simp only [Act.put, List.setIfInBounds_toArray, List.set_cons_zero, List.set_cons_succ, i64_w, i32_w]
                                                                    rfl
                                                                  refine pure_ (i := 2) (N := some 104) (v := ?_) (a' := ?_) impl_WarpDistance.K31 rfl rfl (any_of HT_.out (by kernel_rfl)) (fun _ _ _ h => h) (Or.inl ⟨by rfl, ?_⟩) ?_ ?_
                                                                  rotate_left
                                                                  · intro w'
                                                                    go_simp
                                                                    with_reducible rfl
                                                                  rotate_left
                                                                  · simp only [Act.put, List.setIfInBounds_toArray, List.set_cons_zero, List.set_cons_succ, i64_w, i32_w]
                                                                    rfl
                                                                  refine pure_ (i := 4) (N := some 106) (v := ?_) (a' := ?_) impl_WarpDistance.K32 rfl rfl (any_of HT_.out (by kernel_rfl)) (fun _ _ _ h => h) (Or.inl ⟨by rfl, ?_⟩) ?_ ?_
                                                                  rotate_left
                                                                  · intro w'
                                                                    go_simp
                                                                    with_reducible rfl
                                                                  rotate_left
                                                                  · simp only [Act.put, List.setIfInBounds_toArray, List.set_cons_zero, List.set_cons_succ, i64_w, i32_w]
                                                                    rfl
                                                                  refine pure_ (i := 5) (N := some 107) (v := ?_) (a' := ?_) impl_WarpDistance.K33 rfl rfl (any_of HT_.out (by kernel_rfl)) (fun _ _ _ h => h) (Or.inl ⟨by rfl, ?_⟩) ?_ ?_
                                                                  rotate_left
                                                                  · intro w'
                                                                    go_simp
                                                                    with_reducible rfl
                                                                  rotate_left
                                                                  · simp only [Act.put, List.setIfInBounds_toArray, List.set_cons_zero, List.set_cons_succ, i64_w, i32_w]
                                                                    rfl
                                                                  refine pure_ (i := 6) (N := some 108) (v := ?_) (a' := ?_) impl_WarpDistance.K34 rfl rfl (any_of HT_.out (by kernel_rfl)) (fun _ _ _ h => h) (Or.inl ⟨by rfl, ?_⟩) ?_ ?_
                                                                  rotate_left
                                                                  · intro w'
                                                                    go_simp
                                                                    with_reducible rfl
                                                                  rotate_left
                                                                  · simp only [Act.put, List.setIfInBounds_toArray, List.set_cons_zero, List.set_cons_succ, i64_w, i32_w]
                                                                    rfl
                                                                  refine pure_ (i := 7) (N := some 109) (v := ?_) (a' := ?_) impl_WarpDistance.K35 rfl rfl (any_of HT_.out (by kernel_rfl)) (fun _ _ _ h => h) (Or.inl ⟨by rfl, ?_⟩) ?_ ?_
                                                                  rotate_left
                                                                  · intro w'
                                                                    go_simp
                                                                    with_reducible rfl
                                                                  rotate_left
                                                                  · simp only [Act.put, List.setIfInBounds_toArray, List.set_cons_zero, List.set_cons_succ, i64_w, i32_w]
                                                                    rfl
                                                                  refine pure_ (i := 8) (N := some 110) (v := ?_) (a' := ?_) impl_WarpDistance.K36 rfl rfl (any_of HT_.out (by kernel_rfl)) (fun _ _ _ h => h) (Or.inl ⟨by rfl, ?_⟩) ?_ ?_
                                                                  rotate_left
                                                                  · intro w'
                                                                    go_simp
                                                                    with_reducible rfl
                                                                  rotate_left
                                                                  · simp only [Act.put, List.setIfInBounds_toArray, List.set_cons_zero, List.set_cons_succ, i64_w, i32_w]
                                                                    rfl
                                                                  refine pure_ (i := 10) (N := some 112) (v := ?_) (a' := ?_) impl_WarpDistance.K37 rfl rfl (any_of HT_.out (by kernel_rfl)) (fun _ _ _ h => h) (Or.inl ⟨by rfl, ?_⟩) ?_ ?_
                                                                  rotate_left
                                                                  · intro w'
                                                                    go_simp
                                                                    with_reducible rfl
                                                                  rotate_left
                                                                  · simp only [Act.put, List.setIfInBounds_toArray, List.set_cons_zero, List.set_cons_succ, i64_w, i32_w]
                                                                    rfl
                                                                  refine pure_ (i := 11) (N := some 113) (v := ?_) (a' := ?_) impl_WarpDistance.K38 rfl rfl (any_of HT_.out (by kernel_rfl)) (fun _ _ _ h => h) (Or.inl ⟨by rfl, ?_⟩) ?_ ?_
                                                                  rotate_left
                                                                  · intro w'
                                                                    go_simp
                                                                    with_reducible rfl
                                                                  rotate_left
                                                                  · simp only [Act.put, List.setIfInBounds_toArray, List.set_cons_zero, List.set_cons_succ, i64_w, i32_w]
                                                                    rfl
                                                                  refine pure_ (i := 12) (N := some 114) (v := ?_) (a' := ?_) impl_WarpDistance.K39 rfl rfl (any_of HT_.out (by kernel_rfl)) (fun _ _ _ h => h) (Or.inl ⟨by rfl, ?_⟩) ?_ ?_
                                                                  rotate_left
                                                                  · intro w'
                                                                    go_simp
                                                                    with_reducible rfl
                                                                  rotate_left
                                                                  · simp only [Act.put, List.setIfInBounds_toArray, List.set_cons_zero, List.set_cons_succ, i64_w, i32_w]
                                                                    rfl
                                                                  refine take_ (i := 3) (N := some 105) (v := ?_) (a' := ?_) impl_WarpDistance.K40 rfl rfl (take_ofW HT_.out HW_.out (by kernel_rfl)) (fun _ _ _ h => h) (Or.inl ⟨by rfl, ?_⟩) hHeld ?_ ?_
                                                                  rotate_left
                                                                  · rintro w' ⟨s0, s1, s2⟩
                                                                    go_simp
                                                                    with_reducible rfl
                                                                  rotate_left
                                                                  · simp only [Act.put, List.setIfInBounds_toArray, List.set_cons_zero, List.set_cons_succ, i64_w, i32_w]
                                                                    rfl
                                                                  refine take_ (i := 9) (N := some 111) (v := ?_) (a' := ?_) impl_WarpDistance.K41 rfl rfl (take_ofW HT_.out HW_.out (by kernel_rfl)) (fun _ _ _ h => h) (Or.inl ⟨by rfl, ?_⟩) hHeld ?_ ?_
                                                                  rotate_left
                                                                  · rintro w' ⟨s0, s1, s2⟩
                                                                    go_simp
                                                                    with_reducible rfl
                                                                  rotate_left
                                                                  · simp only [Act.put, List.setIfInBounds_toArray, List.set_cons_zero, List.set_cons_succ, i64_w, i32_w]
                                                                    rfl
                                                                  refine take_ (i := 13) (N := some 115) (v := ?_) (a' := ?_) impl_WarpDistance.K42 rfl rfl (take_ofW HT_.out HW_.out (by kernel_rfl)) (fun _ _ _ h => h) (Or.inl ⟨by rfl, ?_⟩) hHeld ?_ ?_
                                                                  rotate_left
                                                                  · rintro w' ⟨s0, s1, s2⟩
                                                                    go_simp
                                                                    with_reducible rfl
                                                                  rotate_left
                                                                  · simp only [Act.put, List.setIfInBounds_toArray, List.set_cons_zero, List.set_cons_succ, i64_w, i32_w]
                                                                    rfl
                                                                  refine pure_ (i := 14) (N := some 116) (v := ?_) (a' := ?_) impl_WarpDistance.K43 rfl rfl (any_of HT_.out (by kernel_rfl)) (fun _ _ _ h => h) (Or.inl ⟨by rfl, ?_⟩) ?_ ?_
                                                                  rotate_left
                                                                  · intro w'
                                                                    go_simp
                                                                    with_reducible rfl
                                                                  rotate_left
                                                                  · simp only [Act.put, List.setIfInBounds_toArray, List.set_cons_zero, List.set_cons_succ, i64_w, i32_w]
                                                                    rfl
                                                                  refine one_ (i := 15) (N := some 117) impl_WarpDistance.K44 rfl rfl (one_of HT_.out (by kernel_rfl)) (by decide) (fun K hK => ?_)
                                                                  refine goes_ Try.func74 (by kernel_rfl) rfl #[.int .i64 (wrap64 ((rd l0 x33_2) - (rd l1 x44_3)))] (by rfl) rfl rfl (by (try simp only [List.map_toArray, List.map_cons, List.map_nil]); first | done | rfl | (simp only [List.length_drop, List.length_take]; rfl)) ?_
                                                                  with_reducible refine (impl_abs.calls (wrap64 ((rd l0 x33_2) - (rd l1 x44_3))) t897 _ A46.out).mono ?_
                                                                  rintro e w51 ⟨rfl, hb⟩
                                                                  have HS0_ := (hb.cell (World.block_lt_of_cell? _ _ (hHeld.1))).trans (hHeld.1)
                                                                  refine ⟨_, rfl, ?_⟩
                                                                  have n0_ := Aside0.mk (Kd.S_below (by (with_reducible repeat (first | apply Kd.S_alloc | apply Kd.S_drewN | apply Kd.S_drew)); exact HO_6.out) hb)
                                                                  have n1_ := Aside0.mk (Kd.R_below (by (with_reducible repeat (first | apply Kd.R_alloc | apply Kd.R_drewN | apply Kd.R_drew)); exact HL888_0.out) hb)
                                                                  have n2_ := Aside0.mk (Kd.R_below (by (with_reducible repeat (first | apply Kd.R_alloc | apply Kd.R_drewN | apply Kd.R_drew)); exact HL890_0.out) hb)
                                                                  have n3_ := Aside0.mk (Kd.R_below (by (with_reducible repeat (first | apply Kd.R_alloc | apply Kd.R_drewN | apply Kd.R_drew)); exact HL892_0.out) hb)
                                                                  have n4_ := Aside0.mk (Kd.R_below (by (with_reducible repeat (first | apply Kd.R_alloc | apply Kd.R_drewN | apply Kd.R_drew)); exact HL894_0.out) hb)
                                                                  have n5_ := Aside0.mk (Kd.C_below (by repeat (first | (with_reducible exact HR888_0.out) | (with_reducible refine Kd.C_alloc ?_ _) | (with_reducible refine Kd.C_drewN ?_ _) | (with_reducible refine Kd.C_drew ?_) | exact HR888_0.out)) hb)
                                                                  have n6_ := Aside0.mk (Kd.C_below (by repeat (first | (with_reducible exact HR890_0.out) | (with_reducible refine Kd.C_alloc ?_ _) | (with_reducible refine Kd.C_drewN ?_ _) | (with_reducible refine Kd.C_drew ?_) | exact HR890_0.out)) hb)
                                                                  have n7_ := Aside0.mk (Kd.C_below (by repeat (first | (with_reducible exact HR892_0.out) | (with_reducible refine Kd.C_alloc ?_ _) | (with_reducible refine Kd.C_drewN ?_ _) | (with_reducible refine Kd.C_drew ?_) | exact HR892_0.out)) hb)
                                                                  have n8_ := Aside0.mk (Kd.C_below (by repeat (first | (with_reducible exact HR894_0.out) | (with_reducible refine Kd.C_alloc ?_ _) | (with_reducible refine Kd.C_drewN ?_ _) | (with_reducible refine Kd.C_drew ?_) | exact HR894_0.out)) hb)
                                                                  have n9_ := Aside0.mk (pw_cell_below hb HX894_0.out)
                                                                  have n10_ := Aside0.mk (below_step (by repeat (first | (with_reducible first | exact HB.out | apply below_alloc | apply pw_below_drewN | apply below_drew1) | exact HB.out)) hb)
                                                                  clear HO_6
                                                                  clear HL888_0
                                                                  clear HL890_0
                                                                  clear HL892_0
                                                                  clear HL894_0
                                                                  clear HR888_0
                                                                  clear HR890_0
                                                                  clear HR892_0
                                                                  clear HR894_0
                                                                  clear HX894_0
                                                                  clear HB
                                                                  have HO_6 := n0_
                                                                  have HL888_0 := n1_
                                                                  have HL890_0 := n2_
                                                                  have HL892_0 := n3_
                                                                  have HL894_0 := n4_
                                                                  have HR888_0 := n5_
                                                                  have HR890_0 := n6_
                                                                  have HR892_0 := n7_
                                                                  have HR894_0 := n8_
                                                                  have HX894_0 := n9_
                                                                  have HB := n10_
                                                                  clear n0_ n1_ n2_ n3_ n4_ n5_ n6_ n7_ n8_ n9_ n10_
                                                                  (try clear hb)
                                                                  (try clear hb2)
                                                                  (try clear hk)
                                                                  (try clear hi)
                                                                  have p48 : 0 ≤ (x44_3 : Int) := of_decide_eq_true (by first | (with_reducible assumption) | assumption)
                                                                  have q48 : (x44_3 : Int) < (((rd_L1 x6_3 x33_2).length : Int) : Int) := of_decide_eq_true (by first | (with_reducible assumption) | assumption)
                                                                  obtain ⟨go48, co48, eo48, gb48, gl48, cl48, HG48⟩ := Kd.R_form HL894_0.out (by omega)
                                                                  (first | cases eo48 | (injection eo48 with ea_ en_ ec_; (first | subst ea_ | (injection ea_ with ea_; subst ea_)); subst ec_; clear en_))
                                                                  have GB48 := Aside0.mk gb48
                                                                  have GG48 := Aside0.mk HG48
                                                                  clear gb48 gl48 HG48
                                                                  obtain ⟨hx48_0, hf48_0⟩ := Kd.R_celln 0 HL894_0.out (x44_3 : Int) p48 q48
                                                                  replace p48 := eq_true p48
                                                                  replace q48 := eq_true q48
                                                                  have hq52 : (x33_2 : Int) < (x6_3.length : Int) := (by have h_ : (x33_2 : Int) < ((x6_3.length : Int) : Int) := of_decide_eq_true (by first | (with_reducible assumption) | assumption); first | exact h_ | (have e_ := (Kd.S_reads' HO_6.out).1; omega) | simpa only [List.length_set, List.length_set] using h_)
                                                                  obtain ⟨oki52, ce52, hcl52, hM52, hcc52, hok52, hbk52⟩ := Kd.S_borrow HO_6.out [] (x33_2 : Int) (of_decide_eq_true (by first | (with_reducible assumption) | assumption)) hq52
                                                                  obtain ⟨ve52_0, rfl, ge52_0⟩ := hM52
                                                                  have hv52 := hcc52 0 _ rfl
                                                                  rw [Nat.add_zero, show ((Kd.slice 2 (Kd.int .i64))).sz = 1 from rfl, Nat.mul_one] at hv52
                                                                  replace hv52 := Option.some.inj (hv52.symm.trans HX894_0.out)
                                                                  subst hv52
                                                                  clear hcc52 hcl52
                                                                  replace ge52_0 := (show Kd.R (Kd.int .i64) 2 _ _ _ _ (rd_L1 x6_3 x33_2) from ge52_0)
                                                                  have HP52 := Kd.R_putg ge52_0 (x44_3 : Int) (wrap64 ((ji43) + t897))
                                                                  rw [← Ny898.out] at HP52
                                                                  have HS52 := hbk52 HP52.2 (fun k_ e_ => by injection e_ with e_; subst e_; exact ge52_0.1 _ rfl) (x' := y898) (Kd.M_row HP52.1)
                                                                  rw [← Ny900.out] at HS52
                                                                  have HQ52 := Aside0.mk HS52
                                                                  clear HP52 HS52 hbk52 hok52
                                                                  refine hK.out _ _ ⟨HS0_, ((HB.out.cell (World.block_lt_of_cell? w _ hw895_0)).trans hw895_0), ((HB.out.cell (World.block_lt_of_cell? w _ hw896_0)).trans hw896_0)⟩ (fun hHeld => ?_)
                                                                  clear hK K
                                                                  refine norm_ (a' := ?_) ?_ ?_
                                                                  rotate_left
                                                                  · show Act.put _ (some 117) _ = _
                                                                    simp only [Act.put, List.setIfInBounds_toArray, List.set_cons_zero, List.set_cons_succ, i64_w, i32_w]
                                                                    rfl
                                                                  refine pure_ (i := 16) (N := some 118) (v := ?_) (a' := ?_) impl_WarpDistance.K45 rfl rfl (any_of HT_.out (by kernel_rfl)) (fun _ _ _ h => h) (Or.inl ⟨by rfl, ?_⟩) ?_ ?_
                                                                  rotate_left
                                                                  · intro w'
                                                                    go_simp
                                                                    with_reducible rfl
                                                                  rotate_left
                                                                  · simp only [Act.put, List.setIfInBounds_toArray, List.set_cons_zero, List.set_cons_succ, i64_w, i32_w]
                                                                    rfl
                                                                  refine pure_ (i := 17) (N := some 119) (v := ?_) (a' := ?_) impl_WarpDistance.K46 rfl rfl (any_of HT_.out (by kernel_rfl)) (fun _ _ _ h => h) (Or.inl ⟨by rfl, ?_⟩) ?_ ?_
                                                                  rotate_left
                                                                  · intro w'
                                                                    go_simp
                                                                    with_reducible rfl
                                                                  rotate_left
                                                                  · simp only [Act.put, List.setIfInBounds_toArray, List.set_cons_zero, List.set_cons_succ, i64_w, i32_w]
                                                                    rfl
                                                                  refine last_ (i := 18) (N := none) impl_WarpDistance.K47 rfl rfl (one_of HT_.out (by kernel_rfl)) (by decide) (fun K hK => ?_)
                                                                  refine skip_ (w1 := ?_) (by rfl) rfl ?_ ?_
                                                                  rotate_left
                                                                  · go_simp
                                                                    rfl
                                                                  refine hK.out _ _ ?_
                                                                  clear hK K
                                                                  refine done_ (done_of HT_.out (by kernel_rfl)) ?_
                                                                  try go_wp2
                                                                  (try simp only [← hl6_3])
                                                                  go_roundg kj27
                                                                  case measure => have := HJ2.out; have := HK2.out; have := HK3.out; have := HJ27.out; omega
                                                                  case rel => exact ⟨(y900), (wrap64 (x44_3 + 1)), (by first | rfl | (simp; done) | (simp [*]; done)), H', ⟨by have := HJ2.out; have := HK2.out; have := HK3.out; have := HJ27.out; omega⟩, ⟨by (try simp only [hl6_3]); (with_reducible repeat (first | apply Kd.S_alloc | apply Kd.S_drewN | apply Kd.S_drew)); first | exact HQ52.out | (have z_ := HQ52.out; simp only [Int.zero_add] at z_; exact z_)⟩, ⟨by repeat (first | (with_reducible first | exact HB.out | apply below_alloc | apply pw_below_drewN | apply below_drew1 | refine below_set ?_ GB48.out) | exact HB.out)⟩⟩
                                                                · rw [if_neg c47] at H
                                                                  exact absurd H (by simp)
                                                              · rw [if_neg c45] at H
                                                                exact absurd H (by simp)
                                                            · rw [if_neg c44] at H
                                                              exact absurd H (by simp)
                                                          · rw [if_neg c41] at H
                                                            exact absurd H (by simp)
                                                        · rw [if_neg c40] at H
                                                          exact absurd H (by simp)
                                                      · rw [if_neg c39] at H
                                                        exact absurd H (by simp)
                                                    · rw [if_neg c37] at H
                                                      exact absurd H (by simp)
                                                  · rw [if_neg c36] at H
                                                    exact absurd H (by simp)
                                                · rw [if_neg c35] at H
                                                  exact absurd H (by simp)
                                              · rw [if_neg c34] at H
                                                exact absurd H (by simp)
                                            · rw [if_neg c33] at H
                                              exact absurd H (by simp)
                                          · rw [if_neg c32] at H
                                            exact absurd H (by simp)
                                        · replace c30 := Bool.eq_false_iff.mpr c30
                                          subst c30
                                          have H1 : (if x33_2 > 0 then (if 0 ≤ (wrap64 (x33_2 - 1)) then (if (wrap64 (x33_2 - 1)) < (x6_3.length : Int) then (if 0 ≤ x44_3 then (if x44_3 < ((rd_L1 x6_3 (wrap64 (x33_2 - 1))).length : Int) then (if 0 ≤ x33_2 then (if x33_2 < (x6_3.length : Int) then (if x33_2 < (l0.length : Int) then (if x44_3 < (l1.length : Int) then ((impl_abs.f (wrap64 ((rd l0 x33_2) - (rd l1 x44_3)))).bind fun t906 => (if x44_3 < ((rd_L1 x6_3 x33_2).length : Int) then (impl_WarpDistance.l1 kj27 l0 l1 (x6_3.set (x33_2 : Int).toNat ((rd_L1 x6_3 x33_2).set (x44_3 : Int).toNat (wrap64 ((rd (rd_L1 x6_3 (wrap64 (x33_2 - 1))) x44_3) + t906)))) x33_2 (l0.length : Int) x33_2 (l1.length : Int) (wrap64 (x44_3 + 1))) else (none))) else (none)) else (none)) else (none)) else (none)) else (none)) else (none)) else (none)) else (none)) else (if x44_3 > 0 then (if 0 ≤ x33_2 then (if x33_2 < (x6_3.length : Int) then (if 0 ≤ (wrap64 (x44_3 - 1)) then (if (wrap64 (x44_3 - 1)) < ((rd_L1 x6_3 x33_2).length : Int) then (if x33_2 < (l0.length : Int) then (if 0 ≤ x44_3 then (if x44_3 < (l1.length : Int) then ((impl_abs.f (wrap64 ((rd l0 x33_2) - (rd l1 x44_3)))).bind fun t915 => (if x44_3 < ((rd_L1 x6_3 x33_2).length : Int) then (impl_WarpDistance.l1 kj27 l0 l1 (x6_3.set (x33_2 : Int).toNat ((rd_L1 x6_3 x33_2).set (x44_3 : Int).toNat (wrap64 ((rd (rd_L1 x6_3 x33_2) (wrap64 (x44_3 - 1))) + t915)))) x33_2 (l0.length : Int) x33_2 (l1.length : Int) (wrap64 (x44_3 + 1))) else (none))) else (none)) else (none)) else (none)) else (none)) else (none)) else (none)) else (none)) else (if 0 ≤ x33_2 then (if x33_2 < (x6_3.length : Int) then (if x33_2 < (l0.length : Int) then (if 0 ≤ x44_3 then (if x44_3 < (l1.length : Int) then ((impl_abs.f (wrap64 ((rd l0 x33_2) - (rd l1 x44_3)))).bind fun t922 => (if x44_3 < ((rd_L1 x6_3 x33_2).length : Int) then (impl_WarpDistance.l1 kj27 l0 l1 (x6_3.set (x33_2 : Int).toNat ((rd_L1 x6_3 x33_2).set (x44_3 : Int).toNat (wrap64 (0 + t922)))) x33_2 (l0.length : Int) x33_2 (l1.length : Int) (wrap64 (x44_3 + 1))) else (none))) else (none)) else (none)) else (none)) else (none)) else (none)))) = some (r1, r2) := by rw [if_neg (show ¬ (false = true) by decide)] at H; exact H
                                          clear H
                                          have H := H1
                                          clear H1
                                          by_cases c54 : x33_2 > 0
                                          · rw [if_pos c54] at H
                                            have c54b0 : decide (0 < x33_2) = true := decide_eq_true c54
                                            have c54b2 := c54b0; (try simp only [hl6_3] at c54b2)
                                            clear c54
                                            obtain ⟨ji55, hji55⟩ : ∃ j_ : Int, (wrap64 (x33_2 - 1)) = j_ := ⟨_, rfl⟩
                                            replace H : (if 0 ≤ (ji55) then (if (ji55) < (x6_3.length : Int) then (if 0 ≤ x44_3 then (if x44_3 < ((rd_L1 x6_3 (ji55)).length : Int) then (if 0 ≤ x33_2 then (if x33_2 < (x6_3.length : Int) then (if x33_2 < (l0.length : Int) then (if x44_3 < (l1.length : Int) then ((impl_abs.f (wrap64 ((rd l0 x33_2) - (rd l1 x44_3)))).bind fun t906 => (if x44_3 < ((rd_L1 x6_3 x33_2).length : Int) then (impl_WarpDistance.l1 kj27 l0 l1 (x6_3.set (x33_2 : Int).toNat ((rd_L1 x6_3 x33_2).set (x44_3 : Int).toNat (wrap64 ((rd (rd_L1 x6_3 (ji55)) x44_3) + t906)))) x33_2 (l0.length : Int) x33_2 (l1.length : Int) (wrap64 (x44_3 + 1))) else (none))) else (none)) else (none)) else (none)) else (none)) else (none)) else (none)) else (none)) else (none)) = some (r1, r2) := by first | (rw [hji55] at H; exact H) | (simp only [hji55] at H ⊢; exact H)
                                            have hji55w : (IntKind.i64.wrap (x33_2 - 1)) = ji55 := (i64_w _).trans hji55
                                            by_cases c56 : 0 ≤ (ji55)
                                            · rw [if_pos c56] at H
                                              have c56b0 : decide (0 ≤ (ji55)) = true := decide_eq_true c56
                                              have c56b2 := c56b0; (try simp only [hl6_3] at c56b2)
                                              clear c56
                                              by_cases c57 : (ji55) < (x6_3.length : Int)
                                              · rw [if_pos c57] at H
                                                have c57b0 : decide ((ji55) < (x6_3.length : Int)) = true := decide_eq_true c57
                                                have c57b2 := c57b0; (try simp only [hl6_3] at c57b2)
                                                clear c57
                                                by_cases c58 : 0 ≤ x44_3
                                                · rw [if_pos c58] at H
                                                  have c58b0 : decide (0 ≤ x44_3) = true := decide_eq_true c58
                                                  have c58b2 := c58b0; (try simp only [hl6_3] at c58b2)
                                                  clear c58
                                                  by_cases c59 : x44_3 < ((rd_L1 x6_3 (ji55)).length : Int)
                                                  · rw [if_pos c59] at H
                                                    have c59b0 : decide (x44_3 < ((rd_L1 x6_3 (ji55)).length : Int)) = true := decide_eq_true c59
                                                    have c59b2 := c59b0; (try simp only [hl6_3] at c59b2)
                                                    clear c59
                                                    by_cases c60 : 0 ≤ x33_2
                                                    · rw [if_pos c60] at H
                                                      have c60b0 : decide (0 ≤ x33_2) = true := decide_eq_true c60
                                                      have c60b2 := c60b0; (try simp only [hl6_3] at c60b2)
                                                      clear c60
                                                      by_cases c61 : x33_2 < (x6_3.length : Int)
                                                      · rw [if_pos c61] at H
                                                        have c61b0 : decide (x33_2 < (x6_3.length : Int)) = true := decide_eq_true c61
                                                        have c61b2 := c61b0; (try simp only [hl6_3] at c61b2)
                                                        clear c61
                                                        by_cases c62 : x33_2 < (l0.length : Int)
                                                        · rw [if_pos c62] at H
                                                          have c62b0 : decide (x33_2 < (l0.length : Int)) = true := decide_eq_true c62
                                                          have c62b2 := c62b0; (try simp only [hl6_3] at c62b2)
                                                          clear c62
                                                          by_cases c63 : x44_3 < (l1.length : Int)
                                                          · rw [if_pos c63] at H
                                                            have c63b0 : decide (x44_3 < (l1.length : Int)) = true := decide_eq_true c63
                                                            have c63b2 := c63b0; (try simp only [hl6_3] at c63b2)
                                                            clear c63
                                                            replace H := Option.bind_eq_some_iff.mp H
                                                            obtain ⟨t906, A640, H⟩ := H
                                                            replace H : (if x44_3 < ((rd_L1 x6_3 x33_2).length : Int) then (impl_WarpDistance.l1 kj27 l0 l1 (x6_3.set (x33_2 : Int).toNat ((rd_L1 x6_3 x33_2).set (x44_3 : Int).toNat (wrap64 ((rd (rd_L1 x6_3 (ji55)) x44_3) + t906)))) x33_2 (l0.length : Int) x33_2 (l1.length : Int) (wrap64 (x44_3 + 1))) else (none)) = some (r1, r2) := H
                                                            have A64 := Aside0.mk A640
                                                            clear A640
                                                            by_cases c65 : x44_3 < ((rd_L1 x6_3 x33_2).length : Int)
                                                            · rw [if_pos c65] at H
                                                              have c65b0 : decide (x44_3 < ((rd_L1 x6_3 x33_2).length : Int)) = true := decide_eq_true c65
                                                              have c65b2 := c65b0; (try simp only [hl6_3] at c65b2)
                                                              clear c65
                                                              obtain ⟨y907, hy907⟩ : ∃ y_ : List Int, y_ = ((rd_L1 x6_3 x33_2).set (x44_3 : Int).toNat (wrap64 ((rd (rd_L1 x6_3 (ji55)) x44_3) + t906))) := ⟨_, rfl⟩
                                                              replace H : (impl_WarpDistance.l1 kj27 l0 l1 (x6_3.set (x33_2 : Int).toNat y907) x33_2 (l0.length : Int) x33_2 (l1.length : Int) (wrap64 (x44_3 + 1))) = some (r1, r2) := by first | (rw [hy907]; with_reducible exact H) | (have H2_ := (Option.bind_some _ _).symm.trans H; rw [hy907]; with_reducible exact H2_) | (have H2_ := (Option.bind_some _ _).symm.trans H; with_reducible exact H2_) | with_reducible exact H | (rw [hy907]; exact H) | exact H
                                                              have Ny907 := Aside0.mk hy907
                                                              clear hy907
                                                              obtain ⟨y909, hy909⟩ : ∃ y_ : List (List Int), y_ = (x6_3.set (x33_2 : Int).toNat y907) := ⟨_, rfl⟩
                                                              replace H : (impl_WarpDistance.l1 kj27 l0 l1 y909 x33_2 (l0.length : Int) x33_2 (l1.length : Int) (wrap64 (x44_3 + 1))) = some (r1, r2) := by first | (rw [hy909]; with_reducible exact H) | (have H2_ := (Option.bind_some _ _).symm.trans H; rw [hy909]; with_reducible exact H2_) | (have H2_ := (Option.bind_some _ _).symm.trans H; with_reducible exact H2_) | with_reducible exact H | (rw [hy909]; exact H) | exact H
                                                              have Ny909 := Aside0.mk hy909
                                                              clear hy909
                                                              have H' := Aside0.mk H
                                                              clear H
                                                              have p901 : 0 ≤ ((ji55) : Int) := of_decide_eq_true (by first | (with_reducible assumption) | assumption)
                                                              have q901 : (ji55) < (x6_3.length : Int) := of_decide_eq_true (by first | (with_reducible assumption) | assumption)
                                                              obtain ⟨ad901, A901_0, c901_0, e901, hx901_0, hl901_0, hi901_0⟩ := at_L1 (Kd.S_reads' HO_6.out).2.2 (ji55) p901 q901
                                                              obtain rfl : (⟨go22, 0, none⟩ : Addr) = ad901 := (by injection e901)
                                                              obtain ⟨ce901, hce901, hMe901, hcc901⟩ := Kd.S_get HO_6.out [] (ji55) p901 (by first | exact q901 | exact of_decide_eq_true (by first | (with_reducible assumption) | assumption) | (have e_ := (Kd.S_reads' HO_6.out).1; omega))
                                                              obtain ⟨ve901_0, rfl, ge901_0⟩ := hMe901
                                                              have hv901_0 := hcc901 0 _ rfl
                                                              rw [Nat.add_zero, show ((Kd.slice 2 (Kd.int .i64))).sz = 1 from rfl, Nat.mul_one] at hv901_0
                                                              replace hv901_0 := Option.some.inj (hv901_0.symm.trans hx901_0)
                                                              rw [hv901_0] at ge901_0
                                                              have HL901_0 := Aside0.mk (show Kd.R (Kd.int .i64) 2 _ _ _ _ (rd_L1 x6_3 (ji55)) from ge901_0)
                                                              clear hv901_0 ge901_0
                                                              have HX901_0 := Aside0.mk hx901_0
                                                              clear hcc901 hce901
                                                              (first | simp only [add_plain] at hx901_0 | simp only [add_at] at hx901_0 | simp only [Addr.add, Nat.zero_add] at hx901_0 | skip)
                                                              have HR901_0 := Aside0.mk hi901_0
                                                              have HC901_0 := Aside0.mk hl901_0
                                                              clear hi901_0 hl901_0
                                                              replace p901 := eq_true p901
                                                              replace q901 := eq_true q901
                                                              have p902 : 0 ≤ (x44_3 : Int) := of_decide_eq_true (by first | (with_reducible assumption) | assumption)
                                                              have q902 : x44_3 < ((rd_L1 x6_3 (ji55)).length : Int) := of_decide_eq_true (by first | (with_reducible assumption) | assumption)
                                                              obtain ⟨ad902, e902, hx902_0⟩ := Kd.at_int (by repeat (first | (with_reducible exact HR901_0.out) | (with_reducible refine Kd.C_alloc ?_ _) | (with_reducible refine Kd.C_drewN ?_ _) | (with_reducible refine Kd.C_drew ?_) | exact HR901_0.out)) x44_3 p902 q902
                                                              cases e902
                                                              replace p902 := eq_true p902
                                                              replace q902 := eq_true q902
                                                              try go_wp2
                                                              have n0_ := Aside0.mk (Kd.S_drew HO_6.out)
                                                              have n1_ := Aside0.mk (Kd.R_drew HL901_0.out)
                                                              have n2_ := Aside0.mk (Kd.C_drew HR901_0.out)
                                                              have n3_ := Aside0.mk (below_drew1 HB.out)
                                                              clear HO_6
                                                              clear HL901_0
                                                              clear HR901_0
                                                              clear HB
                                                              have HO_6 := n0_
                                                              have HL901_0 := n1_
                                                              have HR901_0 := n2_
                                                              have HB := n3_
                                                              clear n0_ n1_ n2_ n3_
                                                              have p903 : 0 ≤ (x33_2 : Int) := of_decide_eq_true (by first | (with_reducible assumption) | assumption)
                                                              have q903 : x33_2 < (x6_3.length : Int) := of_decide_eq_true (by first | (with_reducible assumption) | assumption)
                                                              obtain ⟨ad903, A903_0, c903_0, e903, hx903_0, hl903_0, hi903_0⟩ := at_L1 (Kd.S_reads' HO_6.out).2.2 x33_2 p903 q903
                                                              obtain rfl : (⟨go22, 0, none⟩ : Addr) = ad903 := (by injection e903)
                                                              obtain ⟨ce903, hce903, hMe903, hcc903⟩ := Kd.S_get HO_6.out [] x33_2 p903 (by first | exact q903 | exact of_decide_eq_true (by first | (with_reducible assumption) | assumption) | (have e_ := (Kd.S_reads' HO_6.out).1; omega))
                                                              obtain ⟨ve903_0, rfl, ge903_0⟩ := hMe903
                                                              have hv903_0 := hcc903 0 _ rfl
                                                              rw [Nat.add_zero, show ((Kd.slice 2 (Kd.int .i64))).sz = 1 from rfl, Nat.mul_one] at hv903_0
                                                              replace hv903_0 := Option.some.inj (hv903_0.symm.trans hx903_0)
                                                              rw [hv903_0] at ge903_0
                                                              have HL903_0 := Aside0.mk (show Kd.R (Kd.int .i64) 2 _ _ _ _ (rd_L1 x6_3 x33_2) from ge903_0)
                                                              clear hv903_0 ge903_0
                                                              have HX903_0 := Aside0.mk hx903_0
                                                              clear hcc903 hce903
                                                              (first | simp only [add_plain] at hx903_0 | simp only [add_at] at hx903_0 | simp only [Addr.add, Nat.zero_add] at hx903_0 | skip)
                                                              have HR903_0 := Aside0.mk hi903_0
                                                              have HC903_0 := Aside0.mk hl903_0
                                                              clear hi903_0 hl903_0
                                                              replace p903 := eq_true p903
                                                              replace q903 := eq_true q903
                                                              have p904 : 0 ≤ (x33_2 : Int) := of_decide_eq_true (by first | (with_reducible assumption) | assumption)
                                                              have q904 : x33_2 < (l0.length : Int) := of_decide_eq_true (by first | (with_reducible assumption) | assumption)
                                                              obtain ⟨ad904, e904, hx904_0⟩ := Kd.at_int HR0.out x33_2 p904 q904
                                                              have hw904_0 := hx904_0
                                                              cases e904
                                                              replace hx904_0 := (HB.out.cell (World.block_lt_of_cell? w _ hx904_0)).trans hx904_0
                                                              replace p904 := eq_true p904
                                                              replace q904 := eq_true q904
                                                              have p905 : 0 ≤ (x44_3 : Int) := of_decide_eq_true (by first | (with_reducible assumption) | assumption)
                                                              have q905 : x44_3 < (l1.length : Int) := of_decide_eq_true (by first | (with_reducible assumption) | assumption)
                                                              obtain ⟨ad905, e905, hx905_0⟩ := Kd.at_int HR1.out x44_3 p905 q905
                                                              have hw905_0 := hx905_0
                                                              cases e905
                                                              replace hx905_0 := (HB.out.cell (World.block_lt_of_cell? w _ hx905_0)).trans hx905_0
                                                              replace p905 := eq_true p905
                                                              replace q905 := eq_true q905
                                                              refine start_ (n := 19) (S := fun w' => w'.cell? ⟨go22, (x33_2).toNat, none⟩ = some (.slice A903_0 (rd_L1 x6_3 x33_2).length c903_0) ∧ w'.cell? (ad904.add (x33_2).toNat) = some (.int .i64 (rd l0 x33_2)) ∧ w'.cell? (ad905.add (x44_3).toNat) = some (.int .i64 (rd l1 x44_3))) (ds := [18]) impl_WarpDistance.K28 (by kernel_rfl) rfl rfl ⟨hx903_0, ((HB.out.cell (World.block_lt_of_cell? w _ hw904_0)).trans hw904_0), ((HB.out.cell (World.block_lt_of_cell? w _ hw905_0)).trans hw905_0)⟩ (fun hHeld => ?_); refine with_tabW impl_WarpDistance.tab20 impl_WarpDistance.bits20 (fun HT_ HW_ => ?_)
                                                              generalize wc.drew = w67 at HO_6 HL901_0 HR901_0 HB HL903_0 HR903_0 HX903_0 hx903_0 hx904_0 hx905_0 hHeld ⊢
                                                              refine pure_ (i := 0) (N := some 102) (v := ?_) (a' := ?_) impl_WarpDistance.K29 rfl rfl (any_of HT_.out (by kernel_rfl)) (fun _ _ _ h => h) (Or.inl ⟨by rfl, ?_⟩) ?_ ?_
                                                              rotate_left
                                                              · intro w'
                                                                go_simp
                                                                with_reducible rfl
                                                              rotate_left
                                                              · simp only [Act.put, List.setIfInBounds_toArray, List.set_cons_zero, List.set_cons_succ, i64_w, i32_w]
                                                                rfl
                                                              refine pure_ (i := 1) (N := some 103) (v := ?_) (a' := ?_) impl_WarpDistance.K30 rfl rfl (any_of HT_.out (by kernel_rfl)) (fun _ _ _ h => h) (Or.inl ⟨by rfl, ?_⟩) ?_ ?_
                                                              rotate_left
                                                              · intro w'
                                                                go_simp
                                                                with_reducible rfl
                                                              rotate_left
                                                              · simp only [Act.put, List.setIfInBounds_toArray, List.set_cons_zero, List.set_cons_succ, i64_w, i32_w]
                                                                rfl
                                                              refine pure_ (i := 2) (N := some 104) (v := ?_) (a' := ?_) impl_WarpDistance.K31 rfl rfl (any_of HT_.out (by kernel_rfl)) (fun _ _ _ h => h) (Or.inl ⟨by rfl, ?_⟩) ?_ ?_
                                                              rotate_left
                                                              · intro w'
                                                                go_simp
                                                                with_reducible rfl
                                                              rotate_left
                                                              · simp only [Act.put, List.setIfInBounds_toArray, List.set_cons_zero, List.set_cons_succ, i64_w, i32_w]
                                                                rfl
                                                              refine pure_ (i := 4) (N := some 106) (v := ?_) (a' := ?_) impl_WarpDistance.K32 rfl rfl (any_of HT_.out (by kernel_rfl)) (fun _ _ _ h => h) (Or.inl ⟨by rfl, ?_⟩) ?_ ?_
                                                              rotate_left
                                                              · intro w'
                                                                go_simp
                                                                with_reducible rfl
                                                              rotate_left
                                                              · simp only [Act.put, List.setIfInBounds_toArray, List.set_cons_zero, List.set_cons_succ, i64_w, i32_w]
                                                                rfl
                                                              refine pure_ (i := 5) (N := some 107) (v := ?_) (a' := ?_) impl_WarpDistance.K33 rfl rfl (any_of HT_.out (by kernel_rfl)) (fun _ _ _ h => h) (Or.inl ⟨by rfl, ?_⟩) ?_ ?_
                                                              rotate_left
                                                              · intro w'
                                                                go_simp
                                                                with_reducible rfl
                                                              rotate_left
                                                              · simp only [Act.put, List.setIfInBounds_toArray, List.set_cons_zero, List.set_cons_succ, i64_w, i32_w]
                                                                rfl
                                                              refine pure_ (i := 6) (N := some 108) (v := ?_) (a' := ?_) impl_WarpDistance.K34 rfl rfl (any_of HT_.out (by kernel_rfl)) (fun _ _ _ h => h) (Or.inl ⟨by rfl, ?_⟩) ?_ ?_
                                                              rotate_left
                                                              · intro w'
                                                                go_simp
                                                                with_reducible rfl
                                                              rotate_left
                                                              · simp only [Act.put, List.setIfInBounds_toArray, List.set_cons_zero, List.set_cons_succ, i64_w, i32_w]
                                                                rfl
                                                              refine pure_ (i := 7) (N := some 109) (v := ?_) (a' := ?_) impl_WarpDistance.K35 rfl rfl (any_of HT_.out (by kernel_rfl)) (fun _ _ _ h => h) (Or.inl ⟨by rfl, ?_⟩) ?_ ?_
                                                              rotate_left
                                                              · intro w'
                                                                go_simp
                                                                with_reducible rfl
                                                              rotate_left
                                                              · simp only [Act.put, List.setIfInBounds_toArray, List.set_cons_zero, List.set_cons_succ, i64_w, i32_w]
                                                                rfl
                                                              refine pure_ (i := 8) (N := some 110) (v := ?_) (a' := ?_) impl_WarpDistance.K36 rfl rfl (any_of HT_.out (by kernel_rfl)) (fun _ _ _ h => h) (Or.inl ⟨by rfl, ?_⟩) ?_ ?_
                                                              rotate_left
                                                              · intro w'
                                                                go_simp
                                                                with_reducible rfl
                                                              rotate_left
                                                              · simp only [Act.put, List.setIfInBounds_toArray, List.set_cons_zero, List.set_cons_succ, i64_w, i32_w]
                                                                rfl
                                                              refine pure_ (i := 10) (N := some 112) (v := ?_) (a' := ?_) impl_WarpDistance.K37 rfl rfl (any_of HT_.out (by kernel_rfl)) (fun _ _ _ h => h) (Or.inl ⟨by rfl, ?_⟩) ?_ ?_
                                                              rotate_left
                                                              · intro w'
                                                                go_simp
                                                                with_reducible rfl
                                                              rotate_left
                                                              · simp only [Act.put, List.setIfInBounds_toArray, List.set_cons_zero, List.set_cons_succ, i64_w, i32_w]
                                                                rfl
                                                              refine pure_ (i := 11) (N := some 113) (v := ?_) (a' := ?_) impl_WarpDistance.K38 rfl rfl (any_of HT_.out (by kernel_rfl)) (fun _ _ _ h => h) (Or.inl ⟨by rfl, ?_⟩) ?_ ?_
                                                              rotate_left
                                                              · intro w'
                                                                go_simp
                                                                with_reducible rfl
                                                              rotate_left
                                                              · simp only [Act.put, List.setIfInBounds_toArray, List.set_cons_zero, List.set_cons_succ, i64_w, i32_w]
                                                                rfl
                                                              refine pure_ (i := 12) (N := some 114) (v := ?_) (a' := ?_) impl_WarpDistance.K39 rfl rfl (any_of HT_.out (by kernel_rfl)) (fun _ _ _ h => h) (Or.inl ⟨by rfl, ?_⟩) ?_ ?_
                                                              rotate_left
                                                              · intro w'
                                                                go_simp
                                                                with_reducible rfl
                                                              rotate_left
                                                              · simp only [Act.put, List.setIfInBounds_toArray, List.set_cons_zero, List.set_cons_succ, i64_w, i32_w]
                                                                rfl
                                                              refine take_ (i := 3) (N := some 105) (v := ?_) (a' := ?_) impl_WarpDistance.K40 rfl rfl (take_ofW HT_.out HW_.out (by kernel_rfl)) (fun _ _ _ h => h) (Or.inl ⟨by rfl, ?_⟩) hHeld ?_ ?_
                                                              rotate_left
                                                              · rintro w' ⟨s0, s1, s2⟩
                                                                go_simp
                                                                with_reducible rfl
                                                              rotate_left
                                                              · simp only [Act.put, List.setIfInBounds_toArray, List.set_cons_zero, List.set_cons_succ, i64_w, i32_w]
                                                                rfl
                                                              refine take_ (i := 9) (N := some 111) (v := ?_) (a' := ?_) impl_WarpDistance.K41 rfl rfl (take_ofW HT_.out HW_.out (by kernel_rfl)) (fun _ _ _ h => h) (Or.inl ⟨by rfl, ?_⟩) hHeld ?_ ?_
                                                              rotate_left
                                                              · rintro w' ⟨s0, s1, s2⟩
                                                                go_simp
                                                                with_reducible rfl
                                                              rotate_left
                                                              · simp only [Act.put, List.setIfInBounds_toArray, List.set_cons_zero, List.set_cons_succ, i64_w, i32_w]
                                                                rfl
                                                              refine take_ (i := 13) (N := some 115) (v := ?_) (a' := ?_) impl_WarpDistance.K42 rfl rfl (take_ofW HT_.out HW_.out (by kernel_rfl)) (fun _ _ _ h => h) (Or.inl ⟨by rfl, ?_⟩) hHeld ?_ ?_
                                                              rotate_left
                                                              · rintro w' ⟨s0, s1, s2⟩
                                                                go_simp
                                                                with_reducible rfl
                                                              rotate_left
                                                              · simp only [Act.put, List.setIfInBounds_toArray, List.set_cons_zero, List.set_cons_succ, i64_w, i32_w]
                                                                rfl
                                                              refine pure_ (i := 14) (N := some 116) (v := ?_) (a' := ?_) impl_WarpDistance.K43 rfl rfl (any_of HT_.out (by kernel_rfl)) (fun _ _ _ h => h) (Or.inl ⟨by rfl, ?_⟩) ?_ ?_
                                                              rotate_left
                                                              · intro w'
                                                                go_simp
                                                                with_reducible rfl
                                                              rotate_left
                                                              · simp only [Act.put, List.setIfInBounds_toArray, List.set_cons_zero, List.set_cons_succ, i64_w, i32_w]
                                                                rfl
                                                              refine one_ (i := 15) (N := some 117) impl_WarpDistance.K44 rfl rfl (one_of HT_.out (by kernel_rfl)) (by decide) (fun K hK => ?_)
                                                              refine goes_ Try.func74 (by kernel_rfl) rfl #[.int .i64 (wrap64 ((rd l0 x33_2) - (rd l1 x44_3)))] (by rfl) rfl rfl (by (try simp only [List.map_toArray, List.map_cons, List.map_nil]); first | done | rfl | (simp only [List.length_drop, List.length_take]; rfl)) ?_
                                                              with_reducible refine (impl_abs.calls (wrap64 ((rd l0 x33_2) - (rd l1 x44_3))) t906 _ A64.out).mono ?_
                                                              rintro e w68 ⟨rfl, hb⟩
                                                              have HS0_ := (hb.cell (World.block_lt_of_cell? _ _ (hHeld.1))).trans (hHeld.1)
                                                              refine ⟨_, rfl, ?_⟩
                                                              have n0_ := Aside0.mk (Kd.S_below (by (with_reducible repeat (first | apply Kd.S_alloc | apply Kd.S_drewN | apply Kd.S_drew)); exact HO_6.out) hb)
                                                              have n1_ := Aside0.mk (Kd.R_below (by (with_reducible repeat (first | apply Kd.R_alloc | apply Kd.R_drewN | apply Kd.R_drew)); exact HL901_0.out) hb)
                                                              have n2_ := Aside0.mk (Kd.R_below (by (with_reducible repeat (first | apply Kd.R_alloc | apply Kd.R_drewN | apply Kd.R_drew)); exact HL903_0.out) hb)
                                                              have n3_ := Aside0.mk (Kd.C_below (by repeat (first | (with_reducible exact HR901_0.out) | (with_reducible refine Kd.C_alloc ?_ _) | (with_reducible refine Kd.C_drewN ?_ _) | (with_reducible refine Kd.C_drew ?_) | exact HR901_0.out)) hb)
                                                              have n4_ := Aside0.mk (Kd.C_below (by repeat (first | (with_reducible exact HR903_0.out) | (with_reducible refine Kd.C_alloc ?_ _) | (with_reducible refine Kd.C_drewN ?_ _) | (with_reducible refine Kd.C_drew ?_) | exact HR903_0.out)) hb)
                                                              have n5_ := Aside0.mk (pw_cell_below hb HX903_0.out)
                                                              have n6_ := Aside0.mk (below_step (by repeat (first | (with_reducible first | exact HB.out | apply below_alloc | apply pw_below_drewN | apply below_drew1) | exact HB.out)) hb)
                                                              clear HO_6
                                                              clear HL901_0
                                                              clear HL903_0
                                                              clear HR901_0
                                                              clear HR903_0
                                                              clear HX903_0
                                                              clear HB
                                                              have HO_6 := n0_
                                                              have HL901_0 := n1_
                                                              have HL903_0 := n2_
                                                              have HR901_0 := n3_
                                                              have HR903_0 := n4_
                                                              have HX903_0 := n5_
                                                              have HB := n6_
                                                              clear n0_ n1_ n2_ n3_ n4_ n5_ n6_
                                                              (try clear hb)
                                                              (try clear hb2)
                                                              (try clear hk)
                                                              (try clear hi)
                                                              have p66 : 0 ≤ (x44_3 : Int) := of_decide_eq_true (by first | (with_reducible assumption) | assumption)
                                                              have q66 : (x44_3 : Int) < (((rd_L1 x6_3 x33_2).length : Int) : Int) := of_decide_eq_true (by first | (with_reducible assumption) | assumption)
                                                              obtain ⟨go66, co66, eo66, gb66, gl66, cl66, HG66⟩ := Kd.R_form HL903_0.out (by omega)
                                                              (first | cases eo66 | (injection eo66 with ea_ en_ ec_; (first | subst ea_ | (injection ea_ with ea_; subst ea_)); subst ec_; clear en_))
                                                              have GB66 := Aside0.mk gb66
                                                              have GG66 := Aside0.mk HG66
                                                              clear gb66 gl66 HG66
                                                              obtain ⟨hx66_0, hf66_0⟩ := Kd.R_celln 0 HL903_0.out (x44_3 : Int) p66 q66
                                                              replace p66 := eq_true p66
                                                              replace q66 := eq_true q66
                                                              have hq69 : (x33_2 : Int) < (x6_3.length : Int) := (by have h_ : (x33_2 : Int) < ((x6_3.length : Int) : Int) := of_decide_eq_true (by first | (with_reducible assumption) | assumption); first | exact h_ | (have e_ := (Kd.S_reads' HO_6.out).1; omega) | simpa only [List.length_set, List.length_set] using h_)
                                                              obtain ⟨oki69, ce69, hcl69, hM69, hcc69, hok69, hbk69⟩ := Kd.S_borrow HO_6.out [] (x33_2 : Int) (of_decide_eq_true (by first | (with_reducible assumption) | assumption)) hq69
                                                              obtain ⟨ve69_0, rfl, ge69_0⟩ := hM69
                                                              have hv69 := hcc69 0 _ rfl
                                                              rw [Nat.add_zero, show ((Kd.slice 2 (Kd.int .i64))).sz = 1 from rfl, Nat.mul_one] at hv69
                                                              replace hv69 := Option.some.inj (hv69.symm.trans HX903_0.out)
                                                              subst hv69
                                                              clear hcc69 hcl69
                                                              replace ge69_0 := (show Kd.R (Kd.int .i64) 2 _ _ _ _ (rd_L1 x6_3 x33_2) from ge69_0)
                                                              have HP69 := Kd.R_putg ge69_0 (x44_3 : Int) (wrap64 ((rd (rd_L1 x6_3 (ji55)) x44_3) + t906))
                                                              rw [← Ny907.out] at HP69
                                                              have HS69 := hbk69 HP69.2 (fun k_ e_ => by injection e_ with e_; subst e_; exact ge69_0.1 _ rfl) (x' := y907) (Kd.M_row HP69.1)
                                                              rw [← Ny909.out] at HS69
                                                              have HQ69 := Aside0.mk HS69
                                                              clear HP69 HS69 hbk69 hok69
                                                              refine hK.out _ _ ⟨HS0_, ((HB.out.cell (World.block_lt_of_cell? w _ hw904_0)).trans hw904_0), ((HB.out.cell (World.block_lt_of_cell? w _ hw905_0)).trans hw905_0)⟩ (fun hHeld => ?_)
                                                              clear hK K
                                                              refine norm_ (a' := ?_) ?_ ?_
                                                              rotate_left
                                                              · show Act.put _ (some 117) _ = _
                                                                simp only [Act.put, List.setIfInBounds_toArray, List.set_cons_zero, List.set_cons_succ, i64_w, i32_w]
                                                                rfl
                                                              refine pure_ (i := 16) (N := some 118) (v := ?_) (a' := ?_) impl_WarpDistance.K45 rfl rfl (any_of HT_.out (by kernel_rfl)) (fun _ _ _ h => h) (Or.inl ⟨by rfl, ?_⟩) ?_ ?_
                                                              rotate_left
                                                              · intro w'
                                                                go_simp
                                                                with_reducible rfl
                                                              rotate_left
                                                              · simp only [Act.put, List.setIfInBounds_toArray, List.set_cons_zero, List.set_cons_succ, i64_w, i32_w]
                                                                rfl
                                                              refine pure_ (i := 17) (N := some 119) (v := ?_) (a' := ?_) impl_WarpDistance.K46 rfl rfl (any_of HT_.out (by kernel_rfl)) (fun _ _ _ h => h) (Or.inl ⟨by rfl, ?_⟩) ?_ ?_
                                                              rotate_left
                                                              · intro w'
                                                                go_simp
                                                                with_reducible rfl
                                                              rotate_left
                                                              · simp only [Act.put, List.setIfInBounds_toArray, List.set_cons_zero, List.set_cons_succ, i64_w, i32_w]
                                                                rfl
                                                              refine last_ (i := 18) (N := none) impl_WarpDistance.K47 rfl rfl (one_of HT_.out (by kernel_rfl)) (by decide) (fun K hK => ?_)
                                                              refine skip_ (w1 := ?_) (by rfl) rfl ?_ ?_
                                                              rotate_left
                                                              · go_simp
                                                                rfl
                                                              refine hK.out _ _ ?_
                                                              clear hK K
                                                              refine done_ (done_of HT_.out (by kernel_rfl)) ?_
                                                              try go_wp2
                                                              (try simp only [← hl6_3])
                                                              go_roundg kj27
                                                              case measure => have := HJ2.out; have := HK2.out; have := HK3.out; have := HJ27.out; omega
                                                              case rel => exact ⟨(y909), (wrap64 (x44_3 + 1)), (by first | rfl | (simp; done) | (simp [*]; done)), H', ⟨by have := HJ2.out; have := HK2.out; have := HK3.out; have := HJ27.out; omega⟩, ⟨by (try simp only [hl6_3]); (with_reducible repeat (first | apply Kd.S_alloc | apply Kd.S_drewN | apply Kd.S_drew)); first | exact HQ69.out | (have z_ := HQ69.out; simp only [Int.zero_add] at z_; exact z_)⟩, ⟨by repeat (first | (with_reducible first | exact HB.out | apply below_alloc | apply pw_below_drewN | apply below_drew1 | refine below_set ?_ GB66.out) | exact HB.out)⟩⟩
                                                            · rw [if_neg c65] at H
                                                              exact absurd H (by simp)
                                                          · rw [if_neg c63] at H
                                                            exact absurd H (by simp)
                                                        · rw [if_neg c62] at H
                                                          exact absurd H (by simp)
                                                      · rw [if_neg c61] at H
                                                        exact absurd H (by simp)
                                                    · rw [if_neg c60] at H
                                                      exact absurd H (by simp)
                                                  · rw [if_neg c59] at H
                                                    exact absurd H (by simp)
                                                · rw [if_neg c58] at H
                                                  exact absurd H (by simp)
                                              · rw [if_neg c57] at H
                                                exact absurd H (by simp)
                                            · rw [if_neg c56] at H
                                              exact absurd H (by simp)
                                          · rw [if_neg c54] at H
                                            have c54b0 : decide (0 < x33_2) = false := decide_eq_false c54
                                            have c54b2 := c54b0; (try simp only [hl6_3] at c54b2)
                                            clear c54
                                            by_cases c71 : x44_3 > 0
                                            · rw [if_pos c71] at H
                                              have c71b0 : decide (0 < x44_3) = true := decide_eq_true c71
                                              have c71b2 := c71b0; (try simp only [hl6_3] at c71b2)
                                              clear c71
                                              by_cases c72 : 0 ≤ x33_2
                                              · rw [if_pos c72] at H
                                                have c72b0 : decide (0 ≤ x33_2) = true := decide_eq_true c72
                                                have c72b2 := c72b0; (try simp only [hl6_3] at c72b2)
                                                clear c72
                                                by_cases c73 : x33_2 < (x6_3.length : Int)
                                                · rw [if_pos c73] at H
                                                  have c73b0 : decide (x33_2 < (x6_3.length : Int)) = true := decide_eq_true c73
                                                  have c73b2 := c73b0; (try simp only [hl6_3] at c73b2)
                                                  clear c73
                                                  obtain ⟨ji74, hji74⟩ : ∃ j_ : Int, (wrap64 (x44_3 - 1)) = j_ := ⟨_, rfl⟩
                                                  replace H : (if 0 ≤ (ji74) then (if (ji74) < ((rd_L1 x6_3 x33_2).length : Int) then (if x33_2 < (l0.length : Int) then (if 0 ≤ x44_3 then (if x44_3 < (l1.length : Int) then ((impl_abs.f (wrap64 ((rd l0 x33_2) - (rd l1 x44_3)))).bind fun t915 => (if x44_3 < ((rd_L1 x6_3 x33_2).length : Int) then (impl_WarpDistance.l1 kj27 l0 l1 (x6_3.set (x33_2 : Int).toNat ((rd_L1 x6_3 x33_2).set (x44_3 : Int).toNat (wrap64 ((rd (rd_L1 x6_3 x33_2) (ji74)) + t915)))) x33_2 (l0.length : Int) x33_2 (l1.length : Int) (wrap64 (x44_3 + 1))) else (none))) else (none)) else (none)) else (none)) else (none)) else (none)) = some (r1, r2) := by first | (rw [hji74] at H; exact H) | (simp only [hji74] at H ⊢; exact H)
                                                  have hji74w : (IntKind.i64.wrap (x44_3 - 1)) = ji74 := (i64_w _).trans hji74
                                                  by_cases c75 : 0 ≤ (ji74)
                                                  · rw [if_pos c75] at H
                                                    have c75b0 : decide (0 ≤ (ji74)) = true := decide_eq_true c75
                                                    have c75b2 := c75b0; (try simp only [hl6_3] at c75b2)
                                                    clear c75
                                                    by_cases c76 : (ji74) < ((rd_L1 x6_3 x33_2).length : Int)
                                                    · rw [if_pos c76] at H
                                                      have c76b0 : decide ((ji74) < ((rd_L1 x6_3 x33_2).length : Int)) = true := decide_eq_true c76
                                                      have c76b2 := c76b0; (try simp only [hl6_3] at c76b2)
                                                      clear c76
                                                      by_cases c77 : x33_2 < (l0.length : Int)
                                                      · rw [if_pos c77] at H
                                                        have c77b0 : decide (x33_2 < (l0.length : Int)) = true := decide_eq_true c77
                                                        have c77b2 := c77b0; (try simp only [hl6_3] at c77b2)
                                                        clear c77
                                                        by_cases c78 : 0 ≤ x44_3
                                                        · rw [if_pos c78] at H
                                                          have c78b0 : decide (0 ≤ x44_3) = true := decide_eq_true c78
                                                          have c78b2 := c78b0; (try simp only [hl6_3] at c78b2)
                                                          clear c78
                                                          by_cases c79 : x44_3 < (l1.length : Int)
                                                          · rw [if_pos c79] at H
                                                            have c79b0 : decide (x44_3 < (l1.length : Int)) = true := decide_eq_true c79
                                                            have c79b2 := c79b0; (try simp only [hl6_3] at c79b2)
                                                            clear c79
                                                            replace H := Option.bind_eq_some_iff.mp H
                                                            obtain ⟨t915, A800, H⟩ := H
                                                            replace H : (if x44_3 < ((rd_L1 x6_3 x33_2).length : Int) then (impl_WarpDistance.l1 kj27 l0 l1 (x6_3.set (x33_2 : Int).toNat ((rd_L1 x6_3 x33_2).set (x44_3 : Int).toNat (wrap64 ((rd (rd_L1 x6_3 x33_2) (ji74)) + t915)))) x33_2 (l0.length : Int) x33_2 (l1.length : Int) (wrap64 (x44_3 + 1))) else (none)) = some (r1, r2) := H
                                                            have A80 := Aside0.mk A800
                                                            clear A800
                                                            by_cases c81 : x44_3 < ((rd_L1 x6_3 x33_2).length : Int)
                                                            · rw [if_pos c81] at H
                                                              have c81b0 : decide (x44_3 < ((rd_L1 x6_3 x33_2).length : Int)) = true := decide_eq_true c81
                                                              have c81b2 := c81b0; (try simp only [hl6_3] at c81b2)
                                                              clear c81
                                                              obtain ⟨y916, hy916⟩ : ∃ y_ : List Int, y_ = ((rd_L1 x6_3 x33_2).set (x44_3 : Int).toNat (wrap64 ((rd (rd_L1 x6_3 x33_2) (ji74)) + t915))) := ⟨_, rfl⟩
                                                              replace H : (impl_WarpDistance.l1 kj27 l0 l1 (x6_3.set (x33_2 : Int).toNat y916) x33_2 (l0.length : Int) x33_2 (l1.length : Int) (wrap64 (x44_3 + 1))) = some (r1, r2) := by first | (rw [hy916]; with_reducible exact H) | (have H2_ := (Option.bind_some _ _).symm.trans H; rw [hy916]; with_reducible exact H2_) | (have H2_ := (Option.bind_some _ _).symm.trans H; with_reducible exact H2_) | with_reducible exact H | (rw [hy916]; exact H) | exact H
                                                              have Ny916 := Aside0.mk hy916
                                                              clear hy916
                                                              obtain ⟨y918, hy918⟩ : ∃ y_ : List (List Int), y_ = (x6_3.set (x33_2 : Int).toNat y916) := ⟨_, rfl⟩
                                                              replace H : (impl_WarpDistance.l1 kj27 l0 l1 y918 x33_2 (l0.length : Int) x33_2 (l1.length : Int) (wrap64 (x44_3 + 1))) = some (r1, r2) := by first | (rw [hy918]; with_reducible exact H) | (have H2_ := (Option.bind_some _ _).symm.trans H; rw [hy918]; with_reducible exact H2_) | (have H2_ := (Option.bind_some _ _).symm.trans H; with_reducible exact H2_) | with_reducible exact H | (rw [hy918]; exact H) | exact H
                                                              have Ny918 := Aside0.mk hy918
                                                              clear hy918
                                                              have H' := Aside0.mk H
                                                              clear H
                                                              have p910 : 0 ≤ (x33_2 : Int) := of_decide_eq_true (by first | (with_reducible assumption) | assumption)
                                                              have q910 : x33_2 < (x6_3.length : Int) := of_decide_eq_true (by first | (with_reducible assumption) | assumption)
                                                              obtain ⟨ad910, A910_0, c910_0, e910, hx910_0, hl910_0, hi910_0⟩ := at_L1 (Kd.S_reads' HO_6.out).2.2 x33_2 p910 q910
                                                              obtain rfl : (⟨go22, 0, none⟩ : Addr) = ad910 := (by injection e910)
                                                              obtain ⟨ce910, hce910, hMe910, hcc910⟩ := Kd.S_get HO_6.out [] x33_2 p910 (by first | exact q910 | exact of_decide_eq_true (by first | (with_reducible assumption) | assumption) | (have e_ := (Kd.S_reads' HO_6.out).1; omega))
                                                              obtain ⟨ve910_0, rfl, ge910_0⟩ := hMe910
                                                              have hv910_0 := hcc910 0 _ rfl
                                                              rw [Nat.add_zero, show ((Kd.slice 2 (Kd.int .i64))).sz = 1 from rfl, Nat.mul_one] at hv910_0
                                                              replace hv910_0 := Option.some.inj (hv910_0.symm.trans hx910_0)
                                                              rw [hv910_0] at ge910_0
                                                              have HL910_0 := Aside0.mk (show Kd.R (Kd.int .i64) 2 _ _ _ _ (rd_L1 x6_3 x33_2) from ge910_0)
                                                              clear hv910_0 ge910_0
                                                              have HX910_0 := Aside0.mk hx910_0
                                                              clear hcc910 hce910
                                                              (first | simp only [add_plain] at hx910_0 | simp only [add_at] at hx910_0 | simp only [Addr.add, Nat.zero_add] at hx910_0 | skip)
                                                              have HR910_0 := Aside0.mk hi910_0
                                                              have HC910_0 := Aside0.mk hl910_0
                                                              clear hi910_0 hl910_0
                                                              replace p910 := eq_true p910
                                                              replace q910 := eq_true q910
                                                              have p911 : 0 ≤ ((ji74) : Int) := of_decide_eq_true (by first | (with_reducible assumption) | assumption)
                                                              have q911 : (ji74) < ((rd_L1 x6_3 x33_2).length : Int) := of_decide_eq_true (by first | (with_reducible assumption) | assumption)
                                                              obtain ⟨ad911, e911, hx911_0⟩ := Kd.at_int (by repeat (first | (with_reducible exact HR910_0.out) | (with_reducible refine Kd.C_alloc ?_ _) | (with_reducible refine Kd.C_drewN ?_ _) | (with_reducible refine Kd.C_drew ?_) | exact HR910_0.out)) (ji74) p911 q911
                                                              cases e911
                                                              replace p911 := eq_true p911
                                                              replace q911 := eq_true q911
                                                              try go_wp2
                                                              have n0_ := Aside0.mk (Kd.S_drew HO_6.out)
                                                              have n1_ := Aside0.mk (Kd.R_drew HL910_0.out)
                                                              have n2_ := Aside0.mk (Kd.C_drew HR910_0.out)
                                                              have n3_ := Aside0.mk (below_drew1 HB.out)
                                                              clear HO_6
                                                              clear HL910_0
                                                              clear HR910_0
                                                              clear HB
                                                              have HO_6 := n0_
                                                              have HL910_0 := n1_
                                                              have HR910_0 := n2_
                                                              have HB := n3_
                                                              clear n0_ n1_ n2_ n3_
                                                              have p912 : 0 ≤ (x33_2 : Int) := of_decide_eq_true (by first | (with_reducible assumption) | assumption)
                                                              have q912 : x33_2 < (x6_3.length : Int) := of_decide_eq_true (by first | (with_reducible assumption) | assumption)
                                                              obtain ⟨ad912, A912_0, c912_0, e912, hx912_0, hl912_0, hi912_0⟩ := at_L1 (Kd.S_reads' HO_6.out).2.2 x33_2 p912 q912
                                                              obtain rfl : (⟨go22, 0, none⟩ : Addr) = ad912 := (by injection e912)
                                                              obtain ⟨ce912, hce912, hMe912, hcc912⟩ := Kd.S_get HO_6.out [] x33_2 p912 (by first | exact q912 | exact of_decide_eq_true (by first | (with_reducible assumption) | assumption) | (have e_ := (Kd.S_reads' HO_6.out).1; omega))
                                                              obtain ⟨ve912_0, rfl, ge912_0⟩ := hMe912
                                                              have hv912_0 := hcc912 0 _ rfl
                                                              rw [Nat.add_zero, show ((Kd.slice 2 (Kd.int .i64))).sz = 1 from rfl, Nat.mul_one] at hv912_0
                                                              replace hv912_0 := Option.some.inj (hv912_0.symm.trans hx912_0)
                                                              rw [hv912_0] at ge912_0
                                                              have HL912_0 := Aside0.mk (show Kd.R (Kd.int .i64) 2 _ _ _ _ (rd_L1 x6_3 x33_2) from ge912_0)
                                                              clear hv912_0 ge912_0
                                                              have HX912_0 := Aside0.mk hx912_0
                                                              clear hcc912 hce912
                                                              (first | simp only [add_plain] at hx912_0 | simp only [add_at] at hx912_0 | simp only [Addr.add, Nat.zero_add] at hx912_0 | skip)
                                                              have HR912_0 := Aside0.mk hi912_0
                                                              have HC912_0 := Aside0.mk hl912_0
                                                              clear hi912_0 hl912_0
                                                              replace p912 := eq_true p912
                                                              replace q912 := eq_true q912
                                                              have p913 : 0 ≤ (x33_2 : Int) := of_decide_eq_true (by first | (with_reducible assumption) | assumption)
                                                              have q913 : x33_2 < (l0.length : Int) := of_decide_eq_true (by first | (with_reducible assumption) | assumption)
                                                              obtain ⟨ad913, e913, hx913_0⟩ := Kd.at_int HR0.out x33_2 p913 q913
                                                              have hw913_0 := hx913_0
                                                              cases e913
                                                              replace hx913_0 := (HB.out.cell (World.block_lt_of_cell? w _ hx913_0)).trans hx913_0
                                                              replace p913 := eq_true p913
                                                              replace q913 := eq_true q913
                                                              have p914 : 0 ≤ (x44_3 : Int) := of_decide_eq_true (by first | (with_reducible assumption) | assumption)
                                                              have q914 : x44_3 < (l1.length : Int) := of_decide_eq_true (by first | (with_reducible assumption) | assumption)
                                                              obtain ⟨ad914, e914, hx914_0⟩ := Kd.at_int HR1.out x44_3 p914 q914
                                                              have hw914_0 := hx914_0
                                                              cases e914
                                                              replace hx914_0 := (HB.out.cell (World.block_lt_of_cell? w _ hx914_0)).trans hx914_0
                                                              replace p914 := eq_true p914
                                                              replace q914 := eq_true q914
                                                              refine start_ (n := 19) (S := fun w' => w'.cell? ⟨go22, (x33_2).toNat, none⟩ = some (.slice A912_0 (rd_L1 x6_3 x33_2).length c912_0) ∧ w'.cell? (ad913.add (x33_2).toNat) = some (.int .i64 (rd l0 x33_2)) ∧ w'.cell? (ad914.add (x44_3).toNat) = some (.int .i64 (rd l1 x44_3))) (ds := [18]) impl_WarpDistance.K28 (by kernel_rfl) rfl rfl ⟨hx912_0, ((HB.out.cell (World.block_lt_of_cell? w _ hw913_0)).trans hw913_0), ((HB.out.cell (World.block_lt_of_cell? w _ hw914_0)).trans hw914_0)⟩ (fun hHeld => ?_); refine with_tabW impl_WarpDistance.tab20 impl_WarpDistance.bits20 (fun HT_ HW_ => ?_)
                                                              generalize wc.drew = w83 at HO_6 HL910_0 HR910_0 HB HL912_0 HR912_0 HX912_0 hx912_0 hx913_0 hx914_0 hHeld ⊢
                                                              refine pure_ (i := 0) (N := some 102) (v := ?_) (a' := ?_) impl_WarpDistance.K29 rfl rfl (any_of HT_.out (by kernel_rfl)) (fun _ _ _ h => h) (Or.inl ⟨by rfl, ?_⟩) ?_ ?_
                                                              rotate_left
                                                              · intro w'
                                                                go_simp
                                                                with_reducible rfl
                                                              rotate_left
                                                              · simp only [Act.put, List.setIfInBounds_toArray, List.set_cons_zero, List.set_cons_succ, i64_w, i32_w]
                                                                rfl
                                                              refine pure_ (i := 1) (N := some 103) (v := ?_) (a' := ?_) impl_WarpDistance.K30 rfl rfl (any_of HT_.out (by kernel_rfl)) (fun _ _ _ h => h) (Or.inl ⟨by rfl, ?_⟩) ?_ ?_
                                                              rotate_left
                                                              · intro w'
                                                                go_simp
                                                                with_reducible rfl
                                                              rotate_left
                                                              · simp only [Act.put, List.setIfInBounds_toArray, List.set_cons_zero, List.set_cons_succ, i64_w, i32_w]
                                                                rfl
                                                              refine pure_ (i := 2) (N := some 104) (v := ?_) (a' := ?_) impl_WarpDistance.K31 rfl rfl (any_of HT_.out (by kernel_rfl)) (fun _ _ _ h => h) (Or.inl ⟨by rfl, ?_⟩) ?_ ?_
                                                              rotate_left
                                                              · intro w'
                                                                go_simp
                                                                with_reducible rfl
                                                              rotate_left
                                                              · simp only [Act.put, List.setIfInBounds_toArray, List.set_cons_zero, List.set_cons_succ, i64_w, i32_w]
                                                                rfl
                                                              refine pure_ (i := 4) (N := some 106) (v := ?_) (a' := ?_) impl_WarpDistance.K32 rfl rfl (any_of HT_.out (by kernel_rfl)) (fun _ _ _ h => h) (Or.inl ⟨by rfl, ?_⟩) ?_ ?_
                                                              rotate_left
                                                              · intro w'
                                                                go_simp
                                                                with_reducible rfl
                                                              rotate_left
                                                              · simp only [Act.put, List.setIfInBounds_toArray, List.set_cons_zero, List.set_cons_succ, i64_w, i32_w]
                                                                rfl
                                                              refine pure_ (i := 5) (N := some 107) (v := ?_) (a' := ?_) impl_WarpDistance.K33 rfl rfl (any_of HT_.out (by kernel_rfl)) (fun _ _ _ h => h) (Or.inl ⟨by rfl, ?_⟩) ?_ ?_
                                                              rotate_left
                                                              · intro w'
                                                                go_simp
                                                                with_reducible rfl
                                                              rotate_left
                                                              · simp only [Act.put, List.setIfInBounds_toArray, List.set_cons_zero, List.set_cons_succ, i64_w, i32_w]
                                                                rfl
                                                              refine pure_ (i := 6) (N := some 108) (v := ?_) (a' := ?_) impl_WarpDistance.K34 rfl rfl (any_of HT_.out (by kernel_rfl)) (fun _ _ _ h => h) (Or.inl ⟨by rfl, ?_⟩) ?_ ?_
                                                              rotate_left
                                                              · intro w'
                                                                go_simp
                                                                with_reducible rfl
                                                              rotate_left
                                                              · simp only [Act.put, List.setIfInBounds_toArray, List.set_cons_zero, List.set_cons_succ, i64_w, i32_w]
                                                                rfl
                                                              refine pure_ (i := 7) (N := some 109) (v := ?_) (a' := ?_) impl_WarpDistance.K35 rfl rfl (any_of HT_.out (by kernel_rfl)) (fun _ _ _ h => h) (Or.inl ⟨by rfl, ?_⟩) ?_ ?_
                                                              rotate_left
                                                              · intro w'
                                                                go_simp
                                                                with_reducible rfl
                                                              rotate_left
                                                              · simp only [Act.put, List.setIfInBounds_toArray, List.set_cons_zero, List.set_cons_succ, i64_w, i32_w]
                                                                rfl
                                                              refine pure_ (i := 8) (N := some 110) (v := ?_) (a' := ?_) impl_WarpDistance.K36 rfl rfl (any_of HT_.out (by kernel_rfl)) (fun _ _ _ h => h) (Or.inl ⟨by rfl, ?_⟩) ?_ ?_
                                                              rotate_left
                                                              · intro w'
                                                                go_simp
                                                                with_reducible rfl
                                                              rotate_left
                                                              · simp only [Act.put, List.setIfInBounds_toArray, List.set_cons_zero, List.set_cons_succ, i64_w, i32_w]
                                                                rfl
                                                              refine pure_ (i := 10) (N := some 112) (v := ?_) (a' := ?_) impl_WarpDistance.K37 rfl rfl (any_of HT_.out (by kernel_rfl)) (fun _ _ _ h => h) (Or.inl ⟨by rfl, ?_⟩) ?_ ?_
                                                              rotate_left
                                                              · intro w'
                                                                go_simp
                                                                with_reducible rfl
                                                              rotate_left
                                                              · simp only [Act.put, List.setIfInBounds_toArray, List.set_cons_zero, List.set_cons_succ, i64_w, i32_w]
                                                                rfl
                                                              refine pure_ (i := 11) (N := some 113) (v := ?_) (a' := ?_) impl_WarpDistance.K38 rfl rfl (any_of HT_.out (by kernel_rfl)) (fun _ _ _ h => h) (Or.inl ⟨by rfl, ?_⟩) ?_ ?_
                                                              rotate_left
                                                              · intro w'
                                                                go_simp
                                                                with_reducible rfl
                                                              rotate_left
                                                              · simp only [Act.put, List.setIfInBounds_toArray, List.set_cons_zero, List.set_cons_succ, i64_w, i32_w]
                                                                rfl
                                                              refine pure_ (i := 12) (N := some 114) (v := ?_) (a' := ?_) impl_WarpDistance.K39 rfl rfl (any_of HT_.out (by kernel_rfl)) (fun _ _ _ h => h) (Or.inl ⟨by rfl, ?_⟩) ?_ ?_
                                                              rotate_left
                                                              · intro w'
                                                                go_simp
                                                                with_reducible rfl
                                                              rotate_left
                                                              · simp only [Act.put, List.setIfInBounds_toArray, List.set_cons_zero, List.set_cons_succ, i64_w, i32_w]
                                                                rfl
                                                              refine take_ (i := 3) (N := some 105) (v := ?_) (a' := ?_) impl_WarpDistance.K40 rfl rfl (take_ofW HT_.out HW_.out (by kernel_rfl)) (fun _ _ _ h => h) (Or.inl ⟨by rfl, ?_⟩) hHeld ?_ ?_
                                                              rotate_left
                                                              · rintro w' ⟨s0, s1, s2⟩
                                                                go_simp
                                                                with_reducible rfl
                                                              rotate_left
                                                              · simp only [Act.put, List.setIfInBounds_toArray, List.set_cons_zero, List.set_cons_succ, i64_w, i32_w]
                                                                rfl
                                                              refine take_ (i := 9) (N := some 111) (v := ?_) (a' := ?_) impl_WarpDistance.K41 rfl rfl (take_ofW HT_.out HW_.out (by kernel_rfl)) (fun _ _ _ h => h) (Or.inl ⟨by rfl, ?_⟩) hHeld ?_ ?_
                                                              rotate_left
                                                              · rintro w' ⟨s0, s1, s2⟩
                                                                go_simp
                                                                with_reducible rfl
                                                              rotate_left
                                                              · simp only [Act.put, List.setIfInBounds_toArray, List.set_cons_zero, List.set_cons_succ, i64_w, i32_w]
                                                                rfl
                                                              refine take_ (i := 13) (N := some 115) (v := ?_) (a' := ?_) impl_WarpDistance.K42 rfl rfl (take_ofW HT_.out HW_.out (by kernel_rfl)) (fun _ _ _ h => h) (Or.inl ⟨by rfl, ?_⟩) hHeld ?_ ?_
                                                              rotate_left
                                                              · rintro w' ⟨s0, s1, s2⟩
                                                                go_simp
                                                                with_reducible rfl
                                                              rotate_left
                                                              · simp only [Act.put, List.setIfInBounds_toArray, List.set_cons_zero, List.set_cons_succ, i64_w, i32_w]
                                                                rfl
                                                              refine pure_ (i := 14) (N := some 116) (v := ?_) (a' := ?_) impl_WarpDistance.K43 rfl rfl (any_of HT_.out (by kernel_rfl)) (fun _ _ _ h => h) (Or.inl ⟨by rfl, ?_⟩) ?_ ?_
                                                              rotate_left
                                                              · intro w'
                                                                go_simp
                                                                with_reducible rfl
                                                              rotate_left
                                                              · simp only [Act.put, List.setIfInBounds_toArray, List.set_cons_zero, List.set_cons_succ, i64_w, i32_w]
                                                                rfl
                                                              refine one_ (i := 15) (N := some 117) impl_WarpDistance.K44 rfl rfl (one_of HT_.out (by kernel_rfl)) (by decide) (fun K hK => ?_)
                                                              refine goes_ Try.func74 (by kernel_rfl) rfl #[.int .i64 (wrap64 ((rd l0 x33_2) - (rd l1 x44_3)))] (by rfl) rfl rfl (by (try simp only [List.map_toArray, List.map_cons, List.map_nil]); first | done | rfl | (simp only [List.length_drop, List.length_take]; rfl)) ?_
                                                              with_reducible refine (impl_abs.calls (wrap64 ((rd l0 x33_2) - (rd l1 x44_3))) t915 _ A80.out).mono ?_
                                                              rintro e w84 ⟨rfl, hb⟩
                                                              have HS0_ := (hb.cell (World.block_lt_of_cell? _ _ (hHeld.1))).trans (hHeld.1)
                                                              refine ⟨_, rfl, ?_⟩
                                                              have n0_ := Aside0.mk (Kd.S_below (by (with_reducible repeat (first | apply Kd.S_alloc | apply Kd.S_drewN | apply Kd.S_drew)); exact HO_6.out) hb)
                                                              have n1_ := Aside0.mk (Kd.R_below (by (with_reducible repeat (first | apply Kd.R_alloc | apply Kd.R_drewN | apply Kd.R_drew)); exact HL910_0.out) hb)
                                                              have n2_ := Aside0.mk (Kd.R_below (by (with_reducible repeat (first | apply Kd.R_alloc | apply Kd.R_drewN | apply Kd.R_drew)); exact HL912_0.out) hb)
                                                              have n3_ := Aside0.mk (Kd.C_below (by repeat (first | (with_reducible exact HR910_0.out) | (with_reducible refine Kd.C_alloc ?_ _) | (with_reducible refine Kd.C_drewN ?_ _) | (with_reducible refine Kd.C_drew ?_) | exact HR910_0.out)) hb)
                                                              have n4_ := Aside0.mk (Kd.C_below (by repeat (first | (with_reducible exact HR912_0.out) | (with_reducible refine Kd.C_alloc ?_ _) | (with_reducible refine Kd.C_drewN ?_ _) | (with_reducible refine Kd.C_drew ?_) | exact HR912_0.out)) hb)
                                                              have n5_ := Aside0.mk (pw_cell_below hb HX912_0.out)
                                                              have n6_ := Aside0.mk (below_step (by repeat (first | (with_reducible first | exact HB.out | apply below_alloc | apply pw_below_drewN | apply below_drew1) | exact HB.out)) hb)
                                                              clear HO_6
                                                              clear HL910_0
                                                              clear HL912_0
                                                              clear HR910_0
                                                              clear HR912_0
                                                              clear HX912_0
                                                              clear HB
                                                              have HO_6 := n0_
                                                              have HL910_0 := n1_
                                                              have HL912_0 := n2_
                                                              have HR910_0 := n3_
                                                              have HR912_0 := n4_
                                                              have HX912_0 := n5_
                                                              have HB := n6_
                                                              clear n0_ n1_ n2_ n3_ n4_ n5_ n6_
                                                              (try clear hb)
                                                              (try clear hb2)
                                                              (try clear hk)
                                                              (try clear hi)
                                                              have p82 : 0 ≤ (x44_3 : Int) := of_decide_eq_true (by first | (with_reducible assumption) | assumption)
                                                              have q82 : (x44_3 : Int) < (((rd_L1 x6_3 x33_2).length : Int) : Int) := of_decide_eq_true (by first | (with_reducible assumption) | assumption)
                                                              obtain ⟨go82, co82, eo82, gb82, gl82, cl82, HG82⟩ := Kd.R_form HL912_0.out (by omega)
                                                              (first | cases eo82 | (injection eo82 with ea_ en_ ec_; (first | subst ea_ | (injection ea_ with ea_; subst ea_)); subst ec_; clear en_))
                                                              have GB82 := Aside0.mk gb82
                                                              have GG82 := Aside0.mk HG82
                                                              clear gb82 gl82 HG82
                                                              obtain ⟨hx82_0, hf82_0⟩ := Kd.R_celln 0 HL912_0.out (x44_3 : Int) p82 q82
                                                              replace p82 := eq_true p82
                                                              replace q82 := eq_true q82
                                                              have hq85 : (x33_2 : Int) < (x6_3.length : Int) := (by have h_ : (x33_2 : Int) < ((x6_3.length : Int) : Int) := of_decide_eq_true (by first | (with_reducible assumption) | assumption); first | exact h_ | (have e_ := (Kd.S_reads' HO_6.out).1; omega) | simpa only [List.length_set, List.length_set] using h_)
                                                              obtain ⟨oki85, ce85, hcl85, hM85, hcc85, hok85, hbk85⟩ := Kd.S_borrow HO_6.out [] (x33_2 : Int) (of_decide_eq_true (by first | (with_reducible assumption) | assumption)) hq85
                                                              obtain ⟨ve85_0, rfl, ge85_0⟩ := hM85
                                                              have hv85 := hcc85 0 _ rfl
                                                              rw [Nat.add_zero, show ((Kd.slice 2 (Kd.int .i64))).sz = 1 from rfl, Nat.mul_one] at hv85
                                                              replace hv85 := Option.some.inj (hv85.symm.trans HX912_0.out)
                                                              subst hv85
                                                              clear hcc85 hcl85
                                                              replace ge85_0 := (show Kd.R (Kd.int .i64) 2 _ _ _ _ (rd_L1 x6_3 x33_2) from ge85_0)
                                                              have HP85 := Kd.R_putg ge85_0 (x44_3 : Int) (wrap64 ((rd (rd_L1 x6_3 x33_2) (ji74)) + t915))
                                                              rw [← Ny916.out] at HP85
                                                              have HS85 := hbk85 HP85.2 (fun k_ e_ => by injection e_ with e_; subst e_; exact ge85_0.1 _ rfl) (x' := y916) (Kd.M_row HP85.1)
                                                              rw [← Ny918.out] at HS85
                                                              have HQ85 := Aside0.mk HS85
                                                              clear HP85 HS85 hbk85 hok85
                                                              refine hK.out _ _ ⟨HS0_, ((HB.out.cell (World.block_lt_of_cell? w _ hw913_0)).trans hw913_0), ((HB.out.cell (World.block_lt_of_cell? w _ hw914_0)).trans hw914_0)⟩ (fun hHeld => ?_)
                                                              clear hK K
                                                              refine norm_ (a' := ?_) ?_ ?_
                                                              rotate_left
                                                              · show Act.put _ (some 117) _ = _
                                                                simp only [Act.put, List.setIfInBounds_toArray, List.set_cons_zero, List.set_cons_succ, i64_w, i32_w]
                                                                rfl
                                                              refine pure_ (i := 16) (N := some 118) (v := ?_) (a' := ?_) impl_WarpDistance.K45 rfl rfl (any_of HT_.out (by kernel_rfl)) (fun _ _ _ h => h) (Or.inl ⟨by rfl, ?_⟩) ?_ ?_
                                                              rotate_left
                                                              · intro w'
                                                                go_simp
                                                                with_reducible rfl
                                                              rotate_left
                                                              · simp only [Act.put, List.setIfInBounds_toArray, List.set_cons_zero, List.set_cons_succ, i64_w, i32_w]
                                                                rfl
                                                              refine pure_ (i := 17) (N := some 119) (v := ?_) (a' := ?_) impl_WarpDistance.K46 rfl rfl (any_of HT_.out (by kernel_rfl)) (fun _ _ _ h => h) (Or.inl ⟨by rfl, ?_⟩) ?_ ?_
                                                              rotate_left
                                                              · intro w'
                                                                go_simp
                                                                with_reducible rfl
                                                              rotate_left
                                                              · simp only [Act.put, List.setIfInBounds_toArray, List.set_cons_zero, List.set_cons_succ, i64_w, i32_w]
                                                                rfl
                                                              refine last_ (i := 18) (N := none) impl_WarpDistance.K47 rfl rfl (one_of HT_.out (by kernel_rfl)) (by decide) (fun K hK => ?_)
                                                              refine skip_ (w1 := ?_) (by rfl) rfl ?_ ?_
                                                              rotate_left
                                                              · go_simp
                                                                rfl
                                                              refine hK.out _ _ ?_
                                                              clear hK K
                                                              refine done_ (done_of HT_.out (by kernel_rfl)) ?_
                                                              try go_wp2
                                                              (try simp only [← hl6_3])
                                                              go_roundg kj27
                                                              case measure => have := HJ2.out; have := HK2.out; have := HK3.out; have := HJ27.out; omega
                                                              case rel => exact ⟨(y918), (wrap64 (x44_3 + 1)), (by first | rfl | (simp; done) | (simp [*]; done)), H', ⟨by have := HJ2.out; have := HK2.out; have := HK3.out; have := HJ27.out; omega⟩, ⟨by (try simp only [hl6_3]); (with_reducible repeat (first | apply Kd.S_alloc | apply Kd.S_drewN | apply Kd.S_drew)); first | exact HQ85.out | (have z_ := HQ85.out; simp only [Int.zero_add] at z_; exact z_)⟩, ⟨by repeat (first | (with_reducible first | exact HB.out | apply below_alloc | apply pw_below_drewN | apply below_drew1 | refine below_set ?_ GB82.out) | exact HB.out)⟩⟩
                                                            · rw [if_neg c81] at H
                                                              exact absurd H (by simp)
                                                          · rw [if_neg c79] at H
                                                            exact absurd H (by simp)
                                                        · rw [if_neg c78] at H
                                                          exact absurd H (by simp)
                                                      · rw [if_neg c77] at H
                                                        exact absurd H (by simp)
                                                    · rw [if_neg c76] at H
                                                      exact absurd H (by simp)
                                                  · rw [if_neg c75] at H
                                                    exact absurd H (by simp)
                                                · rw [if_neg c73] at H
                                                  exact absurd H (by simp)
                                              · rw [if_neg c72] at H
                                                exact absurd H (by simp)
                                            · rw [if_neg c71] at H
                                              have c71b0 : decide (0 < x44_3) = false := decide_eq_false c71
                                              have c71b2 := c71b0; (try simp only [hl6_3] at c71b2)
                                              clear c71
                                              by_cases c87 : 0 ≤ x33_2
                                              · rw [if_pos c87] at H
                                                have c87b0 : decide (0 ≤ x33_2) = true := decide_eq_true c87
                                                have c87b2 := c87b0; (try simp only [hl6_3] at c87b2)
                                                clear c87
                                                by_cases c88 : x33_2 < (x6_3.length : Int)
                                                · rw [if_pos c88] at H
                                                  have c88b0 : decide (x33_2 < (x6_3.length : Int)) = true := decide_eq_true c88
                                                  have c88b2 := c88b0; (try simp only [hl6_3] at c88b2)
                                                  clear c88
                                                  by_cases c89 : x33_2 < (l0.length : Int)
                                                  · rw [if_pos c89] at H
                                                    have c89b0 : decide (x33_2 < (l0.length : Int)) = true := decide_eq_true c89
                                                    have c89b2 := c89b0; (try simp only [hl6_3] at c89b2)
                                                    clear c89
                                                    by_cases c90 : 0 ≤ x44_3
                                                    · rw [if_pos c90] at H
                                                      have c90b0 : decide (0 ≤ x44_3) = true := decide_eq_true c90
                                                      have c90b2 := c90b0; (try simp only [hl6_3] at c90b2)
                                                      clear c90
                                                      by_cases c91 : x44_3 < (l1.length : Int)
                                                      · rw [if_pos c91] at H
                                                        have c91b0 : decide (x44_3 < (l1.length : Int)) = true := decide_eq_true c91
                                                        have c91b2 := c91b0; (try simp only [hl6_3] at c91b2)
                                                        clear c91
                                                        replace H := Option.bind_eq_some_iff.mp H
                                                        obtain ⟨t922, A920, H⟩ := H
                                                        replace H : (if x44_3 < ((rd_L1 x6_3 x33_2).length : Int) then (impl_WarpDistance.l1 kj27 l0 l1 (x6_3.set (x33_2 : Int).toNat ((rd_L1 x6_3 x33_2).set (x44_3 : Int).toNat (wrap64 (0 + t922)))) x33_2 (l0.length : Int) x33_2 (l1.length : Int) (wrap64 (x44_3 + 1))) else (none)) = some (r1, r2) := H
                                                        have A92 := Aside0.mk A920
                                                        clear A920
                                                        by_cases c93 : x44_3 < ((rd_L1 x6_3 x33_2).length : Int)
                                                        · rw [if_pos c93] at H
                                                          have c93b0 : decide (x44_3 < ((rd_L1 x6_3 x33_2).length : Int)) = true := decide_eq_true c93
                                                          have c93b2 := c93b0; (try simp only [hl6_3] at c93b2)
                                                          clear c93
                                                          obtain ⟨y923, hy923⟩ : ∃ y_ : List Int, y_ = ((rd_L1 x6_3 x33_2).set (x44_3 : Int).toNat (wrap64 (0 + t922))) := ⟨_, rfl⟩
                                                          replace H : (impl_WarpDistance.l1 kj27 l0 l1 (x6_3.set (x33_2 : Int).toNat y923) x33_2 (l0.length : Int) x33_2 (l1.length : Int) (wrap64 (x44_3 + 1))) = some (r1, r2) := by first | (rw [hy923]; with_reducible exact H) | (have H2_ := (Option.bind_some _ _).symm.trans H; rw [hy923]; with_reducible exact H2_) | (have H2_ := (Option.bind_some _ _).symm.trans H; with_reducible exact H2_) | with_reducible exact H | (rw [hy923]; exact H) | exact H
                                                          have Ny923 := Aside0.mk hy923
                                                          clear hy923
                                                          obtain ⟨y925, hy925⟩ : ∃ y_ : List (List Int), y_ = (x6_3.set (x33_2 : Int).toNat y923) := ⟨_, rfl⟩
                                                          replace H : (impl_WarpDistance.l1 kj27 l0 l1 y925 x33_2 (l0.length : Int) x33_2 (l1.length : Int) (wrap64 (x44_3 + 1))) = some (r1, r2) := by first | (rw [hy925]; with_reducible exact H) | (have H2_ := (Option.bind_some _ _).symm.trans H; rw [hy925]; with_reducible exact H2_) | (have H2_ := (Option.bind_some _ _).symm.trans H; with_reducible exact H2_) | with_reducible exact H | (rw [hy925]; exact H) | exact H
                                                          have Ny925 := Aside0.mk hy925
                                                          clear hy925
                                                          have H' := Aside0.mk H
                                                          clear H
                                                          try go_wp2
                                                          have n0_ := Aside0.mk (Kd.S_drew HO_6.out)
                                                          have n1_ := Aside0.mk (below_drew1 HB.out)
                                                          clear HO_6
                                                          clear HB
                                                          have HO_6 := n0_
                                                          have HB := n1_
                                                          clear n0_ n1_
                                                          have p919 : 0 ≤ (x33_2 : Int) := of_decide_eq_true (by first | (with_reducible assumption) | assumption)
                                                          have q919 : x33_2 < (x6_3.length : Int) := of_decide_eq_true (by first | (with_reducible assumption) | assumption)
                                                          obtain ⟨ad919, A919_0, c919_0, e919, hx919_0, hl919_0, hi919_0⟩ := at_L1 (Kd.S_reads' HO_6.out).2.2 x33_2 p919 q919
                                                          obtain rfl : (⟨go22, 0, none⟩ : Addr) = ad919 := (by injection e919)
                                                          obtain ⟨ce919, hce919, hMe919, hcc919⟩ := Kd.S_get HO_6.out [] x33_2 p919 (by first | exact q919 | exact of_decide_eq_true (by first | (with_reducible assumption) | assumption) | (have e_ := (Kd.S_reads' HO_6.out).1; omega))
                                                          obtain ⟨ve919_0, rfl, ge919_0⟩ := hMe919
                                                          have hv919_0 := hcc919 0 _ rfl
                                                          rw [Nat.add_zero, show ((Kd.slice 2 (Kd.int .i64))).sz = 1 from rfl, Nat.mul_one] at hv919_0
                                                          replace hv919_0 := Option.some.inj (hv919_0.symm.trans hx919_0)
                                                          rw [hv919_0] at ge919_0
                                                          have HL919_0 := Aside0.mk (show Kd.R (Kd.int .i64) 2 _ _ _ _ (rd_L1 x6_3 x33_2) from ge919_0)
                                                          clear hv919_0 ge919_0
                                                          have HX919_0 := Aside0.mk hx919_0
                                                          clear hcc919 hce919
                                                          (first | simp only [add_plain] at hx919_0 | simp only [add_at] at hx919_0 | simp only [Addr.add, Nat.zero_add] at hx919_0 | skip)
                                                          have HR919_0 := Aside0.mk hi919_0
                                                          have HC919_0 := Aside0.mk hl919_0
                                                          clear hi919_0 hl919_0
                                                          replace p919 := eq_true p919
                                                          replace q919 := eq_true q919
                                                          have p920 : 0 ≤ (x33_2 : Int) := of_decide_eq_true (by first | (with_reducible assumption) | assumption)
                                                          have q920 : x33_2 < (l0.length : Int) := of_decide_eq_true (by first | (with_reducible assumption) | assumption)
                                                          obtain ⟨ad920, e920, hx920_0⟩ := Kd.at_int HR0.out x33_2 p920 q920
                                                          have hw920_0 := hx920_0
                                                          cases e920
                                                          replace hx920_0 := (HB.out.cell (World.block_lt_of_cell? w _ hx920_0)).trans hx920_0
                                                          replace p920 := eq_true p920
                                                          replace q920 := eq_true q920
                                                          have p921 : 0 ≤ (x44_3 : Int) := of_decide_eq_true (by first | (with_reducible assumption) | assumption)
                                                          have q921 : x44_3 < (l1.length : Int) := of_decide_eq_true (by first | (with_reducible assumption) | assumption)
                                                          obtain ⟨ad921, e921, hx921_0⟩ := Kd.at_int HR1.out x44_3 p921 q921
                                                          have hw921_0 := hx921_0
                                                          cases e921
                                                          replace hx921_0 := (HB.out.cell (World.block_lt_of_cell? w _ hx921_0)).trans hx921_0
                                                          replace p921 := eq_true p921
                                                          replace q921 := eq_true q921
                                                          refine start_ (n := 19) (S := fun w' => w'.cell? ⟨go22, (x33_2).toNat, none⟩ = some (.slice A919_0 (rd_L1 x6_3 x33_2).length c919_0) ∧ w'.cell? (ad920.add (x33_2).toNat) = some (.int .i64 (rd l0 x33_2)) ∧ w'.cell? (ad921.add (x44_3).toNat) = some (.int .i64 (rd l1 x44_3))) (ds := [18]) impl_WarpDistance.K28 (by kernel_rfl) rfl rfl ⟨hx919_0, ((HB.out.cell (World.block_lt_of_cell? w _ hw920_0)).trans hw920_0), ((HB.out.cell (World.block_lt_of_cell? w _ hw921_0)).trans hw921_0)⟩ (fun hHeld => ?_); refine with_tabW impl_WarpDistance.tab20 impl_WarpDistance.bits20 (fun HT_ HW_ => ?_)
                                                          generalize wc.drew = w95 at HO_6 HB HL919_0 HR919_0 HX919_0 hx919_0 hx920_0 hx921_0 hHeld ⊢
                                                          refine pure_ (i := 0) (N := some 102) (v := ?_) (a' := ?_) impl_WarpDistance.K29 rfl rfl (any_of HT_.out (by kernel_rfl)) (fun _ _ _ h => h) (Or.inl ⟨by rfl, ?_⟩) ?_ ?_
                                                          rotate_left
                                                          · intro w'
                                                            go_simp
                                                            with_reducible rfl
                                                          rotate_left
                                                          · simp only [Act.put, List.setIfInBounds_toArray, List.set_cons_zero, List.set_cons_succ, i64_w, i32_w]
                                                            rfl
                                                          refine pure_ (i := 1) (N := some 103) (v := ?_) (a' := ?_) impl_WarpDistance.K30 rfl rfl (any_of HT_.out (by kernel_rfl)) (fun _ _ _ h => h) (Or.inl ⟨by rfl, ?_⟩) ?_ ?_
                                                          rotate_left
                                                          · intro w'
                                                            go_simp
                                                            with_reducible rfl
                                                          rotate_left
                                                          · simp only [Act.put, List.setIfInBounds_toArray, List.set_cons_zero, List.set_cons_succ, i64_w, i32_w]
                                                            rfl
                                                          refine pure_ (i := 2) (N := some 104) (v := ?_) (a' := ?_) impl_WarpDistance.K31 rfl rfl (any_of HT_.out (by kernel_rfl)) (fun _ _ _ h => h) (Or.inl ⟨by rfl, ?_⟩) ?_ ?_
                                                          rotate_left
                                                          · intro w'
                                                            go_simp
                                                            with_reducible rfl
                                                          rotate_left
                                                          · simp only [Act.put, List.setIfInBounds_toArray, List.set_cons_zero, List.set_cons_succ, i64_w, i32_w]
                                                            rfl
                                                          refine pure_ (i := 4) (N := some 106) (v := ?_) (a' := ?_) impl_WarpDistance.K32 rfl rfl (any_of HT_.out (by kernel_rfl)) (fun _ _ _ h => h) (Or.inl ⟨by rfl, ?_⟩) ?_ ?_
                                                          rotate_left
                                                          · intro w'
                                                            go_simp
                                                            with_reducible rfl
                                                          rotate_left
                                                          · simp only [Act.put, List.setIfInBounds_toArray, List.set_cons_zero, List.set_cons_succ, i64_w, i32_w]
                                                            rfl
                                                          refine pure_ (i := 5) (N := some 107) (v := ?_) (a' := ?_) impl_WarpDistance.K33 rfl rfl (any_of HT_.out (by kernel_rfl)) (fun _ _ _ h => h) (Or.inl ⟨by rfl, ?_⟩) ?_ ?_
                                                          rotate_left
                                                          · intro w'
                                                            go_simp
                                                            with_reducible rfl
                                                          rotate_left
                                                          · simp only [Act.put, List.setIfInBounds_toArray, List.set_cons_zero, List.set_cons_succ, i64_w, i32_w]
                                                            rfl
                                                          refine pure_ (i := 6) (N := some 108) (v := ?_) (a' := ?_) impl_WarpDistance.K34 rfl rfl (any_of HT_.out (by kernel_rfl)) (fun _ _ _ h => h) (Or.inl ⟨by rfl, ?_⟩) ?_ ?_
                                                          rotate_left
                                                          · intro w'
                                                            go_simp
                                                            with_reducible rfl
                                                          rotate_left
                                                          · simp only [Act.put, List.setIfInBounds_toArray, List.set_cons_zero, List.set_cons_succ, i64_w, i32_w]
                                                            rfl
                                                          refine pure_ (i := 7) (N := some 109) (v := ?_) (a' := ?_) impl_WarpDistance.K35 rfl rfl (any_of HT_.out (by kernel_rfl)) (fun _ _ _ h => h) (Or.inl ⟨by rfl, ?_⟩) ?_ ?_
                                                          rotate_left
                                                          · intro w'
                                                            go_simp
                                                            with_reducible rfl
                                                          rotate_left
                                                          · simp only [Act.put, List.setIfInBounds_toArray, List.set_cons_zero, List.set_cons_succ, i64_w, i32_w]
                                                            rfl
                                                          refine pure_ (i := 8) (N := some 110) (v := ?_) (a' := ?_) impl_WarpDistance.K36 rfl rfl (any_of HT_.out (by kernel_rfl)) (fun _ _ _ h => h) (Or.inl ⟨by rfl, ?_⟩) ?_ ?_
                                                          rotate_left
                                                          · intro w'
                                                            go_simp
                                                            with_reducible rfl
                                                          rotate_left
                                                          · simp only [Act.put, List.setIfInBounds_toArray, List.set_cons_zero, List.set_cons_succ, i64_w, i32_w]
                                                            rfl
                                                          refine pure_ (i := 10) (N := some 112) (v := ?_) (a' := ?_) impl_WarpDistance.K37 rfl rfl (any_of HT_.out (by kernel_rfl)) (fun _ _ _ h => h) (Or.inl ⟨by rfl, ?_⟩) ?_ ?_
                                                          rotate_left
                                                          · intro w'
                                                            go_simp
                                                            with_reducible rfl
                                                          rotate_left
                                                          · simp only [Act.put, List.setIfInBounds_toArray, List.set_cons_zero, List.set_cons_succ, i64_w, i32_w]
                                                            rfl
                                                          refine pure_ (i := 11) (N := some 113) (v := ?_) (a' := ?_) impl_WarpDistance.K38 rfl rfl (any_of HT_.out (by kernel_rfl)) (fun _ _ _ h => h) (Or.inl ⟨by rfl, ?_⟩) ?_ ?_
                                                          rotate_left
                                                          · intro w'
                                                            go_simp
                                                            with_reducible rfl
                                                          rotate_left
                                                          · simp only [Act.put, List.setIfInBounds_toArray, List.set_cons_zero, List.set_cons_succ, i64_w, i32_w]
                                                            rfl
                                                          refine pure_ (i := 12) (N := some 114) (v := ?_) (a' := ?_) impl_WarpDistance.K39 rfl rfl (any_of HT_.out (by kernel_rfl)) (fun _ _ _ h => h) (Or.inl ⟨by rfl, ?_⟩) ?_ ?_
                                                          rotate_left
                                                          · intro w'
                                                            go_simp
                                                            with_reducible rfl
                                                          rotate_left
                                                          · simp only [Act.put, List.setIfInBounds_toArray, List.set_cons_zero, List.set_cons_succ, i64_w, i32_w]
                                                            rfl
                                                          refine take_ (i := 3) (N := some 105) (v := ?_) (a' := ?_) impl_WarpDistance.K40 rfl rfl (take_ofW HT_.out HW_.out (by kernel_rfl)) (fun _ _ _ h => h) (Or.inl ⟨by rfl, ?_⟩) hHeld ?_ ?_
                                                          rotate_left
                                                          · rintro w' ⟨s0, s1, s2⟩
                                                            go_simp
                                                            with_reducible rfl
                                                          rotate_left
                                                          · simp only [Act.put, List.setIfInBounds_toArray, List.set_cons_zero, List.set_cons_succ, i64_w, i32_w]
                                                            rfl
                                                          refine take_ (i := 9) (N := some 111) (v := ?_) (a' := ?_) impl_WarpDistance.K41 rfl rfl (take_ofW HT_.out HW_.out (by kernel_rfl)) (fun _ _ _ h => h) (Or.inl ⟨by rfl, ?_⟩) hHeld ?_ ?_
                                                          rotate_left
                                                          · rintro w' ⟨s0, s1, s2⟩
                                                            go_simp
                                                            with_reducible rfl
                                                          rotate_left
                                                          · simp only [Act.put, List.setIfInBounds_toArray, List.set_cons_zero, List.set_cons_succ, i64_w, i32_w]
                                                            rfl
                                                          refine take_ (i := 13) (N := some 115) (v := ?_) (a' := ?_) impl_WarpDistance.K42 rfl rfl (take_ofW HT_.out HW_.out (by kernel_rfl)) (fun _ _ _ h => h) (Or.inl ⟨by rfl, ?_⟩) hHeld ?_ ?_
                                                          rotate_left
                                                          · rintro w' ⟨s0, s1, s2⟩
                                                            go_simp
                                                            with_reducible rfl
                                                          rotate_left
                                                          · simp only [Act.put, List.setIfInBounds_toArray, List.set_cons_zero, List.set_cons_succ, i64_w, i32_w]
                                                            rfl
                                                          refine pure_ (i := 14) (N := some 116) (v := ?_) (a' := ?_) impl_WarpDistance.K43 rfl rfl (any_of HT_.out (by kernel_rfl)) (fun _ _ _ h => h) (Or.inl ⟨by rfl, ?_⟩) ?_ ?_
                                                          rotate_left
                                                          · intro w'
                                                            go_simp
                                                            with_reducible rfl
                                                          rotate_left
                                                          · simp only [Act.put, List.setIfInBounds_toArray, List.set_cons_zero, List.set_cons_succ, i64_w, i32_w]
                                                            rfl
                                                          refine one_ (i := 15) (N := some 117) impl_WarpDistance.K44 rfl rfl (one_of HT_.out (by kernel_rfl)) (by decide) (fun K hK => ?_)
                                                          refine goes_ Try.func74 (by kernel_rfl) rfl #[.int .i64 (wrap64 ((rd l0 x33_2) - (rd l1 x44_3)))] (by rfl) rfl rfl (by (try simp only [List.map_toArray, List.map_cons, List.map_nil]); first | done | rfl | (simp only [List.length_drop, List.length_take]; rfl)) ?_
                                                          with_reducible refine (impl_abs.calls (wrap64 ((rd l0 x33_2) - (rd l1 x44_3))) t922 _ A92.out).mono ?_
                                                          rintro e w96 ⟨rfl, hb⟩
                                                          have HS0_ := (hb.cell (World.block_lt_of_cell? _ _ (hHeld.1))).trans (hHeld.1)
                                                          refine ⟨_, rfl, ?_⟩
                                                          have n0_ := Aside0.mk (Kd.S_below (by (with_reducible repeat (first | apply Kd.S_alloc | apply Kd.S_drewN | apply Kd.S_drew)); exact HO_6.out) hb)
                                                          have n1_ := Aside0.mk (Kd.R_below (by (with_reducible repeat (first | apply Kd.R_alloc | apply Kd.R_drewN | apply Kd.R_drew)); exact HL919_0.out) hb)
                                                          have n2_ := Aside0.mk (Kd.C_below (by repeat (first | (with_reducible exact HR919_0.out) | (with_reducible refine Kd.C_alloc ?_ _) | (with_reducible refine Kd.C_drewN ?_ _) | (with_reducible refine Kd.C_drew ?_) | exact HR919_0.out)) hb)
                                                          have n3_ := Aside0.mk (pw_cell_below hb HX919_0.out)
                                                          have n4_ := Aside0.mk (below_step (by repeat (first | (with_reducible first | exact HB.out | apply below_alloc | apply pw_below_drewN | apply below_drew1) | exact HB.out)) hb)
                                                          clear HO_6
                                                          clear HL919_0
                                                          clear HR919_0
                                                          clear HX919_0
                                                          clear HB
                                                          have HO_6 := n0_
                                                          have HL919_0 := n1_
                                                          have HR919_0 := n2_
                                                          have HX919_0 := n3_
                                                          have HB := n4_
                                                          clear n0_ n1_ n2_ n3_ n4_
                                                          (try clear hb)
                                                          (try clear hb2)
                                                          (try clear hk)
                                                          (try clear hi)
                                                          have p94 : 0 ≤ (x44_3 : Int) := of_decide_eq_true (by first | (with_reducible assumption) | assumption)
                                                          have q94 : (x44_3 : Int) < (((rd_L1 x6_3 x33_2).length : Int) : Int) := of_decide_eq_true (by first | (with_reducible assumption) | assumption)
                                                          obtain ⟨go94, co94, eo94, gb94, gl94, cl94, HG94⟩ := Kd.R_form HL919_0.out (by omega)
                                                          (first | cases eo94 | (injection eo94 with ea_ en_ ec_; (first | subst ea_ | (injection ea_ with ea_; subst ea_)); subst ec_; clear en_))
                                                          have GB94 := Aside0.mk gb94
                                                          have GG94 := Aside0.mk HG94
                                                          clear gb94 gl94 HG94
                                                          obtain ⟨hx94_0, hf94_0⟩ := Kd.R_celln 0 HL919_0.out (x44_3 : Int) p94 q94
                                                          replace p94 := eq_true p94
                                                          replace q94 := eq_true q94
                                                          have hq97 : (x33_2 : Int) < (x6_3.length : Int) := (by have h_ : (x33_2 : Int) < ((x6_3.length : Int) : Int) := of_decide_eq_true (by first | (with_reducible assumption) | assumption); first | exact h_ | (have e_ := (Kd.S_reads' HO_6.out).1; omega) | simpa only [List.length_set, List.length_set] using h_)
                                                          obtain ⟨oki97, ce97, hcl97, hM97, hcc97, hok97, hbk97⟩ := Kd.S_borrow HO_6.out [] (x33_2 : Int) (of_decide_eq_true (by first | (with_reducible assumption) | assumption)) hq97
                                                          obtain ⟨ve97_0, rfl, ge97_0⟩ := hM97
                                                          have hv97 := hcc97 0 _ rfl
                                                          rw [Nat.add_zero, show ((Kd.slice 2 (Kd.int .i64))).sz = 1 from rfl, Nat.mul_one] at hv97
                                                          replace hv97 := Option.some.inj (hv97.symm.trans HX919_0.out)
                                                          subst hv97
                                                          clear hcc97 hcl97
                                                          replace ge97_0 := (show Kd.R (Kd.int .i64) 2 _ _ _ _ (rd_L1 x6_3 x33_2) from ge97_0)
                                                          have HP97 := Kd.R_putg ge97_0 (x44_3 : Int) (wrap64 (0 + t922))
                                                          rw [← Ny923.out] at HP97
                                                          have HS97 := hbk97 HP97.2 (fun k_ e_ => by injection e_ with e_; subst e_; exact ge97_0.1 _ rfl) (x' := y923) (Kd.M_row HP97.1)
                                                          rw [← Ny925.out] at HS97
                                                          have HQ97 := Aside0.mk HS97
                                                          clear HP97 HS97 hbk97 hok97
                                                          refine hK.out _ _ ⟨HS0_, ((HB.out.cell (World.block_lt_of_cell? w _ hw920_0)).trans hw920_0), ((HB.out.cell (World.block_lt_of_cell? w _ hw921_0)).trans hw921_0)⟩ (fun hHeld => ?_)
                                                          clear hK K
                                                          refine norm_ (a' := ?_) ?_ ?_
                                                          rotate_left
                                                          · show Act.put _ (some 117) _ = _
                                                            simp only [Act.put, List.setIfInBounds_toArray, List.set_cons_zero, List.set_cons_succ, i64_w, i32_w]
                                                            rfl
                                                          refine pure_ (i := 16) (N := some 118) (v := ?_) (a' := ?_) impl_WarpDistance.K45 rfl rfl (any_of HT_.out (by kernel_rfl)) (fun _ _ _ h => h) (Or.inl ⟨by rfl, ?_⟩) ?_ ?_
                                                          rotate_left
                                                          · intro w'
                                                            go_simp
                                                            with_reducible rfl
                                                          rotate_left
                                                          · simp only [Act.put, List.setIfInBounds_toArray, List.set_cons_zero, List.set_cons_succ, i64_w, i32_w]
                                                            rfl
                                                          refine pure_ (i := 17) (N := some 119) (v := ?_) (a' := ?_) impl_WarpDistance.K46 rfl rfl (any_of HT_.out (by kernel_rfl)) (fun _ _ _ h => h) (Or.inl ⟨by rfl, ?_⟩) ?_ ?_
                                                          rotate_left
                                                          · intro w'
                                                            go_simp
                                                            with_reducible rfl
                                                          rotate_left
                                                          · simp only [Act.put, List.setIfInBounds_toArray, List.set_cons_zero, List.set_cons_succ, i64_w, i32_w]
                                                            rfl
                                                          refine last_ (i := 18) (N := none) impl_WarpDistance.K47 rfl rfl (one_of HT_.out (by kernel_rfl)) (by decide) (fun K hK => ?_)
                                                          refine skip_ (w1 := ?_) (by rfl) rfl ?_ ?_
                                                          rotate_left
                                                          · go_simp
                                                            rfl
                                                          refine hK.out _ _ ?_
                                                          clear hK K
                                                          refine done_ (done_of HT_.out (by kernel_rfl)) ?_
                                                          try go_wp2
                                                          (try simp only [← hl6_3])
                                                          go_roundg kj27
                                                          case measure => have := HJ2.out; have := HK2.out; have := HK3.out; have := HJ27.out; omega
                                                          case rel => exact ⟨(y925), (wrap64 (x44_3 + 1)), (by first | rfl | (simp; done) | (simp [*]; done)), H', ⟨by have := HJ2.out; have := HK2.out; have := HK3.out; have := HJ27.out; omega⟩, ⟨by (try simp only [hl6_3]); (with_reducible repeat (first | apply Kd.S_alloc | apply Kd.S_drewN | apply Kd.S_drew)); first | exact HQ97.out | (have z_ := HQ97.out; simp only [Int.zero_add] at z_; exact z_)⟩, ⟨by repeat (first | (with_reducible first | exact HB.out | apply below_alloc | apply pw_below_drewN | apply below_drew1 | refine below_set ?_ GB94.out) | exact HB.out)⟩⟩
                                                        · rw [if_neg c93] at H
                                                          exact absurd H (by simp)
                                                      · rw [if_neg c91] at H
                                                        exact absurd H (by simp)
                                                    · rw [if_neg c90] at H
                                                      exact absurd H (by simp)
                                                  · rw [if_neg c89] at H
                                                    exact absurd H (by simp)
                                                · rw [if_neg c88] at H
                                                  exact absurd H (by simp)
                                              · rw [if_neg c87] at H
                                                exact absurd H (by simp)
                                  · rw [if_neg c27] at H
                                    have c27b0 : decide (x44_3 < (l1.length : Int)) = false := decide_eq_false c27
                                    have c27b2 := c27b0; (try simp only [hl6_3] at c27b2)
                                    clear c27
                                    have H' := Aside0.mk H
                                    clear H
                                    go_wp2
                                    (try simp only [← hl6_3])
                                    go_roundg k3
                                    case measure => have := HJ2.out; have := HK2.out; have := HK3.out; omega
                                    case rel => exact ⟨(x6_3), (wrap64 (x33_2 + 1)), (by first | rfl | (simp; done) | (simp [*]; done)), H', ⟨by have := HJ2.out; have := HK2.out; have := HK3.out; omega⟩, ⟨by (try simp only [hl6_3]); (with_reducible repeat (first | apply Kd.S_alloc | apply Kd.S_drewN | apply Kd.S_drew)); exact HO_6.out⟩, ⟨by repeat (first | (with_reducible first | exact HB.out | apply below_alloc | apply pw_below_drewN | apply below_drew1) | exact HB.out)⟩⟩
                            · rw [if_neg c21] at H
                              exact absurd H (by simp)
                          · rw [if_neg c20] at H
                            exact absurd H (by simp)
                        · rw [if_neg c19] at H
                          exact absurd H (by simp)
                      · rw [if_neg c18] at H
                        exact absurd H (by simp)
                    · rw [if_neg c17] at H
                      have c17b0 : decide (x33_2 < (l0.length : Int)) = false := decide_eq_false c17
                      clear c17
                      obtain ⟨ji99, hji99⟩ : ∃ j_ : Int, (wrap64 ((l0.length : Int) - 1)) = j_ := ⟨_, rfl⟩
                      replace H : (if 0 ≤ (ji99) then (if (ji99) < (x6_2.length : Int) then (if 0 ≤ (wrap64 ((l1.length : Int) - 1)) then (if (wrap64 ((l1.length : Int) - 1)) < ((rd_L1 x6_2 (ji99)).length : Int) then (some (rd (rd_L1 x6_2 (ji99)) (wrap64 ((l1.length : Int) - 1)), 0)) else (none)) else (none)) else (none)) else (none)) = some (r1, r2) := by first | (rw [hji99] at H; exact H) | (simp only [hji99] at H ⊢; exact H)
                      have hji99w : (IntKind.i64.wrap ((l0.length : Int) - 1)) = ji99 := (i64_w _).trans hji99
                      by_cases c100 : 0 ≤ (ji99)
                      · rw [if_pos c100] at H
                        have c100b0 : decide (0 ≤ (ji99)) = true := decide_eq_true c100
                        clear c100
                        by_cases c101 : (ji99) < (x6_2.length : Int)
                        · rw [if_pos c101] at H
                          have c101b0 : decide ((ji99) < (x6_2.length : Int)) = true := decide_eq_true c101
                          clear c101
                          obtain ⟨ji102, hji102⟩ : ∃ j_ : Int, (wrap64 ((l1.length : Int) - 1)) = j_ := ⟨_, rfl⟩
                          replace H : (if 0 ≤ (ji102) then (if (ji102) < ((rd_L1 x6_2 (ji99)).length : Int) then (some (rd (rd_L1 x6_2 (ji99)) (ji102), 0)) else (none)) else (none)) = some (r1, r2) := by first | (rw [hji102] at H; exact H) | (simp only [hji102] at H ⊢; exact H)
                          have hji102w : (IntKind.i64.wrap ((l1.length : Int) - 1)) = ji102 := (i64_w _).trans hji102
                          by_cases c103 : 0 ≤ (ji102)
                          · rw [if_pos c103] at H
                            have c103b0 : decide (0 ≤ (ji102)) = true := decide_eq_true c103
                            clear c103
                            by_cases c104 : (ji102) < ((rd_L1 x6_2 (ji99)).length : Int)
                            · rw [if_pos c104] at H
                              have c104b0 : decide ((ji102) < ((rd_L1 x6_2 (ji99)).length : Int)) = true := decide_eq_true c104
                              clear c104
                              simp only [Option.some.injEq, Prod.mk.injEq] at H
                              obtain ⟨rfl, rfl⟩ := H
                              obtain ⟨Ao105, co105, eo105⟩ := Kd.S_slice HO_6.out
                              subst eo105
                              have p882 : 0 ≤ ((ji99) : Int) := of_decide_eq_true (by first | (with_reducible assumption) | assumption)
                              have q882 : (ji99) < (x6_2.length : Int) := of_decide_eq_true (by first | (with_reducible assumption) | assumption)
                              obtain ⟨ad882, A882_0, c882_0, e882, hx882_0, hl882_0, hi882_0⟩ := at_L1 (Kd.S_reads' HO_6.out).2.2 (ji99) p882 q882
                              cases e882
                              obtain ⟨ce882, hce882, hMe882, hcc882⟩ := Kd.S_get HO_6.out [] (ji99) p882 (by first | exact q882 | exact of_decide_eq_true (by first | (with_reducible assumption) | assumption) | (have e_ := (Kd.S_reads' HO_6.out).1; omega))
                              obtain ⟨ve882_0, rfl, ge882_0⟩ := hMe882
                              have hv882_0 := hcc882 0 _ rfl
                              rw [Nat.add_zero, show ((Kd.slice 2 (Kd.int .i64))).sz = 1 from rfl, Nat.mul_one] at hv882_0
                              replace hv882_0 := Option.some.inj (hv882_0.symm.trans hx882_0)
                              rw [hv882_0] at ge882_0
                              have HL882_0 := Aside0.mk (show Kd.R (Kd.int .i64) 2 _ _ _ _ (rd_L1 x6_2 (ji99)) from ge882_0)
                              clear hv882_0 ge882_0
                              have HX882_0 := Aside0.mk hx882_0
                              clear hcc882 hce882
                              have HR882_0 := Aside0.mk hi882_0
                              have HC882_0 := Aside0.mk hl882_0
                              clear hi882_0 hl882_0
                              replace p882 := eq_true p882
                              replace q882 := eq_true q882
                              have p883 : 0 ≤ ((ji102) : Int) := of_decide_eq_true (by first | (with_reducible assumption) | assumption)
                              have q883 : (ji102) < ((rd_L1 x6_2 (ji99)).length : Int) := of_decide_eq_true (by first | (with_reducible assumption) | assumption)
                              obtain ⟨ad883, e883, hx883_0⟩ := Kd.at_int (by repeat (first | (with_reducible exact HR882_0.out) | (with_reducible refine Kd.C_alloc ?_ _) | (with_reducible refine Kd.C_drewN ?_ _) | (with_reducible refine Kd.C_drew ?_) | exact HR882_0.out)) (ji102) p883 q883
                              cases e883
                              replace p883 := eq_true p883
                              replace q883 := eq_true q883
                              go_wp2
                              go_ret2
                              exact ⟨by first | rfl | (simp [errW_none, errW_some] <;> rfl) | (simp only [← hji99, ← hji102]; first | rfl | (simp [errW_none, errW_some] <;> rfl)) | (simp [*, errW_none, errW_some] <;> rfl), by repeat (first | (with_reducible first | exact HB.out | apply below_alloc | apply pw_below_drewN | apply below_drew1) | exact HB.out)⟩
                            · rw [if_neg c104] at H
                              exact absurd H (by simp)
                          · rw [if_neg c103] at H
                            exact absurd H (by simp)
                        · rw [if_neg c101] at H
                          exact absurd H (by simp)
                      · rw [if_neg c100] at H
                        exact absurd H (by simp)
              · rw [if_neg c14] at H
                exact absurd H (by simp)
            · rw [if_neg c13] at H
              exact absurd H (by simp)

end Go.Proofs.Ytddhommmokdlnaa.P
end
