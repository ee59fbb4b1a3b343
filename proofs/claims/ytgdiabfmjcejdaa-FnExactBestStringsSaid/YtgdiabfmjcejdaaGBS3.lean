/- Texts of this seat, merged: QSlicesSortInt64Int64, QSlicesSymmergecmpfuncInt64, QSlicesStablecmpfuncInt64, QSlicesSortstablefuncInt64Int64. -/
import Derived.Shelf.SlIterI.Nil
import Derived.Shelf.SortM.Plain
import Derived.Shelf.SortM.SortNone
import Derived.Test.YtgdiabfmjcejdaaGBS1
import Derived.Test.YtgdiabfmjcejdaaGBS2
section
namespace Go.Proofs.Ytgdiabfmjcejdaa.P
open Go.RowKit Go.Proofs.YtgdiabfmjcejdaaW.PrintWords Go.Proofs.YtgdiabfmjcejdaaW.PrintLast Go.Proofs.YtgdiabfmjcejdaaW.PrintMore
attribute [local go_sem] max2_int min2_int max_two min_two max_three min_three max_four min_four   -- for this text's walks alone
set_option linter.unusedVariables false
set_option linter.unusedSimpArgs false

/-! ### slices_Sort_int64_int64: function 68 (given) -/
section
open Go.RowKit Go.Maps Go.Sort Go.Shelf Go.Proofs
def laySort_ren : Go.Shelf.Ren := ⟨fun | 5 => 68 | 7 => 99 | 8 => 100 | 10 => 113 | 11 => 114 | 12 => 115 | 13 => 116 | 14 => 117 | 15 => 118 | 16 => 119 | 17 => 120 | 18 => 121 | 19 => 122 | 20 => 123 | 30 => 127 | 31 => 128 | 32 => 129 | 33 => 130 | 34 => 131 | 35 => 98 | 40 => 133 | n => n, fun | 0 => 0 | 3 => 3 | 4 => 4 | 5 => 5 | 9 => 9 | 22 => 22 | 23 => 22 | 25 => 2 | 32 => 114 | 35 => 124 | 36 => 125 | 41 => 129 | 44 => 132 | 46 => 134 | 53 => 137 | 57 => 141 | 63 => 143 | 64 => 144 | n => n, fun | n => n⟩
theorem laySort : SlLaysM.n5 Try.prog laySort_ren := { mixed := by kernel_rfl, f5 := ⟨Try.f68.name, by decide, Try.func68.trans (congrArg some (by kernel_rfl))⟩, f7 := ⟨Try.f99.name, by decide, Try.func99.trans (congrArg some (by kernel_rfl))⟩, f8 := Try.func100.trans (congrArg some (by kernel_rfl)), f10 := ⟨Try.f113.name, by decide, Try.func113.trans (congrArg some (by kernel_rfl))⟩, f11 := ⟨Try.f114.name, by decide, Try.func114.trans (congrArg some (by kernel_rfl))⟩, f12 := ⟨Try.f115.name, by decide, Try.func115.trans (congrArg some (by kernel_rfl))⟩, f13 := ⟨Try.f116.name, by decide, Try.func116.trans (congrArg some (by kernel_rfl))⟩, f14 := ⟨Try.f117.name, by decide, Try.func117.trans (congrArg some (by kernel_rfl))⟩, f15 := ⟨Try.f118.name, by decide, Try.func118.trans (congrArg some (by kernel_rfl))⟩, f16 := ⟨Try.f119.name, by decide, Try.func119.trans (congrArg some (by kernel_rfl))⟩, f17 := ⟨Try.f120.name, by decide, Try.func120.trans (congrArg some (by kernel_rfl))⟩, f18 := ⟨Try.f121.name, by decide, Try.func121.trans (congrArg some (by kernel_rfl))⟩, f19 := Try.func122.trans (congrArg some (by kernel_rfl)), f20 := Try.func123.trans (congrArg some (by kernel_rfl)), f30 := ⟨Try.f127.name, by decide, Try.func127.trans (congrArg some (by kernel_rfl))⟩, f31 := Try.func128.trans (congrArg some (by kernel_rfl)), f32 := Try.func129.trans (congrArg some (by kernel_rfl)), f33 := ⟨Try.f130.name, by decide, Try.func130.trans (congrArg some (by kernel_rfl))⟩, f34 := ⟨Try.f131.name, by decide, Try.func131.trans (congrArg some (by kernel_rfl))⟩, f35 := ⟨Try.f98.name, by decide, Try.func98.trans (congrArg some (by kernel_rfl))⟩, f40 := ⟨Try.f133.name, by decide, Try.func133.trans (congrArg some (by kernel_rfl))⟩, t0 := Try.underlying0, a0 := Try.isAgg0, z0 := Try.sizeOf0, v0 := Try.zeroValue0, t3 := Try.underlying3, a3 := Try.isAgg3, z3 := Try.sizeOf3, v3 := Try.zeroValue3, t4 := Try.underlying4, a4 := Try.isAgg4, z4 := Try.sizeOf4, v4 := Try.zeroValue4, t5 := Try.underlying5, a5 := Try.isAgg5, z5 := Try.sizeOf5, v5 := Try.zeroValue5, t9 := Try.underlying9, a9 := Try.isAgg9, z9 := Try.sizeOf9, v9 := Try.zeroValue9, t22 := Try.underlying22, a22 := Try.isAgg22, z22 := Try.sizeOf22, v22 := Try.zeroValue22, t23 := Try.underlying22, a23 := Try.isAgg22, z23 := Try.sizeOf22, v23 := Try.zeroValue22, t25 := Try.underlying2, a25 := Try.isAgg2, z25 := Try.sizeOf2, v25 := Try.zeroValue2, t32 := Try.underlying114, a32 := Try.isAgg114, z32 := Try.sizeOf114, v32 := Try.zeroValue114, t35 := Try.underlying124, a35 := Try.isAgg124, z35 := Try.sizeOf124, v35 := Try.zeroValue124, t36 := Try.underlying125, a36 := Try.isAgg125, z36 := Try.sizeOf125, v36 := Try.zeroValue125, t41 := Try.underlying129, a41 := Try.isAgg129, z41 := Try.sizeOf129, v41 := Try.zeroValue129, t44 := Try.underlying132, a44 := Try.isAgg132, z44 := Try.sizeOf132, v44 := Try.zeroValue132, t46 := Try.underlying134, a46 := Try.isAgg134, z46 := Try.sizeOf134, v46 := Try.zeroValue134, t53 := Try.underlying137, a53 := Try.isAgg137, z53 := Try.sizeOf137, v53 := Try.zeroValue137, t57 := Try.underlying141, a57 := Try.isAgg141, z57 := Try.sizeOf141, v57 := Try.zeroValue141, t63 := Try.underlying143, a63 := Try.isAgg143, z63 := Try.sizeOf143, v63 := Try.zeroValue143, t64 := Try.underlying144, a64 := Try.isAgg144, z64 := Try.sizeOf144, v64 := Try.zeroValue144 }

end

end Go.Proofs.Ytgdiabfmjcejdaa.P
end

section
namespace Go.Proofs.Ytgdiabfmjcejdaa.P
open Go.RowKit Go.Proofs.YtgdiabfmjcejdaaW.PrintWords Go.Proofs.YtgdiabfmjcejdaaW.PrintLast Go.Proofs.YtgdiabfmjcejdaaW.PrintMore
attribute [local go_sem] max2_int min2_int max_two min_two max_three min_three max_four min_four   -- for this text's walks alone
set_option linter.unusedVariables false
set_option linter.unusedSimpArgs false
/-! ### slices_symMergeCmpFunc_int64: function 112 (given) -/
def slices_symMergeCmpFunc_int64.l1 : Nat → List Int → Int → Int → Option (List Int)
  | 0, _, _, _ => none
  | k + 1, xs, lim, q => if 0 ≤ q ∧ 0 ≤ lim ∧ lim ≤ (xs.length : Int) then (if q < lim - 1 then slices_symMergeCmpFunc_int64.l1 k (sw xs q (q + 1)) lim (q + 1) else some xs) else none
def slices_symMergeCmpFunc_int64.l0 : Nat → (Int → Int → Int) → List Int → Int → Int → Int → Option (List Int)
  | 0, _, _, _, _, _ => none
  | k + 1, cf, xs, a, i, j => if 0 ≤ i ∧ i ≤ (xs.length : Int) ∧ j ≤ (xs.length : Int) ∧ 0 ≤ a ∧ a < (xs.length : Int) then (if i < j then (if cf (rd xs ((i + j) / 2)) (rd xs a) < 0 then slices_symMergeCmpFunc_int64.l0 k cf xs a (((i + j) / 2) + 1) j else slices_symMergeCmpFunc_int64.l0 k cf xs a i ((i + j) / 2)) else slices_symMergeCmpFunc_int64.l1 k xs i a) else none
def slices_symMergeCmpFunc_int64.l3 : Nat → List Int → Int → Int → Option (List Int)
  | 0, _, _, _ => none
  | k + 1, xs, lim, q => if 0 ≤ lim ∧ q < (xs.length : Int) then (if lim < q then slices_symMergeCmpFunc_int64.l3 k (sw xs q (q - 1)) lim (q - 1) else some xs) else none
def slices_symMergeCmpFunc_int64.l2 : Nat → (Int → Int → Int) → List Int → Int → Int → Int → Option (List Int)
  | 0, _, _, _, _, _ => none
  | k + 1, cf, xs, m, i, j => if 0 ≤ i ∧ i ≤ (xs.length : Int) ∧ j ≤ (xs.length : Int) ∧ 0 ≤ m ∧ m < (xs.length : Int) then (if i < j then (if cf (rd xs m) (rd xs ((i + j) / 2)) < 0 then slices_symMergeCmpFunc_int64.l2 k cf xs m i ((i + j) / 2) else slices_symMergeCmpFunc_int64.l2 k cf xs m (((i + j) / 2) + 1) j) else slices_symMergeCmpFunc_int64.l3 k xs i m) else none
mutual
def slices_symMergeCmpFunc_int64.f : Nat → (Int → Int → Int) → List Int → Int → Int → Int → Option (List Int)
  | 0, _, _, _, _, _ => none
  | k + 1, cf, xs, a, m, b => if 0 ≤ a ∧ a < m ∧ m < b ∧ b ≤ (xs.length : Int) then (if m - a = 1 then slices_symMergeCmpFunc_int64.l0 k cf xs a m b else if b - m = 1 then slices_symMergeCmpFunc_int64.l2 k cf xs m a m else if ((a + b) / 2) < m then slices_symMergeCmpFunc_int64.l4 k cf xs a m b (((a + b) / 2) + m - b) ((a + b) / 2) else slices_symMergeCmpFunc_int64.l4 k cf xs a m b a m) else none
def slices_symMergeCmpFunc_int64.l4 : Nat → (Int → Int → Int) → List Int → Int → Int → Int → Int → Int → Option (List Int)
  | 0, _, _, _, _, _, _, _ => none
  | k + 1, cf, xs, a, m, b, st, r => if 0 ≤ st ∧ st ≤ (xs.length : Int) ∧ r ≤ (xs.length : Int) ∧ r ≤ ((a + b) / 2) + m ∧ ((a + b) / 2) + m - 1 - st < (xs.length : Int) then (if st < r then (if cf (rd xs (((a + b) / 2) + m - 1 - ((st + r) / 2))) (rd xs ((st + r) / 2)) < 0 then slices_symMergeCmpFunc_int64.l4 k cf xs a m b st ((st + r) / 2) else slices_symMergeCmpFunc_int64.l4 k cf xs a m b ((st + r) / 2 + 1) r) else slices_symMergeCmpFunc_int64.l5 k cf xs a m b st) else none
def slices_symMergeCmpFunc_int64.l5 : Nat → (Int → Int → Int) → List Int → Int → Int → Int → Int → Option (List Int)
  | 0, _, _, _, _, _, _ => none
  | k + 1, cf, xs, a, m, b, st => (if st < m ∧ m < ((a + b) / 2) + m - st then slices_rotateCmpFunc_int64.f k xs st m (((a + b) / 2) + m - st) else some xs).bind fun ys => (if a < st ∧ st < ((a + b) / 2) then slices_symMergeCmpFunc_int64.f k cf ys a st ((a + b) / 2) else some ys).bind fun zs => if ((a + b) / 2) < ((a + b) / 2) + m - st ∧ ((a + b) / 2) + m - st < b then slices_symMergeCmpFunc_int64.f k cf zs ((a + b) / 2) (((a + b) / 2) + m - st) b else some zs
end
set_option maxHeartbeats 16000000 in
set_option maxRecDepth 100000 in
theorem slices_symMergeCmpFunc_int64.callsA (base : Nat) (ok : Nat → Prop) (g n c : Nat) (lb : Array Value) (cf : Int → Int → Int) (w0 : World) (hn : (n : Int) ≤ 1000000000000) (hcmp : ∀ W x y, Okv x → Okv y → Kept w0 W (fun k => k = g) → Calls Try.prog 65 (#[.int .i64 x, .int .i64 y] ++ lb) W fun e w' => e = .returned (.int .i64 (cf x y)) ∧ Drawn0 W w') (k : Nat) (a m b : Int) (xs ys : List Int) (w : World) (hI : Sts 2 base ok w0 w g n c (xs)) (cc : 0 ≤ a ∧ a < m ∧ m < b ∧ b ≤ (n : Int)) (cA : m - a = 1) (h : slices_symMergeCmpFunc_int64.l0 k cf xs a m b = some ys) :
    Calls Try.prog 112 #[.slice (some ⟨g, 0, none⟩) n c, .int .i64 a, .int .i64 m, .int .i64 b, .func (.func 65) #[] lb] w fun e w' => e = .returned (.tuple #[]) ∧ Sts 2 base ok w0 w' g n c (ys) := by
  have HI := Aside0.mk hI
  have HN := Aside0.mk hn
  have HC := Aside0.mk hcmp
  have hl := hI.len
  obtain ⟨z1, z2, z3, z4⟩ := cc
  clear hcmp
  obtain ⟨ma, hma⟩ : ∃ j_ : Int, m - a = j_ := ⟨_, rfl⟩
  rw [hma] at cA
  have hmaw : (IntKind.i64.wrap (m - a)) = ma := (i64_w _).trans ((by unfold wrap64; omega : wrap64 (m - a) = m - a).trans hma)
  have hmav : wrap64 (m - a) = ma := (by unfold wrap64; omega : wrap64 (m - a) = m - a).trans hma
  have Hma := Aside0.mk hma
  clear hma
  have cA0 : (ma == 1) = true := beq_iff_eq.mpr cA
  have H := Aside0.mk h
  clear h hI hn hl z1 z2 z3 z4 cA
  go_enter Try.func112, Try.ntmps112
  go_wp2
  go_loopg [10, 11] k (fun kq v10 v11 w' => ∃ (i j : Int), v10 = .int .i64 i ∧ v11 = .int .i64 j ∧ Aside0 (slices_symMergeCmpFunc_int64.l0 kq cf xs a i j = some ys) ∧ Aside0 (kq ≤ k) ∧ Aside0 (Sts 2 base ok w0 w' g n c (xs)))
  case atStart => exact ⟨_, _, rfl, rfl, H, ⟨Nat.le_refl _⟩, HI⟩
  case round =>
    clear HI H
    obtain ⟨i, j, rfl, rfl, HA, HK1, HI⟩ := hrel
    cases gk with
    | zero => exact absurd HA.out (by simp [slices_symMergeCmpFunc_int64.l0])
    | succ k1 =>
      have H1 := HA.out
      clear HA
      simp only [slices_symMergeCmpFunc_int64.l0] at H1
      have hl := HI.out.len
      rw [hl] at H1
      have hn := HN.out
      by_cases cc : 0 ≤ i ∧ i ≤ (n : Int) ∧ j ≤ (n : Int) ∧ 0 ≤ a ∧ a < (n : Int)
      rotate_left
      · rw [if_neg cc] at H1
        exact absurd H1 (by simp)
      rw [if_pos cc] at H1
      obtain ⟨y1, y2, y3, y4, y5⟩ := cc
      by_cases c9 : i < j
      rotate_left
      · rw [if_neg c9] at H1
        have c90 := decide_eq_false c9
        have H := Aside0.mk H1
        clear H1 c9 hl hn
        go_wp2
        go_loopg [13] k1 (fun kq v13 w' => ∃ (q : Int) (xs2 : List Int), v13 = .int .i64 q ∧ Aside0 (slices_symMergeCmpFunc_int64.l1 kq xs2 i q = some ys) ∧ Aside0 (kq ≤ k1) ∧ Aside0 (Sts 2 base ok w0 w' g n c (xs2)))
        case atStart => exact ⟨_, _, rfl, H, ⟨Nat.le_refl _⟩, HI⟩
        case round =>
          clear HI H
          obtain ⟨q, xs2, rfl, HA, HK3, HI⟩ := hrel
          cases gk with
          | zero => exact absurd HA.out (by simp [slices_symMergeCmpFunc_int64.l1])
          | succ k3 =>
            have H1 := HA.out
            clear HA
            simp only [slices_symMergeCmpFunc_int64.l1] at H1
            have hl := HI.out.len
            rw [hl] at H1
            have hn := HN.out
            by_cases cc : 0 ≤ q ∧ 0 ≤ i ∧ i ≤ (n : Int)
            rotate_left
            · rw [if_neg cc] at H1
              exact absurd H1 (by simp)
            rw [if_pos cc] at H1
            obtain ⟨y1, y2, y3⟩ := cc
            obtain ⟨lm, hlm⟩ : ∃ j_ : Int, i - 1 = j_ := ⟨_, rfl⟩
            rw [hlm] at H1
            have hlmw : (IntKind.i64.wrap (i - 1)) = lm := (i64_w _).trans ((by unfold wrap64; omega : wrap64 (i - 1) = i - 1).trans hlm)
            have hlmv : wrap64 (i - 1) = lm := (by unfold wrap64; omega : wrap64 (i - 1) = i - 1).trans hlm
            have Hlm := Aside0.mk hlm
            clear hlm
            by_cases c5 : q < lm
            rotate_left
            · rw [if_neg c5] at H1
              have c50 := decide_eq_false c5
              obtain rfl : xs2 = ys := by simpa using H1
              clear H1 c5 hl hn
              go_wp2
              first | go_end0 | ((try simp only [Exit.inBlock, Exit.then]); refine bodyPost_ret (results_none rfl _ _ _) rfl ?_)
              exact ⟨rfl, HI.out⟩
            rw [if_pos c5] at H1
            have c50 := decide_eq_true c5
            have hlm := Hlm.out
            have w1 : 0 ≤ q + 1 := by omega
            have w2 : q + 1 < (n : Int) := by omega
            have w3 : q < (n : Int) := by omega
            clear hlm
            obtain ⟨q1, hq1⟩ : ∃ j_ : Int, q + 1 = j_ := ⟨_, rfl⟩
            rw [hq1] at H1 w1 w2
            have hq1w : (IntKind.i64.wrap (q + 1)) = q1 := (i64_w _).trans ((by unfold wrap64; omega : wrap64 (q + 1) = q + 1).trans hq1)
            have hq1v : wrap64 (q + 1) = q1 := (by unfold wrap64; omega : wrap64 (q + 1) = q + 1).trans hq1
            have Hq1 := Aside0.mk hq1
            clear hq1
            have Pq := Aside0.mk (y1)
            have Qq := Aside0.mk (w3)
            have pq := eq_true Pq.out
            have qq := eq_true Qq.out
            obtain ⟨xq, fq⟩ := HI.out.cell q Pq.out Qq.out
            have Pq1 := Aside0.mk (w1)
            have Qq1 := Aside0.mk (w2)
            have pq1 := eq_true Pq1.out
            have qq1 := eq_true Qq1.out
            obtain ⟨xq1, fq1⟩ := HI.out.cell q1 Pq1.out Qq1.out
            have H := Aside0.mk H1
            clear H1 hl hn c5 w1 w2 w3
            go_wp2
            refine start_ (n := 18) (S := fun w' => w'.cell? ⟨g, q.toNat, none⟩ = some (.int .i64 (rd xs2 q)) ∧ w'.frozen? ⟨g, q.toNat, none⟩ = false ∧ w'.cell? ⟨g, q1.toNat, none⟩ = some (.int .i64 (rd xs2 q1)) ∧ w'.frozen? ⟨g, q1.toNat, none⟩ = false) (ds := [15, 17]) #[false, false, false, false, false, false, false, false, false, false, false, false, false, false, false, false, false, false] (by kernel_rfl) rfl rfl ⟨xq, fq, xq1, fq1⟩ (fun hHeld => ?_)
            have hi_ := HI.out.drew
            obtain ⟨wd1, hw_⟩ : ∃ W_, World.drew wr = W_ := ⟨_, rfl⟩
            rw [hw_] at hi_ hHeld ⊢
            clear hw_
            clear HI
            clear xq fq xq1 fq1
            have HI := Aside0.mk hi_
            clear hi_
            obtain ⟨xq, fq⟩ := HI.out.cell q Pq.out Qq.out
            obtain ⟨xq1, fq1⟩ := HI.out.cell q1 Pq1.out Qq1.out
            have HV := Aside0.mk HI.out.wf
            refine pv_ 0 61 #[true, false, false, false, false, false, false, false, false, false, false, false, false, false, false, false, false, false] ?_
            refine pv_ 1 62 #[true, true, false, false, false, false, false, false, false, false, false, false, false, false, false, false, false, false] ?_
            refine pv_ 2 63 #[true, true, true, false, false, false, false, false, false, false, false, false, false, false, false, false, false, false] ?_
            refine pv_ 3 64 #[true, true, true, true, false, false, false, false, false, false, false, false, false, false, false, false, false, false] ?_
            refine pv_ 4 65 #[true, true, true, true, true, false, false, false, false, false, false, false, false, false, false, false, false, false] ?_
            refine pv_ 5 66 #[true, true, true, true, true, true, false, false, false, false, false, false, false, false, false, false, false, false] ?_
            refine pv_ 6 67 #[true, true, true, true, true, true, true, false, false, false, false, false, false, false, false, false, false, false] ?_
            refine pv_ 7 68 #[true, true, true, true, true, true, true, true, false, false, false, false, false, false, false, false, false, false] ?_
            refine pv_ 8 69 #[true, true, true, true, true, true, true, true, true, false, false, false, false, false, false, false, false, false] ?_
            refine tv_ hHeld 9 70 #[true, true, true, true, true, true, true, true, true, true, false, false, false, false, false, false, false, false] ?_
            refine pv_ 10 71 #[true, true, true, true, true, true, true, true, true, true, true, false, false, false, false, false, false, false] ?_
            refine pv_ 11 72 #[true, true, true, true, true, true, true, true, true, true, true, true, false, false, false, false, false, false] ?_
            refine pv_ 12 73 #[true, true, true, true, true, true, true, true, true, true, true, true, true, false, false, false, false, false] ?_
            refine tv_ hHeld 13 74 #[true, true, true, true, true, true, true, true, true, true, true, true, true, true, false, false, false, false] ?_
            refine pv_ 14 75 #[true, true, true, true, true, true, true, true, true, true, true, true, true, true, true, false, false, false] ?_
            refine last_ (i := 15) (N := none) #[true, true, true, true, true, true, true, true, true, true, true, true, true, true, true, true, false, false] rfl rfl (by kernel_rfl) (by decide) (fun K_ hK => ?_)
            refine store_one (w1 := World.setCell wd1 ⟨g, q.toNat, none⟩ (.int .i64 (rd xs2 q1))) (by rfl) (by first | (go_simp; done) | (go_simp; rfl)) rfl ?_
            clear hHeld
            have hi_ := HI.out.put q (rd xs2 q1) (HV.out _)
            obtain ⟨ws1_1, hw_⟩ : ∃ W_, World.setCell wd1 ⟨g, q.toNat, none⟩ (.int .i64 (rd xs2 q1)) = W_ := ⟨_, rfl⟩
            rw [hw_] at hi_ ⊢
            clear hw_
            clear HI
            clear xq fq xq1 fq1
            have HI := Aside0.mk hi_
            clear hi_
            obtain ⟨xq, fq⟩ := HI.out.cell q Pq.out Qq.out
            obtain ⟨xq1, fq1⟩ := HI.out.cell q1 Pq1.out Qq1.out
            refine hK.out _ _ ?_
            clear hK K_
            refine pv_ 16 76 #[true, true, true, true, true, true, true, true, true, true, true, true, true, true, true, true, true, false] ?_
            refine last_ (i := 17) (N := none) #[true, true, true, true, true, true, true, true, true, true, true, true, true, true, true, true, true, true] rfl rfl (by kernel_rfl) (by decide) (fun K_ hK => ?_)
            refine store_one (w1 := World.setCell ws1_1 ⟨g, q1.toNat, none⟩ (.int .i64 (rd xs2 q))) (by rfl) (by first | (go_simp; done) | (go_simp; rfl)) rfl ?_
            have hi_ := HI.out.put q1 (rd xs2 q) (HV.out _)
            obtain ⟨ws1_2, hw_⟩ : ∃ W_, World.setCell ws1_1 ⟨g, q1.toNat, none⟩ (.int .i64 (rd xs2 q)) = W_ := ⟨_, rfl⟩
            rw [hw_] at hi_ ⊢
            clear hw_
            clear HI
            clear xq fq xq1 fq1
            have HI := Aside0.mk hi_
            clear hi_
            obtain ⟨xq, fq⟩ := HI.out.cell q Pq.out Qq.out
            obtain ⟨xq1, fq1⟩ := HI.out.cell q1 Pq1.out Qq1.out
            refine hK.out _ _ ?_
            clear hK K_
            refine done_ (by kernel_rfl) ?_
            go_wp2
            go_roundg k3
            case measure => have := HK3.out; omega
            case rel => exact ⟨_, _, by first | rfl | (simp only [*]), H, ⟨by have := HK3.out; omega⟩, HI⟩
      rw [if_pos c9] at H1
      have c90 := decide_eq_true c9
      have w1 : 0 ≤ (i + j) / 2 := by omega
      have w2 : (i + j) / 2 < (n : Int) := by omega
      have w4 : 0 ≤ i + j := by omega
      have w5 : i + j ≤ 4611686018427387904 := by omega
      obtain ⟨s, hs⟩ : ∃ j_ : Int, i + j = j_ := ⟨_, rfl⟩
      rw [hs] at H1 w1 w2 w4 w5
      have hsw : (IntKind.i64.wrap (i + j)) = s := (i64_w _).trans ((by unfold wrap64; omega : wrap64 (i + j) = i + j).trans hs)
      have hsv : wrap64 (i + j) = s := (by unfold wrap64; omega : wrap64 (i + j) = i + j).trans hs
      have Hs := Aside0.mk hs
      clear hs
      obtain ⟨hf, hhf⟩ : ∃ h_ : Int, s / 2 = h_ := ⟨_, rfl⟩
      rw [hhf] at H1 w1 w2
      have hhw : wrap64 (IntKind.u64.wrap s / 2) = hf := (half_eq w4 w5).trans hhf
      clear hhf w4 w5
      obtain ⟨h1, hh1⟩ : ∃ j_ : Int, hf + 1 = j_ := ⟨_, rfl⟩
      rw [hh1] at H1
      have hh1w : (IntKind.i64.wrap (hf + 1)) = h1 := (i64_w _).trans ((by unfold wrap64; omega : wrap64 (hf + 1) = hf + 1).trans hh1)
      have hh1v : wrap64 (hf + 1) = h1 := (by unfold wrap64; omega : wrap64 (hf + 1) = hf + 1).trans hh1
      have Hh1 := Aside0.mk hh1
      clear hh1
      have Phf := Aside0.mk (w1)
      have Qhf := Aside0.mk (w2)
      have phf := eq_true Phf.out
      have qhf := eq_true Qhf.out
      obtain ⟨xhf, fhf⟩ := HI.out.cell hf Phf.out Qhf.out
      have Pa := Aside0.mk (y4)
      have Qa := Aside0.mk (y5)
      have pa := eq_true Pa.out
      have qa := eq_true Qa.out
      obtain ⟨xa, fa⟩ := HI.out.cell a Pa.out Qa.out
      have H := Aside0.mk H1
      clear H1 hl hn c9 w1 w2
      go_wp2
      refine start_ (n := 11) (S := fun w' => w'.cell? ⟨g, hf.toNat, none⟩ = some (.int .i64 (rd xs hf)) ∧ w'.frozen? ⟨g, hf.toNat, none⟩ = false ∧ w'.cell? ⟨g, a.toNat, none⟩ = some (.int .i64 (rd xs a)) ∧ w'.frozen? ⟨g, a.toNat, none⟩ = false) (ds := []) #[false, false, false, false, false, false, false, false, false, false, false] (by kernel_rfl) rfl rfl ⟨xhf, fhf, xa, fa⟩ (fun hHeld => ?_)
      have hi_ := HI.out.drew
      obtain ⟨wd2, hw_⟩ : ∃ W_, World.drew wr = W_ := ⟨_, rfl⟩
      rw [hw_] at hi_ hHeld ⊢
      clear hw_
      clear HI
      clear xhf fhf xa fa
      have HI := Aside0.mk hi_
      clear hi_
      obtain ⟨xhf, fhf⟩ := HI.out.cell hf Phf.out Qhf.out
      obtain ⟨xa, fa⟩ := HI.out.cell a Pa.out Qa.out
      refine pv_ 0 40 #[true, false, false, false, false, false, false, false, false, false, false] ?_
      refine pv_ 1 41 #[true, true, false, false, false, false, false, false, false, false, false] ?_
      refine pv_ 2 42 #[true, true, true, false, false, false, false, false, false, false, false] ?_
      refine pv_ 3 43 #[true, true, true, true, false, false, false, false, false, false, false] ?_
      refine tv_ hHeld 4 44 #[true, true, true, true, true, false, false, false, false, false, false] ?_
      refine pv_ 5 45 #[true, true, true, true, true, true, false, false, false, false, false] ?_
      refine pv_ 6 46 #[true, true, true, true, true, true, true, false, false, false, false] ?_
      refine pv_ 7 47 #[true, true, true, true, true, true, true, true, false, false, false] ?_
      refine tv_ hHeld 8 48 #[true, true, true, true, true, true, true, true, true, false, false] ?_
      refine one_ (i := 9) (N := some 49) #[true, true, true, true, true, true, true, true, true, true, false] rfl rfl (by kernel_rfl) (by decide) (fun K_ hK => ?_)
      refine goesV_ (ops := _) 40 Try.func65 (by kernel_rfl) rfl #[.int .i64 (rd xs hf), .int .i64 (rd xs a)] (by rfl) rfl rfl (by rfl) aw_ ?_
      clear hHeld
      refine (HC.out _ _ _ (HI.out.wf _) (HI.out.wf _) HI.out.kept).mono ?_
      rintro e wz9 ⟨rfl, hb_⟩
      refine ⟨_, rfl, ?_⟩
      have hb := below_of hb_
      clear hb_
      have hi_ := HI.out.below hb
      clear HI
      clear xhf fhf xa fa
      have HI := Aside0.mk hi_
      clear hi_
      obtain ⟨xhf, fhf⟩ := HI.out.cell hf Phf.out Qhf.out
      obtain ⟨xa, fa⟩ := HI.out.cell a Pa.out Qa.out
      clear hb
      refine hK.out _ _ ⟨xhf, fhf, xa, fa⟩ (fun hHeld => ?_)
      clear hK K_
      refine norm_ (a' := ?_) ?_ ?_
      rotate_left
      · show Act.put _ (some 49) _ = _; go_simp; rfl
      have H1 := H.out
      clear H
      by_cases c6 : cf (rd xs hf) (rd xs a) < 0
      · rw [if_pos c6] at H1
        have c60 := decide_eq_true c6
        have H := Aside0.mk H1
        clear H1 c6
        refine pv_ 10 50 #[true, true, true, true, true, true, true, true, true, true, true] ?_
        refine done_ (by kernel_rfl) ?_
        clear hHeld
        go_wp2
        go_roundg k1
        case measure => have := HK1.out; omega
        case rel => exact ⟨_, _, by first | rfl | (simp only [*]), by first | rfl | (simp only [*]), H, ⟨by have := HK1.out; omega⟩, HI⟩
      · rw [if_neg c6] at H1
        have c60 := decide_eq_false c6
        have H := Aside0.mk H1
        clear H1 c6
        refine pv_ 10 50 #[true, true, true, true, true, true, true, true, true, true, true] ?_
        refine done_ (by kernel_rfl) ?_
        clear hHeld
        go_wp2
        go_roundg k1
        case measure => have := HK1.out; omega
        case rel => exact ⟨_, _, by first | rfl | (simp only [*]), by first | rfl | (simp only [*]), H, ⟨by have := HK1.out; omega⟩, HI⟩
set_option maxHeartbeats 16000000 in
set_option maxRecDepth 100000 in
theorem slices_symMergeCmpFunc_int64.callsB (base : Nat) (ok : Nat → Prop) (g n c : Nat) (lb : Array Value) (cf : Int → Int → Int) (w0 : World) (hn : (n : Int) ≤ 1000000000000) (hcmp : ∀ W x y, Okv x → Okv y → Kept w0 W (fun k => k = g) → Calls Try.prog 65 (#[.int .i64 x, .int .i64 y] ++ lb) W fun e w' => e = .returned (.int .i64 (cf x y)) ∧ Drawn0 W w') (k : Nat) (a m b : Int) (xs ys : List Int) (w : World) (hI : Sts 2 base ok w0 w g n c (xs)) (cc : 0 ≤ a ∧ a < m ∧ m < b ∧ b ≤ (n : Int)) (cA : b - m = 1) (cB : m - a ≠ 1) (h : slices_symMergeCmpFunc_int64.l2 k cf xs m a m = some ys) :
    Calls Try.prog 112 #[.slice (some ⟨g, 0, none⟩) n c, .int .i64 a, .int .i64 m, .int .i64 b, .func (.func 65) #[] lb] w fun e w' => e = .returned (.tuple #[]) ∧ Sts 2 base ok w0 w' g n c (ys) := by
  have HI := Aside0.mk hI
  have HN := Aside0.mk hn
  have HC := Aside0.mk hcmp
  have hl := hI.len
  obtain ⟨z1, z2, z3, z4⟩ := cc
  clear hcmp
  obtain ⟨ma, hma⟩ : ∃ j_ : Int, m - a = j_ := ⟨_, rfl⟩
  rw [hma] at cB
  have hmaw : (IntKind.i64.wrap (m - a)) = ma := (i64_w _).trans ((by unfold wrap64; omega : wrap64 (m - a) = m - a).trans hma)
  have hmav : wrap64 (m - a) = ma := (by unfold wrap64; omega : wrap64 (m - a) = m - a).trans hma
  have Hma := Aside0.mk hma
  clear hma
  obtain ⟨bm, hbm⟩ : ∃ j_ : Int, b - m = j_ := ⟨_, rfl⟩
  rw [hbm] at cA
  have hbmw : (IntKind.i64.wrap (b - m)) = bm := (i64_w _).trans ((by unfold wrap64; omega : wrap64 (b - m) = b - m).trans hbm)
  have hbmv : wrap64 (b - m) = bm := (by unfold wrap64; omega : wrap64 (b - m) = b - m).trans hbm
  have Hbm := Aside0.mk hbm
  clear hbm
  have cA0 : (ma == 1) = false := beq_eq_false_iff_ne.mpr cB
  have cB0 : (bm == 1) = true := beq_iff_eq.mpr cA
  have H := Aside0.mk h
  clear h hI hn hl z1 z2 z3 z4 cA cB
  go_enter Try.func112, Try.ntmps112
  go_wp2
  go_loopg [14, 15] k (fun kq v14 v15 w' => ∃ (i j : Int), v14 = .int .i64 i ∧ v15 = .int .i64 j ∧ Aside0 (slices_symMergeCmpFunc_int64.l2 kq cf xs m i j = some ys) ∧ Aside0 (kq ≤ k) ∧ Aside0 (Sts 2 base ok w0 w' g n c (xs)))
  case atStart => exact ⟨_, _, rfl, rfl, H, ⟨Nat.le_refl _⟩, HI⟩
  case round =>
    clear HI H
    obtain ⟨i, j, rfl, rfl, HA, HK1, HI⟩ := hrel
    cases gk with
    | zero => exact absurd HA.out (by simp [slices_symMergeCmpFunc_int64.l2])
    | succ k1 =>
      have H1 := HA.out
      clear HA
      simp only [slices_symMergeCmpFunc_int64.l2] at H1
      have hl := HI.out.len
      rw [hl] at H1
      have hn := HN.out
      by_cases cc : 0 ≤ i ∧ i ≤ (n : Int) ∧ j ≤ (n : Int) ∧ 0 ≤ m ∧ m < (n : Int)
      rotate_left
      · rw [if_neg cc] at H1
        exact absurd H1 (by simp)
      rw [if_pos cc] at H1
      obtain ⟨y1, y2, y3, y4, y5⟩ := cc
      by_cases c9 : i < j
      rotate_left
      · rw [if_neg c9] at H1
        have c90 := decide_eq_false c9
        have H := Aside0.mk H1
        clear H1 c9 hl hn
        go_wp2
        go_loopg [17] k1 (fun kq v17 w' => ∃ (q : Int) (xs2 : List Int), v17 = .int .i64 q ∧ Aside0 (slices_symMergeCmpFunc_int64.l3 kq xs2 i q = some ys) ∧ Aside0 (kq ≤ k1) ∧ Aside0 (Sts 2 base ok w0 w' g n c (xs2)))
        case atStart => exact ⟨_, _, rfl, H, ⟨Nat.le_refl _⟩, HI⟩
        case round =>
          clear HI H
          obtain ⟨q, xs2, rfl, HA, HK3, HI⟩ := hrel
          cases gk with
          | zero => exact absurd HA.out (by simp [slices_symMergeCmpFunc_int64.l3])
          | succ k3 =>
            have H1 := HA.out
            clear HA
            simp only [slices_symMergeCmpFunc_int64.l3] at H1
            have hl := HI.out.len
            rw [hl] at H1
            have hn := HN.out
            by_cases cc : 0 ≤ i ∧ q < (n : Int)
            rotate_left
            · rw [if_neg cc] at H1
              exact absurd H1 (by simp)
            rw [if_pos cc] at H1
            obtain ⟨y2, y3⟩ := cc
            by_cases c5 : i < q
            rotate_left
            · rw [if_neg c5] at H1
              have c50 := decide_eq_false c5
              obtain rfl : xs2 = ys := by simpa using H1
              clear H1 c5 hl hn
              go_wp2
              first | go_end0 | ((try simp only [Exit.inBlock, Exit.then]); refine bodyPost_ret (results_none rfl _ _ _) rfl ?_)
              exact ⟨rfl, HI.out⟩
            rw [if_pos c5] at H1
            have c50 := decide_eq_true c5
            have w1 : 0 ≤ q - 1 := by omega
            have w2 : q - 1 < (n : Int) := by omega
            have w3 : 0 ≤ q := by omega
            obtain ⟨q1, hq1⟩ : ∃ j_ : Int, q - 1 = j_ := ⟨_, rfl⟩
            rw [hq1] at H1 w1 w2
            have hq1w : (IntKind.i64.wrap (q - 1)) = q1 := (i64_w _).trans ((by unfold wrap64; omega : wrap64 (q - 1) = q - 1).trans hq1)
            have hq1v : wrap64 (q - 1) = q1 := (by unfold wrap64; omega : wrap64 (q - 1) = q - 1).trans hq1
            have Hq1 := Aside0.mk hq1
            clear hq1
            have Pq := Aside0.mk (w3)
            have Qq := Aside0.mk (y3)
            have pq := eq_true Pq.out
            have qq := eq_true Qq.out
            obtain ⟨xq, fq⟩ := HI.out.cell q Pq.out Qq.out
            have Pq1 := Aside0.mk (w1)
            have Qq1 := Aside0.mk (w2)
            have pq1 := eq_true Pq1.out
            have qq1 := eq_true Qq1.out
            obtain ⟨xq1, fq1⟩ := HI.out.cell q1 Pq1.out Qq1.out
            have H := Aside0.mk H1
            clear H1 hl hn c5 w1 w2 w3
            go_wp2
            refine start_ (n := 18) (S := fun w' => w'.cell? ⟨g, q.toNat, none⟩ = some (.int .i64 (rd xs2 q)) ∧ w'.frozen? ⟨g, q.toNat, none⟩ = false ∧ w'.cell? ⟨g, q1.toNat, none⟩ = some (.int .i64 (rd xs2 q1)) ∧ w'.frozen? ⟨g, q1.toNat, none⟩ = false) (ds := [15, 17]) #[false, false, false, false, false, false, false, false, false, false, false, false, false, false, false, false, false, false] (by kernel_rfl) rfl rfl ⟨xq, fq, xq1, fq1⟩ (fun hHeld => ?_)
            have hi_ := HI.out.drew
            obtain ⟨wd1, hw_⟩ : ∃ W_, World.drew wr = W_ := ⟨_, rfl⟩
            rw [hw_] at hi_ hHeld ⊢
            clear hw_
            clear HI
            clear xq fq xq1 fq1
            have HI := Aside0.mk hi_
            clear hi_
            obtain ⟨xq, fq⟩ := HI.out.cell q Pq.out Qq.out
            obtain ⟨xq1, fq1⟩ := HI.out.cell q1 Pq1.out Qq1.out
            have HV := Aside0.mk HI.out.wf
            refine pv_ 0 113 #[true, false, false, false, false, false, false, false, false, false, false, false, false, false, false, false, false, false] ?_
            refine pv_ 1 114 #[true, true, false, false, false, false, false, false, false, false, false, false, false, false, false, false, false, false] ?_
            refine pv_ 2 115 #[true, true, true, false, false, false, false, false, false, false, false, false, false, false, false, false, false, false] ?_
            refine pv_ 3 116 #[true, true, true, true, false, false, false, false, false, false, false, false, false, false, false, false, false, false] ?_
            refine pv_ 4 117 #[true, true, true, true, true, false, false, false, false, false, false, false, false, false, false, false, false, false] ?_
            refine pv_ 5 118 #[true, true, true, true, true, true, false, false, false, false, false, false, false, false, false, false, false, false] ?_
            refine pv_ 6 119 #[true, true, true, true, true, true, true, false, false, false, false, false, false, false, false, false, false, false] ?_
            refine pv_ 7 120 #[true, true, true, true, true, true, true, true, false, false, false, false, false, false, false, false, false, false] ?_
            refine pv_ 8 121 #[true, true, true, true, true, true, true, true, true, false, false, false, false, false, false, false, false, false] ?_
            refine tv_ hHeld 9 122 #[true, true, true, true, true, true, true, true, true, true, false, false, false, false, false, false, false, false] ?_
            refine pv_ 10 123 #[true, true, true, true, true, true, true, true, true, true, true, false, false, false, false, false, false, false] ?_
            refine pv_ 11 124 #[true, true, true, true, true, true, true, true, true, true, true, true, false, false, false, false, false, false] ?_
            refine pv_ 12 125 #[true, true, true, true, true, true, true, true, true, true, true, true, true, false, false, false, false, false] ?_
            refine tv_ hHeld 13 126 #[true, true, true, true, true, true, true, true, true, true, true, true, true, true, false, false, false, false] ?_
            refine pv_ 14 127 #[true, true, true, true, true, true, true, true, true, true, true, true, true, true, true, false, false, false] ?_
            refine last_ (i := 15) (N := none) #[true, true, true, true, true, true, true, true, true, true, true, true, true, true, true, true, false, false] rfl rfl (by kernel_rfl) (by decide) (fun K_ hK => ?_)
            refine store_one (w1 := World.setCell wd1 ⟨g, q.toNat, none⟩ (.int .i64 (rd xs2 q1))) (by rfl) (by first | (go_simp; done) | (go_simp; rfl)) rfl ?_
            clear hHeld
            have hi_ := HI.out.put q (rd xs2 q1) (HV.out _)
            obtain ⟨ws1_1, hw_⟩ : ∃ W_, World.setCell wd1 ⟨g, q.toNat, none⟩ (.int .i64 (rd xs2 q1)) = W_ := ⟨_, rfl⟩
            rw [hw_] at hi_ ⊢
            clear hw_
            clear HI
            clear xq fq xq1 fq1
            have HI := Aside0.mk hi_
            clear hi_
            obtain ⟨xq, fq⟩ := HI.out.cell q Pq.out Qq.out
            obtain ⟨xq1, fq1⟩ := HI.out.cell q1 Pq1.out Qq1.out
            refine hK.out _ _ ?_
            clear hK K_
            refine pv_ 16 128 #[true, true, true, true, true, true, true, true, true, true, true, true, true, true, true, true, true, false] ?_
            refine last_ (i := 17) (N := none) #[true, true, true, true, true, true, true, true, true, true, true, true, true, true, true, true, true, true] rfl rfl (by kernel_rfl) (by decide) (fun K_ hK => ?_)
            refine store_one (w1 := World.setCell ws1_1 ⟨g, q1.toNat, none⟩ (.int .i64 (rd xs2 q))) (by rfl) (by first | (go_simp; done) | (go_simp; rfl)) rfl ?_
            have hi_ := HI.out.put q1 (rd xs2 q) (HV.out _)
            obtain ⟨ws1_2, hw_⟩ : ∃ W_, World.setCell ws1_1 ⟨g, q1.toNat, none⟩ (.int .i64 (rd xs2 q)) = W_ := ⟨_, rfl⟩
            rw [hw_] at hi_ ⊢
            clear hw_
            clear HI
            clear xq fq xq1 fq1
            have HI := Aside0.mk hi_
            clear hi_
            obtain ⟨xq, fq⟩ := HI.out.cell q Pq.out Qq.out
            obtain ⟨xq1, fq1⟩ := HI.out.cell q1 Pq1.out Qq1.out
            refine hK.out _ _ ?_
            clear hK K_
            refine done_ (by kernel_rfl) ?_
            go_wp2
            go_roundg k3
            case measure => have := HK3.out; omega
            case rel => exact ⟨_, _, by first | rfl | (simp only [*]), H, ⟨by have := HK3.out; omega⟩, HI⟩
      rw [if_pos c9] at H1
      have c90 := decide_eq_true c9
      have w1 : 0 ≤ (i + j) / 2 := by omega
      have w2 : (i + j) / 2 < (n : Int) := by omega
      have w4 : 0 ≤ i + j := by omega
      have w5 : i + j ≤ 4611686018427387904 := by omega
      obtain ⟨s, hs⟩ : ∃ j_ : Int, i + j = j_ := ⟨_, rfl⟩
      rw [hs] at H1 w1 w2 w4 w5
      have hsw : (IntKind.i64.wrap (i + j)) = s := (i64_w _).trans ((by unfold wrap64; omega : wrap64 (i + j) = i + j).trans hs)
      have hsv : wrap64 (i + j) = s := (by unfold wrap64; omega : wrap64 (i + j) = i + j).trans hs
      have Hs := Aside0.mk hs
      clear hs
      obtain ⟨hf, hhf⟩ : ∃ h_ : Int, s / 2 = h_ := ⟨_, rfl⟩
      rw [hhf] at H1 w1 w2
      have hhw : wrap64 (IntKind.u64.wrap s / 2) = hf := (half_eq w4 w5).trans hhf
      clear hhf w4 w5
      obtain ⟨h1, hh1⟩ : ∃ j_ : Int, hf + 1 = j_ := ⟨_, rfl⟩
      rw [hh1] at H1
      have hh1w : (IntKind.i64.wrap (hf + 1)) = h1 := (i64_w _).trans ((by unfold wrap64; omega : wrap64 (hf + 1) = hf + 1).trans hh1)
      have hh1v : wrap64 (hf + 1) = h1 := (by unfold wrap64; omega : wrap64 (hf + 1) = hf + 1).trans hh1
      have Hh1 := Aside0.mk hh1
      clear hh1
      have Phf := Aside0.mk (w1)
      have Qhf := Aside0.mk (w2)
      have phf := eq_true Phf.out
      have qhf := eq_true Qhf.out
      obtain ⟨xhf, fhf⟩ := HI.out.cell hf Phf.out Qhf.out
      have Pm := Aside0.mk (y4)
      have Qm := Aside0.mk (y5)
      have pm := eq_true Pm.out
      have qm := eq_true Qm.out
      obtain ⟨xm, fm⟩ := HI.out.cell m Pm.out Qm.out
      have H := Aside0.mk H1
      clear H1 hl hn c9 w1 w2
      go_wp2
      refine start_ (n := 12) (S := fun w' => w'.cell? ⟨g, hf.toNat, none⟩ = some (.int .i64 (rd xs hf)) ∧ w'.frozen? ⟨g, hf.toNat, none⟩ = false ∧ w'.cell? ⟨g, m.toNat, none⟩ = some (.int .i64 (rd xs m)) ∧ w'.frozen? ⟨g, m.toNat, none⟩ = false) (ds := []) #[false, false, false, false, false, false, false, false, false, false, false, false] (by kernel_rfl) rfl rfl ⟨xhf, fhf, xm, fm⟩ (fun hHeld => ?_)
      have hi_ := HI.out.drew
      obtain ⟨wd2, hw_⟩ : ∃ W_, World.drew wr = W_ := ⟨_, rfl⟩
      rw [hw_] at hi_ hHeld ⊢
      clear hw_
      clear HI
      clear xhf fhf xm fm
      have HI := Aside0.mk hi_
      clear hi_
      obtain ⟨xhf, fhf⟩ := HI.out.cell hf Phf.out Qhf.out
      obtain ⟨xm, fm⟩ := HI.out.cell m Pm.out Qm.out
      refine pv_ 0 92 #[true, false, false, false, false, false, false, false, false, false, false, false] ?_
      refine pv_ 1 93 #[true, true, false, false, false, false, false, false, false, false, false, false] ?_
      refine pv_ 2 94 #[true, true, true, false, false, false, false, false, false, false, false, false] ?_
      refine pv_ 3 95 #[true, true, true, true, false, false, false, false, false, false, false, false] ?_
      refine tv_ hHeld 4 96 #[true, true, true, true, true, false, false, false, false, false, false, false] ?_
      refine pv_ 5 97 #[true, true, true, true, true, true, false, false, false, false, false, false] ?_
      refine pv_ 6 98 #[true, true, true, true, true, true, true, false, false, false, false, false] ?_
      refine pv_ 7 99 #[true, true, true, true, true, true, true, true, false, false, false, false] ?_
      refine tv_ hHeld 8 100 #[true, true, true, true, true, true, true, true, true, false, false, false] ?_
      refine one_ (i := 9) (N := some 101) #[true, true, true, true, true, true, true, true, true, true, false, false] rfl rfl (by kernel_rfl) (by decide) (fun K_ hK => ?_)
      refine goesV_ (ops := _) 92 Try.func65 (by kernel_rfl) rfl #[.int .i64 (rd xs m), .int .i64 (rd xs hf)] (by rfl) rfl rfl (by rfl) aw_ ?_
      clear hHeld
      refine (HC.out _ _ _ (HI.out.wf _) (HI.out.wf _) HI.out.kept).mono ?_
      rintro e wz9 ⟨rfl, hb_⟩
      refine ⟨_, rfl, ?_⟩
      have hb := below_of hb_
      clear hb_
      have hi_ := HI.out.below hb
      clear HI
      clear xhf fhf xm fm
      have HI := Aside0.mk hi_
      clear hi_
      obtain ⟨xhf, fhf⟩ := HI.out.cell hf Phf.out Qhf.out
      obtain ⟨xm, fm⟩ := HI.out.cell m Pm.out Qm.out
      clear hb
      refine hK.out _ _ ⟨xhf, fhf, xm, fm⟩ (fun hHeld => ?_)
      clear hK K_
      refine norm_ (a' := ?_) ?_ ?_
      rotate_left
      · show Act.put _ (some 101) _ = _; go_simp; rfl
      have H1 := H.out
      clear H
      by_cases c6 : cf (rd xs m) (rd xs hf) < 0
      · rw [if_pos c6] at H1
        have c60 := decide_eq_true c6
        have H := Aside0.mk H1
        clear H1 c6
        refine pv_ 10 102 #[true, true, true, true, true, true, true, true, true, true, true, false] ?_
        refine pv_ 11 103 #[true, true, true, true, true, true, true, true, true, true, true, true] ?_
        refine done_ (by kernel_rfl) ?_
        clear hHeld
        go_wp2
        go_roundg k1
        case measure => have := HK1.out; omega
        case rel => exact ⟨_, _, by first | rfl | (simp only [*]), by first | rfl | (simp only [*]), H, ⟨by have := HK1.out; omega⟩, HI⟩
      · rw [if_neg c6] at H1
        have c60 := decide_eq_false c6
        have H := Aside0.mk H1
        clear H1 c6
        refine pv_ 10 102 #[true, true, true, true, true, true, true, true, true, true, true, false] ?_
        refine pv_ 11 103 #[true, true, true, true, true, true, true, true, true, true, true, true] ?_
        refine done_ (by kernel_rfl) ?_
        clear hHeld
        go_wp2
        go_roundg k1
        case measure => have := HK1.out; omega
        case rel => exact ⟨_, _, by first | rfl | (simp only [*]), by first | rfl | (simp only [*]), H, ⟨by have := HK1.out; omega⟩, HI⟩
set_option maxHeartbeats 16000000 in
set_option maxRecDepth 100000 in
theorem slices_symMergeCmpFunc_int64.calls (base : Nat) (ok : Nat → Prop) (g n c : Nat) (lb : Array Value) (cf : Int → Int → Int) (w0 : World) (hn : (n : Int) ≤ 1000000000000) (hcmp : ∀ W x y, Okv x → Okv y → Kept w0 W (fun k => k = g) → Calls Try.prog 65 (#[.int .i64 x, .int .i64 y] ++ lb) W fun e w' => e = .returned (.int .i64 (cf x y)) ∧ Drawn0 W w') : ∀ (K k : Nat), k ≤ K → ∀ (a m b : Int) (xs ys : List Int) (w : World), Sts 2 base ok w0 w g n c (xs) → slices_symMergeCmpFunc_int64.f k cf xs a m b = some ys →
    Calls Try.prog 112 #[.slice (some ⟨g, 0, none⟩) n c, .int .i64 a, .int .i64 m, .int .i64 b, .func (.func 65) #[] lb] w fun e w' => e = .returned (.tuple #[]) ∧ Sts 2 base ok w0 w' g n c (ys) := by
  intro K
  induction K with
  | zero =>
    intro k hk a m b xs ys w hI h
    obtain rfl : k = 0 := by omega
    exact absurd h (by simp [slices_symMergeCmpFunc_int64.f])
  | succ K IH =>
    intro k hk a m b xs ys w hI h
    cases k with
    | zero => exact absurd h (by simp [slices_symMergeCmpFunc_int64.f])
    | succ k =>
      have HI := Aside0.mk hI
      have HN := Aside0.mk hn
      have HC := Aside0.mk hcmp
      have IH := Aside0.mk IH
      have HK := Aside0.mk hk
      simp only [slices_symMergeCmpFunc_int64.f] at h
      have hl := hI.len
      rw [hl] at h
      by_cases cc : 0 ≤ a ∧ a < m ∧ m < b ∧ b ≤ (n : Int)
      rotate_left
      · rw [if_neg cc] at h
        exact absurd h (by simp)
      rw [if_pos cc] at h
      obtain ⟨z1, z2, z3, z4⟩ := cc
      have ZA := Aside0.mk z1
      have ZM := Aside0.mk (show m < (n : Int) by omega)
      have ZC := Aside0.mk (And.intro z1 (And.intro z2 (And.intro z3 z4)))
      clear hk hcmp
      by_cases cA : m - a = 1
      · rw [if_pos cA] at h
        exact slices_symMergeCmpFunc_int64.callsA base ok g n c lb cf w0 hn HC.out k a m b xs ys w hI ⟨z1, z2, z3, z4⟩ cA h
      rw [if_neg cA] at h
      by_cases cB : b - m = 1
      · rw [if_pos cB] at h
        exact slices_symMergeCmpFunc_int64.callsB base ok g n c lb cf w0 hn HC.out k a m b xs ys w hI ⟨z1, z2, z3, z4⟩ cB cA h
      rw [if_neg cB] at h
      obtain ⟨ma, hma⟩ : ∃ j_ : Int, m - a = j_ := ⟨_, rfl⟩
      rw [hma] at cA
      have hmaw : (IntKind.i64.wrap (m - a)) = ma := (i64_w _).trans ((by unfold wrap64; omega : wrap64 (m - a) = m - a).trans hma)
      have hmav : wrap64 (m - a) = ma := (by unfold wrap64; omega : wrap64 (m - a) = m - a).trans hma
      have Hma := Aside0.mk hma
      clear hma
      obtain ⟨bm, hbm⟩ : ∃ j_ : Int, b - m = j_ := ⟨_, rfl⟩
      rw [hbm] at cB
      have hbmw : (IntKind.i64.wrap (b - m)) = bm := (i64_w _).trans ((by unfold wrap64; omega : wrap64 (b - m) = b - m).trans hbm)
      have hbmv : wrap64 (b - m) = bm := (by unfold wrap64; omega : wrap64 (b - m) = b - m).trans hbm
      have Hbm := Aside0.mk hbm
      clear hbm
      have cA0 : (ma == 1) = false := beq_eq_false_iff_ne.mpr cA
      have cB0 : (bm == 1) = false := beq_eq_false_iff_ne.mpr cB
      clear cA cB
      have w4 : 0 ≤ a + b := by omega
      have w5 : a + b ≤ 4611686018427387904 := by omega
      have w1 : a ≤ (a + b) / 2 := by omega
      have w2 : (a + b) / 2 < b := by omega
      obtain ⟨s, hs⟩ : ∃ j_ : Int, a + b = j_ := ⟨_, rfl⟩
      rw [hs] at h w1 w2 w4 w5
      have hsw : (IntKind.i64.wrap (a + b)) = s := (i64_w _).trans ((by unfold wrap64; omega : wrap64 (a + b) = a + b).trans hs)
      have hsv : wrap64 (a + b) = s := (by unfold wrap64; omega : wrap64 (a + b) = a + b).trans hs
      have Hs := Aside0.mk hs
      clear hs
      obtain ⟨mid, hmid⟩ : ∃ h_ : Int, s / 2 = h_ := ⟨_, rfl⟩
      rw [hmid] at h w1 w2
      have hhw : wrap64 (IntKind.u64.wrap s / 2) = mid := (half_eq w4 w5).trans hmid
      have Hmid := Aside0.mk (show (a + b) / 2 = mid by rw [Hs.out]; exact hmid)
      have ZD := Aside0.mk (And.intro w1 w2)
      clear hmid w4 w5
      obtain ⟨nn, hnn⟩ : ∃ j_ : Int, mid + m = j_ := ⟨_, rfl⟩
      rw [hnn] at h
      have hnnw : (IntKind.i64.wrap (mid + m)) = nn := (i64_w _).trans ((by unfold wrap64; omega : wrap64 (mid + m) = mid + m).trans hnn)
      have hnnv : wrap64 (mid + m) = nn := (by unfold wrap64; omega : wrap64 (mid + m) = mid + m).trans hnn
      have Hnn := Aside0.mk hnn
      clear hnn
      have hnn := Hnn.out
      obtain ⟨nb, hnb⟩ : ∃ j_ : Int, nn - b = j_ := ⟨_, rfl⟩
      rw [hnb] at h
      have hnbw : (IntKind.i64.wrap (nn - b)) = nb := (i64_w _).trans ((by unfold wrap64; omega : wrap64 (nn - b) = nn - b).trans hnb)
      have hnbv : wrap64 (nn - b) = nb := (by unfold wrap64; omega : wrap64 (nn - b) = nn - b).trans hnb
      obtain ⟨pp, hpp⟩ : ∃ j_ : Int, nn - 1 = j_ := ⟨_, rfl⟩
      have hppw : (IntKind.i64.wrap (nn - 1)) = pp := (i64_w _).trans ((by unfold wrap64; omega : wrap64 (nn - 1) = nn - 1).trans hpp)
      have hppv : wrap64 (nn - 1) = pp := (by unfold wrap64; omega : wrap64 (nn - 1) = nn - 1).trans hpp
      have Hpp := Aside0.mk hpp
      clear hpp hnb hnn
      have H := Aside0.mk h
      clear h hI hn hl z1 z2 z3 z4 w1 w2
      go_enter Try.func112, Try.ntmps112
      go_upto_if 140 with (fail)
      (try rw [hhw])
      clear hhw
      go_cut [20, 21] from 138 to 146 (fun v20 v21 wz => ∃ (st r : Int), v20 = .int .i64 st ∧ v21 = .int .i64 r ∧ Aside0 (slices_symMergeCmpFunc_int64.l4 k cf xs a m b st r = some ys) ∧ Aside0 (Sts 2 base ok w0 wz g n c (xs)))
      case first =>
        have h := H.out
        clear H
        by_cases cM : mid < m
        · rw [if_pos cM] at h
          have cM0 := decide_eq_true cM
          (try rw [cM0])
          have H := Aside0.mk h
          clear h cM
          go_wp2
          go_meet
          case rel => exact ⟨_, _, by first | rfl | (simp only [*]), by first | rfl | (simp only [*]), H, HI⟩
        · rw [if_neg cM] at h
          have cM0 := decide_eq_false cM
          (try rw [cM0])
          have H := Aside0.mk h
          clear h cM
          go_wp2
          go_meet
          case rel => exact ⟨_, _, by first | rfl | (simp only [*]), by first | rfl | (simp only [*]), H, HI⟩
      case rest =>
        clear HI H
        obtain ⟨st0, r0, rfl, rfl, H, HI⟩ := hcut
        go_wp2
        go_loopg [20, 21] k (fun kq v20 v21 w' => ∃ (st r : Int), v20 = .int .i64 st ∧ v21 = .int .i64 r ∧ Aside0 (slices_symMergeCmpFunc_int64.l4 kq cf xs a m b st r = some ys) ∧ Aside0 (kq ≤ k) ∧ Aside0 (Sts 2 base ok w0 w' g n c (xs)))
        case atStart => exact ⟨_, _, rfl, rfl, H, ⟨Nat.le_refl _⟩, HI⟩
        case round =>
          clear HI H
          obtain ⟨st, r, rfl, rfl, HA, HK1, HI⟩ := hrel
          cases gk with
          | zero => exact absurd HA.out (by simp [slices_symMergeCmpFunc_int64.l4])
          | succ k1 =>
            have H1 := HA.out
            clear HA
            simp only [slices_symMergeCmpFunc_int64.l4] at H1
            have hl := HI.out.len
            rw [hl, Hmid.out, Hnn.out, Hpp.out] at H1
            have hn := HN.out
            obtain ⟨z1, z2, z3, z4⟩ := ZC.out
            obtain ⟨v1, v2⟩ := ZD.out
            have hnn := Hnn.out
            have hpp := Hpp.out
            by_cases cc : 0 ≤ st ∧ st ≤ (n : Int) ∧ r ≤ (n : Int) ∧ r ≤ nn ∧ pp - st < (n : Int)
            rotate_left
            · rw [if_neg cc] at H1
              exact absurd H1 (by simp)
            rw [if_pos cc] at H1
            obtain ⟨y1, y2, y3, y4, y5⟩ := cc
            by_cases c9 : st < r
            · rw [if_pos c9] at H1
              have c90 := decide_eq_true c9
              have w1 : 0 ≤ (st + r) / 2 := by omega
              have w2 : (st + r) / 2 < (n : Int) := by omega
              have w4 : 0 ≤ st + r := by omega
              have w5 : st + r ≤ 4611686018427387904 := by omega
              have w6 : 0 ≤ pp - (st + r) / 2 := by omega
              have w7 : pp - (st + r) / 2 < (n : Int) := by omega
              clear hnn hpp
              obtain ⟨s2, hs2⟩ : ∃ j_ : Int, st + r = j_ := ⟨_, rfl⟩
              rw [hs2] at H1 w1 w2 w4 w5 w6 w7
              have hs2w : (IntKind.i64.wrap (st + r)) = s2 := (i64_w _).trans ((by unfold wrap64; omega : wrap64 (st + r) = st + r).trans hs2)
              have hs2v : wrap64 (st + r) = s2 := (by unfold wrap64; omega : wrap64 (st + r) = st + r).trans hs2
              have Hs2 := Aside0.mk hs2
              clear hs2
              obtain ⟨hf, hhf⟩ : ∃ h_ : Int, s2 / 2 = h_ := ⟨_, rfl⟩
              rw [hhf] at H1 w1 w2 w6 w7
              have hhx : wrap64 (IntKind.u64.wrap s2 / 2) = hf := (half_eq w4 w5).trans hhf
              clear hhf w4 w5
              obtain ⟨h1, hh1⟩ : ∃ j_ : Int, hf + 1 = j_ := ⟨_, rfl⟩
              rw [hh1] at H1
              have hh1w : (IntKind.i64.wrap (hf + 1)) = h1 := (i64_w _).trans ((by unfold wrap64; omega : wrap64 (hf + 1) = hf + 1).trans hh1)
              have hh1v : wrap64 (hf + 1) = h1 := (by unfold wrap64; omega : wrap64 (hf + 1) = hf + 1).trans hh1
              have Hh1 := Aside0.mk hh1
              clear hh1
              obtain ⟨pc, hpc⟩ : ∃ j_ : Int, pp - hf = j_ := ⟨_, rfl⟩
              rw [hpc] at H1 w6 w7
              have hpcw : (IntKind.i64.wrap (pp - hf)) = pc := (i64_w _).trans ((by unfold wrap64; omega : wrap64 (pp - hf) = pp - hf).trans hpc)
              have hpcv : wrap64 (pp - hf) = pc := (by unfold wrap64; omega : wrap64 (pp - hf) = pp - hf).trans hpc
              have Hpc := Aside0.mk hpc
              clear hpc
              have Phf := Aside0.mk (w1)
              have Qhf := Aside0.mk (w2)
              have phf := eq_true Phf.out
              have qhf := eq_true Qhf.out
              obtain ⟨xhf, fhf⟩ := HI.out.cell hf Phf.out Qhf.out
              have Ppc := Aside0.mk (w6)
              have Qpc := Aside0.mk (w7)
              have ppc := eq_true Ppc.out
              have qpc := eq_true Qpc.out
              obtain ⟨xpc, fpc⟩ := HI.out.cell pc Ppc.out Qpc.out
              have H := Aside0.mk H1
              clear H1 hl hn c9 w1 w2 w6 w7 z1 z2 z3 z4 v1 v2 y1 y2 y3 y4 y5
              go_wp2
              refine start_ (n := 14) (S := fun w' => w'.cell? ⟨g, hf.toNat, none⟩ = some (.int .i64 (rd xs hf)) ∧ w'.frozen? ⟨g, hf.toNat, none⟩ = false ∧ w'.cell? ⟨g, pc.toNat, none⟩ = some (.int .i64 (rd xs pc)) ∧ w'.frozen? ⟨g, pc.toNat, none⟩ = false) (ds := []) #[false, false, false, false, false, false, false, false, false, false, false, false, false, false] (by kernel_rfl) rfl rfl ⟨xhf, fhf, xpc, fpc⟩ (fun hHeld => ?_)
              have hi_ := HI.out.drew
              obtain ⟨wd1, hw_⟩ : ∃ W_, World.drew wr = W_ := ⟨_, rfl⟩
              rw [hw_] at hi_ hHeld ⊢
              clear hw_
              clear HI
              clear xhf fhf xpc fpc
              have HI := Aside0.mk hi_
              clear hi_
              obtain ⟨xhf, fhf⟩ := HI.out.cell hf Phf.out Qhf.out
              obtain ⟨xpc, fpc⟩ := HI.out.cell pc Ppc.out Qpc.out
              refine pv_ 0 158 #[true, false, false, false, false, false, false, false, false, false, false, false, false, false] ?_
              refine pv_ 1 159 #[true, true, false, false, false, false, false, false, false, false, false, false, false, false] ?_
              refine pv_ 2 160 #[true, true, true, false, false, false, false, false, false, false, false, false, false, false] ?_
              refine pv_ 3 161 #[true, true, true, true, false, false, false, false, false, false, false, false, false, false] ?_
              refine pv_ 4 162 #[true, true, true, true, true, false, false, false, false, false, false, false, false, false] ?_
              refine pv_ 5 163 #[true, true, true, true, true, true, false, false, false, false, false, false, false, false] ?_
              refine tv_ hHeld 6 164 #[true, true, true, true, true, true, true, false, false, false, false, false, false, false] ?_
              refine pv_ 7 165 #[true, true, true, true, true, true, true, true, false, false, false, false, false, false] ?_
              refine pv_ 8 166 #[true, true, true, true, true, true, true, true, true, false, false, false, false, false] ?_
              refine pv_ 9 167 #[true, true, true, true, true, true, true, true, true, true, false, false, false, false] ?_
              refine tv_ hHeld 10 168 #[true, true, true, true, true, true, true, true, true, true, true, false, false, false] ?_
              refine one_ (i := 11) (N := some 169) #[true, true, true, true, true, true, true, true, true, true, true, true, false, false] rfl rfl (by kernel_rfl) (by decide) (fun K_ hK => ?_)
              refine goesV_ (ops := _) 158 Try.func65 (by kernel_rfl) rfl #[.int .i64 (rd xs pc), .int .i64 (rd xs hf)] (by rfl) rfl rfl (by rfl) aw_ ?_
              clear hHeld
              refine (HC.out _ _ _ (HI.out.wf _) (HI.out.wf _) HI.out.kept).mono ?_
              rintro e wz11 ⟨rfl, hb_⟩
              refine ⟨_, rfl, ?_⟩
              have hb := below_of hb_
              clear hb_
              have hi_ := HI.out.below hb
              clear HI
              clear xhf fhf xpc fpc
              have HI := Aside0.mk hi_
              clear hi_
              obtain ⟨xhf, fhf⟩ := HI.out.cell hf Phf.out Qhf.out
              obtain ⟨xpc, fpc⟩ := HI.out.cell pc Ppc.out Qpc.out
              clear hb
              refine hK.out _ _ ⟨xhf, fhf, xpc, fpc⟩ (fun hHeld => ?_)
              clear hK K_
              refine norm_ (a' := ?_) ?_ ?_
              rotate_left
              · show Act.put _ (some 169) _ = _; go_simp; rfl
              have H1 := H.out
              clear H
              by_cases c6 : cf (rd xs pc) (rd xs hf) < 0
              · rw [if_pos c6] at H1
                have c60 := decide_eq_true c6
                have H := Aside0.mk H1
                clear H1 c6
                refine pv_ 12 170 #[true, true, true, true, true, true, true, true, true, true, true, true, true, false] ?_
                refine pv_ 13 171 #[true, true, true, true, true, true, true, true, true, true, true, true, true, true] ?_
                refine done_ (by kernel_rfl) ?_
                clear hHeld
                go_wp2
                go_roundg k1
                case measure => have := HK1.out; omega
                case rel => exact ⟨_, _, by first | rfl | (simp only [*]), by first | rfl | (simp only [*]), H, ⟨by have := HK1.out; omega⟩, HI⟩
              · rw [if_neg c6] at H1
                have c60 := decide_eq_false c6
                have H := Aside0.mk H1
                clear H1 c6
                refine pv_ 12 170 #[true, true, true, true, true, true, true, true, true, true, true, true, true, false] ?_
                refine pv_ 13 171 #[true, true, true, true, true, true, true, true, true, true, true, true, true, true] ?_
                refine done_ (by kernel_rfl) ?_
                clear hHeld
                go_wp2
                go_roundg k1
                case measure => have := HK1.out; omega
                case rel => exact ⟨_, _, by first | rfl | (simp only [*]), by first | rfl | (simp only [*]), H, ⟨by have := HK1.out; omega⟩, HI⟩
            rw [if_neg c9] at H1
            have c90 := decide_eq_false c9
            cases k1 with
            | zero => exact absurd H1 (by simp [slices_symMergeCmpFunc_int64.l5])
            | succ k2 =>
              simp only [slices_symMergeCmpFunc_int64.l5] at H1
              rw [Hmid.out, Hnn.out] at H1
              clear hpp
              obtain ⟨en, hen⟩ : ∃ j_ : Int, nn - st = j_ := ⟨_, rfl⟩
              rw [hen] at H1
              have henw : (IntKind.i64.wrap (nn - st)) = en := (i64_w _).trans ((by unfold wrap64; omega : wrap64 (nn - st) = nn - st).trans hen)
              have henv : wrap64 (nn - st) = en := (by unfold wrap64; omega : wrap64 (nn - st) = nn - st).trans hen
              have Hen := Aside0.mk hen
              clear hen
              obtain ⟨y1_, e_, H2⟩ := Option.bind_eq_some_iff.mp H1
              have E1 := Aside0.mk e_
              obtain ⟨y2_, e2_, H3⟩ := Option.bind_eq_some_iff.mp H2
              have E2 := Aside0.mk e2_
              have E3 := Aside0.mk H3
              have KK := Aside0.mk (show k2 ≤ K by have := HK1.out; have := HK.out; omega)
              clear e_ e2_ H1 H2 H3 hl hn c9 z1 z2 z3 z4 v1 v2 y1 y2 y3 y4 y5 hnn
              go_upto_region 39 with (fail)
              go_cut [185] from 178 to 185 (fun vv wz => vv = .bool (decide (st < m) && decide (m < en)) ∧ Aside0 (Sts 2 base ok w0 wz g n c (xs)))
              case first =>
                by_cases b1 : st < m
                · have b10 := decide_eq_true b1
                  by_cases b2 : m < en
                  · have b20 := decide_eq_true b2
                    go_wp2
                    go_meet
                    case rel => exact ⟨by first | rfl | (simp [*]; done) | (rw [b10, b20]; rfl), HI⟩
                  · have b20 := decide_eq_false b2
                    go_wp2
                    go_meet
                    case rel => exact ⟨by first | rfl | (simp [*]; done) | (rw [b10, b20]; rfl), HI⟩
                · have b10 := decide_eq_false b1
                  go_wp2
                  go_meet
                  case rel => exact ⟨by first | rfl | (rw [b10]; rfl) | (simp [*]; done), HI⟩
              case rest =>
                clear HI
                obtain ⟨rfl, HI⟩ := hcut
                go_upto_if 185 with (fail)
                go_cut [] from 178 to 191 (fun wz => Aside0 (Sts 2 base ok w0 wz g n c (y1_)))
                case first =>
                  have h := E1.out
                  clear E1
                  by_cases cc : st < m ∧ m < en
                  · rw [if_pos cc] at h
                    have cb : (decide (st < m) && decide (m < en)) = true := by rw [decide_eq_true cc.1, decide_eq_true cc.2]; rfl
                    rw [cb]
                    have EE := Aside0.mk h
                    have Q0 := trivial
                    clear h cc cb
                    go_wp2_with (first | ((clear Q0); (with_reducible refine gate_callee (f := 126) rfl ?_); refine goesL_ (some _) rfl rfl Try.func126 (by kernel_rfl) rfl #[.slice (some ⟨g, 0, none⟩) n c, .int .i64 st, .int .i64 m, .int .i64 en, .func (.func 65) #[] lb] rfl aw_ ?_; (with_reducible refine (slices_rotateCmpFunc_int64.calls base ok g n c lb cf w0 HN.out k2 _ _ _ _ _ _ HI.out EE.out).mono ?_); rintro e w1 ⟨rfl, hi_⟩; refine ⟨_, rfl, ?_⟩; clear HI; have HI := Aside0.mk hi_; clear hi_; have Q1 := trivial))
                    go_meet
                    case rel => exact HI
                  · rw [if_neg cc] at h
                    have cb : (decide (st < m) && decide (m < en)) = false := by simpa using cc
                    rw [cb]
                    obtain hh_ : xs = y1_ := by simpa using h
                    have HI2 := Aside0.mk (hh_ ▸ HI.out)
                    clear HI h hh_ cc cb
                    have HI := HI2
                    clear HI2
                    go_wp2
                    go_meet
                    case rel => exact HI
                case rest =>
                  clear HI
                  have HI := hcut
                  clear hcut
                  go_upto_region 41 with (fail)
                  go_cut [199] from 192 to 199 (fun vv wz => vv = .bool (decide (a < st) && decide (st < mid)) ∧ Aside0 (Sts 2 base ok w0 wz g n c (y1_)))
                  case first =>
                    by_cases b1 : a < st
                    · have b10 := decide_eq_true b1
                      by_cases b2 : st < mid
                      · have b20 := decide_eq_true b2
                        go_wp2
                        go_meet
                        case rel => exact ⟨by first | rfl | (simp [*]; done) | (rw [b10, b20]; rfl), HI⟩
                      · have b20 := decide_eq_false b2
                        go_wp2
                        go_meet
                        case rel => exact ⟨by first | rfl | (simp [*]; done) | (rw [b10, b20]; rfl), HI⟩
                    · have b10 := decide_eq_false b1
                      go_wp2
                      go_meet
                      case rel => exact ⟨by first | rfl | (rw [b10]; rfl) | (simp [*]; done), HI⟩
                  case rest =>
                    clear HI
                    obtain ⟨rfl, HI⟩ := hcut
                    go_upto_if 199 with (fail)
                    go_cut [] from 192 to 205 (fun wz => Aside0 (Sts 2 base ok w0 wz g n c (y2_)))
                    case first =>
                      have h := E2.out
                      clear E2
                      by_cases cc : a < st ∧ st < mid
                      · rw [if_pos cc] at h
                        have cb : (decide (a < st) && decide (st < mid)) = true := by rw [decide_eq_true cc.1, decide_eq_true cc.2]; rfl
                        rw [cb]
                        have EE := Aside0.mk h
                        have Q0 := trivial
                        clear h cc cb
                        go_wp2_with (first | ((clear Q0); (with_reducible refine gate_callee (f := 112) rfl ?_); refine goesL_ (some _) rfl rfl Try.func112 (by kernel_rfl) rfl #[.slice (some ⟨g, 0, none⟩) n c, .int .i64 a, .int .i64 st, .int .i64 mid, .func (.func 65) #[] lb] rfl aw_ ?_; refine (IH.out k2 KK.out _ _ _ _ _ _ HI.out EE.out).mono ?_; rintro e w1 ⟨rfl, hi_⟩; refine ⟨_, rfl, ?_⟩; clear HI; have HI := Aside0.mk hi_; clear hi_; have Q1 := trivial))
                        go_meet
                        case rel => exact HI
                      · rw [if_neg cc] at h
                        have cb : (decide (a < st) && decide (st < mid)) = false := by simpa using cc
                        rw [cb]
                        obtain hh_ : y1_ = y2_ := by simpa using h
                        have HI2 := Aside0.mk (hh_ ▸ HI.out)
                        clear HI h hh_ cc cb
                        have HI := HI2
                        clear HI2
                        go_wp2
                        go_meet
                        case rel => exact HI
                    case rest =>
                      clear HI
                      have HI := hcut
                      clear hcut
                      go_upto_region 43 with (fail)
                      go_cut [213] from 206 to 213 (fun vv wz => vv = .bool (decide (mid < en) && decide (en < b)) ∧ Aside0 (Sts 2 base ok w0 wz g n c (y2_)))
                      case first =>
                        by_cases b1 : mid < en
                        · have b10 := decide_eq_true b1
                          by_cases b2 : en < b
                          · have b20 := decide_eq_true b2
                            go_wp2
                            go_meet
                            case rel => exact ⟨by first | rfl | (simp [*]; done) | (rw [b10, b20]; rfl), HI⟩
                          · have b20 := decide_eq_false b2
                            go_wp2
                            go_meet
                            case rel => exact ⟨by first | rfl | (simp [*]; done) | (rw [b10, b20]; rfl), HI⟩
                        · have b10 := decide_eq_false b1
                          go_wp2
                          go_meet
                          case rel => exact ⟨by first | rfl | (rw [b10]; rfl) | (simp [*]; done), HI⟩
                      case rest =>
                        clear HI
                        obtain ⟨rfl, HI⟩ := hcut
                        go_upto_if 213 with (fail)
                        have h := E3.out
                        clear E3
                        by_cases cc : mid < en ∧ en < b
                        · rw [if_pos cc] at h
                          have cb : (decide (mid < en) && decide (en < b)) = true := by rw [decide_eq_true cc.1, decide_eq_true cc.2]; rfl
                          rw [cb]
                          have EE := Aside0.mk h
                          have Q0 := trivial
                          clear h cc cb
                          go_wp2_with (first | ((clear Q0); (with_reducible refine gate_callee (f := 112) rfl ?_); refine goesL_ (some _) rfl rfl Try.func112 (by kernel_rfl) rfl #[.slice (some ⟨g, 0, none⟩) n c, .int .i64 mid, .int .i64 en, .int .i64 b, .func (.func 65) #[] lb] rfl aw_ ?_; refine (IH.out k2 KK.out _ _ _ _ _ _ HI.out EE.out).mono ?_; rintro e w1 ⟨rfl, hi_⟩; refine ⟨_, rfl, ?_⟩; clear HI; have HI := Aside0.mk hi_; clear hi_; have Q1 := trivial))
                          first | go_end0 | ((try simp only [Exit.inBlock, Exit.then]); refine bodyPost_ret (results_none rfl _ _ _) rfl ?_)
                          exact ⟨rfl, HI.out⟩
                        · rw [if_neg cc] at h
                          have cb : (decide (mid < en) && decide (en < b)) = false := by simpa using cc
                          rw [cb]
                          obtain hh_ : y2_ = ys := by simpa using h
                          have HI2 := Aside0.mk (hh_ ▸ HI.out)
                          clear HI h hh_ cc cb
                          have HI := HI2
                          clear HI2
                          go_wp2
                          first | go_end0 | ((try simp only [Exit.inBlock, Exit.then]); refine bodyPost_ret (results_none rfl _ _ _) rfl ?_)
                          exact ⟨rfl, HI.out⟩
/-! ### slices_stableCmpFunc_int64: function 97 (given) -/
mutual
def slices_stableCmpFunc_int64.l1 : Nat → (Int → Int → Int) → List Int → Int → Int → Option (List Int)
  | 0, _, _, _, _ => none
  | k + 1, cf, xs, m, bs => if 0 < bs ∧ bs ≤ 1000000000000 then (if bs < m then slices_stableCmpFunc_int64.l2 k cf xs m bs 0 (2 * bs) else some xs) else none
def slices_stableCmpFunc_int64.l2 : Nat → (Int → Int → Int) → List Int → Int → Int → Int → Int → Option (List Int)
  | 0, _, _, _, _, _, _ => none
  | k + 1, cf, xs, m, bs, a, b => if 0 ≤ a ∧ a ≤ 9000000000000 ∧ 0 ≤ b ∧ b ≤ 9000000000000 ∧ 0 < bs ∧ bs ≤ 1000000000000 then (if b ≤ m then ((slices_symMergeCmpFunc_int64.f k cf xs a (a + bs) b).bind fun ys => slices_stableCmpFunc_int64.l2 k cf ys m bs b (b + 2 * bs)) else ((if a + bs < m then slices_symMergeCmpFunc_int64.f k cf xs a (a + bs) m else some xs).bind fun ys => slices_stableCmpFunc_int64.l1 k cf ys m (bs * 2))) else none
end
def slices_stableCmpFunc_int64.l0 : Nat → (Int → Int → Int) → List Int → Int → Int → Int → Int → Option (List Int)
  | 0, _, _, _, _, _, _ => none
  | k + 1, cf, xs, m, bs, a, b => if 0 ≤ a ∧ a ≤ 9000000000000 ∧ 0 ≤ b ∧ b ≤ 9000000000000 ∧ 0 < bs ∧ bs ≤ 1000000000000 then (if b ≤ m then ((slices_insertionSortCmpFunc_int64.f k cf xs a b).bind fun ys => slices_stableCmpFunc_int64.l0 k cf ys m bs b (b + bs)) else ((slices_insertionSortCmpFunc_int64.f k cf xs a m).bind fun ys => slices_stableCmpFunc_int64.l1 k cf ys m bs)) else none
def slices_stableCmpFunc_int64.f (k : Nat) (cf : Int → Int → Int) (xs : List Int) (m : Int) : Option (List Int) := slices_stableCmpFunc_int64.l0 k cf xs m 20 0 20
set_option maxHeartbeats 16000000 in
set_option maxRecDepth 100000 in
theorem slices_stableCmpFunc_int64.calls (base : Nat) (ok : Nat → Prop) (g n c : Nat) (lb : Array Value) (cf : Int → Int → Int) (w0 : World) (hn : (n : Int) ≤ 1000000000000) (hcmp : ∀ W x y, Okv x → Okv y → Kept w0 W (fun k => k = g) → Calls Try.prog 65 (#[.int .i64 x, .int .i64 y] ++ lb) W fun e w' => e = .returned (.int .i64 (cf x y)) ∧ Drawn0 W w') (k : Nat) (m : Int) (xs ys : List Int) (w : World) (hI : Sts 2 base ok w0 w g n c (xs)) (h : slices_stableCmpFunc_int64.f k cf xs m = some ys) :
    Calls Try.prog 97 #[.slice (some ⟨g, 0, none⟩) n c, .int .i64 m, .func (.func 65) #[] lb] w fun e w' => e = .returned (.tuple #[]) ∧ Sts 2 base ok w0 w' g n c (ys) := by
  have HI := Aside0.mk hI
  have HN := Aside0.mk hn
  have HC := Aside0.mk hcmp
  have H := Aside0.mk h
  clear hI hn hcmp h
  go_enter Try.func97, Try.ntmps97
  go_wp2
  go_loopg [7, 8] k (fun kq v7 v8 w' => ∃ (a b : Int) (xs_ : List Int), v7 = .int .i64 a ∧ v8 = .int .i64 b ∧ Aside0 (slices_stableCmpFunc_int64.l0 kq cf xs_ m 20 a b = some ys) ∧ Aside0 (kq ≤ k) ∧ Aside0 (Sts 2 base ok w0 w' g n c (xs_)))
  case atStart => exact ⟨_, _, _, rfl, rfl, H, ⟨Nat.le_refl _⟩, HI⟩
  case round =>
    clear HI H
    obtain ⟨a, b, xs_, rfl, rfl, HA, HK1, HI⟩ := hrel
    cases gk with
    | zero => exact absurd HA.out (by simp [slices_stableCmpFunc_int64.l0])
    | succ k1 =>
      have H1 := HA.out
      clear HA
      simp only [slices_stableCmpFunc_int64.l0] at H1
      by_cases cc : 0 ≤ a ∧ a ≤ 9000000000000 ∧ 0 ≤ b ∧ b ≤ 9000000000000 ∧ (0 : Int) < 20 ∧ (20 : Int) ≤ 1000000000000
      rotate_left
      · rw [if_neg cc] at H1
        exact absurd H1 (by simp)
      rw [if_pos cc] at H1
      obtain ⟨z1, z2, z3, z4, z5, z6⟩ := cc
      have Q0 := trivial
      by_cases c9 : b ≤ m
      · rw [if_pos c9] at H1
        have c90 := decide_eq_true c9
        obtain ⟨bn, hbn⟩ : ∃ j_ : Int, b + 20 = j_ := ⟨_, rfl⟩
        rw [hbn] at H1
        have hbnw : (IntKind.i64.wrap (b + 20)) = bn := (i64_w _).trans ((by unfold wrap64; omega : wrap64 (b + 20) = b + 20).trans hbn)
        have hbnv : wrap64 (b + 20) = bn := (by unfold wrap64; omega : wrap64 (b + 20) = b + 20).trans hbn
        have Hbn := Aside0.mk hbn
        clear hbn
        obtain ⟨zs, e_, H2⟩ := Option.bind_eq_some_iff.mp H1
        have EE := Aside0.mk e_
        have H := Aside0.mk H2
        clear e_ H1 H2 z1 z2 z3 z4 z5 z6 c9
        go_wp2_with (first | ((clear Q0); (with_reducible refine gate_callee (f := 111) rfl ?_); refine goesL_ (some _) rfl rfl Try.func111 (by kernel_rfl) rfl #[.slice (some ⟨g, 0, none⟩) n c, .int .i64 (a), .int .i64 (b), .func (.func 65) #[] lb] rfl aw_ ?_; (with_reducible refine (slices_insertionSortCmpFunc_int64.calls base ok g n c lb cf w0 HN.out HC.out k1 _ _ _ _ _ HI.out EE.out).mono ?_); rintro e w1 ⟨rfl, hi_⟩; refine ⟨_, rfl, ?_⟩; clear HI; have HI := Aside0.mk hi_; clear hi_; have Q1 := trivial))
        go_roundg k1
        case measure => have := HK1.out; omega
        case rel => exact ⟨_, _, _, by first | rfl | (simp only [*]), by first | rfl | (simp only [*]), H, ⟨by have := HK1.out; omega⟩, HI⟩
      rw [if_neg c9] at H1
      have c90 := decide_eq_false c9
      obtain ⟨zs, e_, H2⟩ := Option.bind_eq_some_iff.mp H1
      have EE := Aside0.mk e_
      have H := Aside0.mk H2
      clear e_ H1 H2 z1 z2 z3 z4 z5 z6 c9
      go_wp2_with (first | ((clear Q0); (with_reducible refine gate_callee (f := 111) rfl ?_); refine goesL_ (some _) rfl rfl Try.func111 (by kernel_rfl) rfl #[.slice (some ⟨g, 0, none⟩) n c, .int .i64 (a), .int .i64 (m), .func (.func 65) #[] lb] rfl aw_ ?_; (with_reducible refine (slices_insertionSortCmpFunc_int64.calls base ok g n c lb cf w0 HN.out HC.out k1 _ _ _ _ _ HI.out EE.out).mono ?_); rintro e w1 ⟨rfl, hi_⟩; refine ⟨_, rfl, ?_⟩; clear HI; have HI := Aside0.mk hi_; clear hi_; have Q1 := trivial))
      clear EE Q1 c90
      (try simp only [Act.put, List.setIfInBounds_toArray, List.set_cons_zero, List.set_cons_succ])
      go_loopg [6] k1 (fun kq v6 w' => ∃ (bs : Int) (xs2 : List Int), v6 = .int .i64 bs ∧ Aside0 (slices_stableCmpFunc_int64.l1 kq cf xs2 m bs = some ys) ∧ Aside0 (kq ≤ k1) ∧ Aside0 (Sts 2 base ok w0 w' g n c (xs2)))
      case atStart => exact ⟨_, _, rfl, H, ⟨Nat.le_refl _⟩, HI⟩
      case round =>
        clear HI H
        obtain ⟨bs, xs2, rfl, HA, HK2, HI⟩ := hrel
        cases gk with
        | zero => exact absurd HA.out (by simp [slices_stableCmpFunc_int64.l1])
        | succ k2 =>
          have H1 := HA.out
          clear HA
          simp only [slices_stableCmpFunc_int64.l1] at H1
          by_cases cc : 0 < bs ∧ bs ≤ 1000000000000
          rotate_left
          · rw [if_neg cc] at H1
            exact absurd H1 (by simp)
          rw [if_pos cc] at H1
          obtain ⟨z1, z2⟩ := cc
          by_cases c9 : bs < m
          rotate_left
          · rw [if_neg c9] at H1
            have c90 := decide_eq_false c9
            obtain rfl : xs2 = ys := by simpa using H1
            clear H1 c9
            go_wp2
            first | go_end0 | ((try simp only [Exit.inBlock, Exit.then]); refine bodyPost_ret (results_none rfl _ _ _) rfl ?_)
            exact ⟨rfl, HI.out⟩
          rw [if_pos c9] at H1
          have c90 := decide_eq_true c9
          obtain ⟨b2, hb2⟩ : ∃ j_ : Int, 2 * bs = j_ := ⟨_, rfl⟩
          rw [hb2] at H1
          have hb2w : (IntKind.i64.wrap (2 * bs)) = b2 := (i64_w _).trans ((by unfold wrap64; omega : wrap64 (2 * bs) = 2 * bs).trans hb2)
          have hb2v : wrap64 (2 * bs) = b2 := (by unfold wrap64; omega : wrap64 (2 * bs) = 2 * bs).trans hb2
          have Hb2 := Aside0.mk hb2
          clear hb2
          obtain ⟨c2, hc2⟩ : ∃ j_ : Int, bs * 2 = j_ := ⟨_, rfl⟩
          have hc2w : (IntKind.i64.wrap (bs * 2)) = c2 := (i64_w _).trans ((by unfold wrap64; omega : wrap64 (bs * 2) = bs * 2).trans hc2)
          have hc2v : wrap64 (bs * 2) = c2 := (by unfold wrap64; omega : wrap64 (bs * 2) = bs * 2).trans hc2
          have Hc2 := Aside0.mk hc2
          clear hc2
          have ZB := Aside0.mk (And.intro z1 z2)
          have H := Aside0.mk H1
          clear H1 z1 z2 c9
          go_wp2
          go_loopg [7, 8] k2 (fun kq v7 v8 w' => ∃ (a b : Int) (xs3 : List Int), v7 = .int .i64 a ∧ v8 = .int .i64 b ∧ Aside0 (slices_stableCmpFunc_int64.l2 kq cf xs3 m bs a b = some ys) ∧ Aside0 (kq ≤ k2) ∧ Aside0 (Sts 2 base ok w0 w' g n c (xs3)))
          case atStart => exact ⟨_, _, _, rfl, by first | rfl | (simp only [*]), H, ⟨Nat.le_refl _⟩, HI⟩
          case round =>
            clear HI H
            obtain ⟨a, b, xs3, rfl, rfl, HA, HK3, HI⟩ := hrel
            cases gk with
            | zero => exact absurd HA.out (by simp [slices_stableCmpFunc_int64.l2])
            | succ k3 =>
              have H1 := HA.out
              clear HA
              simp only [slices_stableCmpFunc_int64.l2] at H1
              by_cases cc : 0 ≤ a ∧ a ≤ 9000000000000 ∧ 0 ≤ b ∧ b ≤ 9000000000000 ∧ 0 < bs ∧ bs ≤ 1000000000000
              rotate_left
              · rw [if_neg cc] at H1
                exact absurd H1 (by simp)
              rw [if_pos cc, Hb2.out, Hc2.out] at H1
              obtain ⟨z1, z2, z3, z4, z5, z6⟩ := cc
              have hb2 := Hb2.out
              have Q0 := trivial
              obtain ⟨ab, hab⟩ : ∃ j_ : Int, a + bs = j_ := ⟨_, rfl⟩
              rw [hab] at H1
              have habw : (IntKind.i64.wrap (a + bs)) = ab := (i64_w _).trans ((by unfold wrap64; omega : wrap64 (a + bs) = a + bs).trans hab)
              have habv : wrap64 (a + bs) = ab := (by unfold wrap64; omega : wrap64 (a + bs) = a + bs).trans hab
              have Hab := Aside0.mk hab
              clear hab
              by_cases c8 : b ≤ m
              · rw [if_pos c8] at H1
                have c80 := decide_eq_true c8
                obtain ⟨bn, hbn⟩ : ∃ j_ : Int, b + b2 = j_ := ⟨_, rfl⟩
                rw [hbn] at H1
                have hbnw : (IntKind.i64.wrap (b + b2)) = bn := (i64_w _).trans ((by unfold wrap64; omega : wrap64 (b + b2) = b + b2).trans hbn)
                have hbnv : wrap64 (b + b2) = bn := (by unfold wrap64; omega : wrap64 (b + b2) = b + b2).trans hbn
                have Hbn := Aside0.mk hbn
                clear hbn
                obtain ⟨zs, e_, H2⟩ := Option.bind_eq_some_iff.mp H1
                have EE := Aside0.mk e_
                have H := Aside0.mk H2
                clear e_ H1 H2 z1 z2 z3 z4 z5 z6 c8 hb2
                go_wp2_with (first | ((clear Q0); (with_reducible refine gate_callee (f := 112) rfl ?_); refine goesL_ (some _) rfl rfl Try.func112 (by kernel_rfl) rfl #[.slice (some ⟨g, 0, none⟩) n c, .int .i64 (a), .int .i64 (ab), .int .i64 (b), .func (.func 65) #[] lb] rfl aw_ ?_; (with_reducible refine (slices_symMergeCmpFunc_int64.calls base ok g n c lb cf w0 HN.out HC.out k3 k3 (Nat.le_refl _) _ _ _ _ _ _ HI.out EE.out).mono ?_); rintro e w1 ⟨rfl, hi_⟩; refine ⟨_, rfl, ?_⟩; clear HI; have HI := Aside0.mk hi_; clear hi_; have Q1 := trivial))
                go_roundg k3
                case measure => have := HK3.out; omega
                case rel => exact ⟨_, _, _, by first | rfl | (simp only [*]), by first | rfl | (simp only [*]), H, ⟨by have := HK3.out; omega⟩, HI⟩
              rw [if_neg c8] at H1
              have c80 := decide_eq_false c8
              obtain ⟨zs, e_, H2⟩ := Option.bind_eq_some_iff.mp H1
              have H := Aside0.mk H2
              clear H1 H2 z1 z2 z3 z4 z5 z6 c8 hb2
              by_cases c7 : ab < m
              · rw [if_pos c7] at e_
                have c70 := decide_eq_true c7
                have EE := Aside0.mk e_
                clear e_ c7
                go_wp2_with (first | ((clear Q0); (with_reducible refine gate_callee (f := 112) rfl ?_); refine goesL_ (some _) rfl rfl Try.func112 (by kernel_rfl) rfl #[.slice (some ⟨g, 0, none⟩) n c, .int .i64 (a), .int .i64 (ab), .int .i64 (m), .func (.func 65) #[] lb] rfl aw_ ?_; (with_reducible refine (slices_symMergeCmpFunc_int64.calls base ok g n c lb cf w0 HN.out HC.out k3 k3 (Nat.le_refl _) _ _ _ _ _ _ HI.out EE.out).mono ?_); rintro e w1 ⟨rfl, hi_⟩; refine ⟨_, rfl, ?_⟩; clear HI; have HI := Aside0.mk hi_; clear hi_; have Q1 := trivial))
                go_roundg k3
                case measure => have := HK2.out; have := HK3.out; omega
                case rel => exact ⟨_, _, by first | rfl | (simp only [*]), H, ⟨by have := HK2.out; have := HK3.out; omega⟩, HI⟩
              · rw [if_neg c7] at e_
                have c70 := decide_eq_false c7
                obtain rfl : xs3 = zs := by simpa using e_
                clear e_ c7
                go_wp2
                go_roundg k3
                case measure => have := HK2.out; have := HK3.out; omega
                case rel => exact ⟨_, _, by first | rfl | (simp only [*]), H, ⟨by have := HK2.out; have := HK3.out; omega⟩, HI⟩
/-! ### slices_SortStableFunc_int64_int64: function 64 (given) -/
set_option maxHeartbeats 16000000 in
set_option maxRecDepth 100000 in
theorem slices_SortStableFunc_int64_int64.calls (base : Nat) (ok : Nat → Prop) (g n c : Nat) (lb : Array Value) (cf : Int → Int → Int) (w0 : World) (hn : (n : Int) ≤ 1000000000000) (hcmp : ∀ W x y, Okv x → Okv y → Kept w0 W (fun k => k = g) → Calls Try.prog 65 (#[.int .i64 x, .int .i64 y] ++ lb) W fun e w' => e = .returned (.int .i64 (cf x y)) ∧ Drawn0 W w') (k : Nat) (xs ys : List Int) (w : World) (hI : Sts 2 base ok w0 w g n c (xs)) (h : slices_stableCmpFunc_int64.f k cf xs (n : Int) = some ys) :
    Calls Try.prog 64 #[.slice (some ⟨g, 0, none⟩) n c, .func (.func 65) #[] lb] w fun e w' => e = .returned (.tuple #[]) ∧ Sts 2 base ok w0 w' g n c (ys) := by
  have HI := Aside0.mk hI
  have HN := Aside0.mk hn
  have HC := Aside0.mk hcmp
  have H := Aside0.mk h
  have Q0 := trivial
  clear hI hn hcmp h
  go_enter Try.func64, Try.ntmps64
  go_wp2_with (first | ((clear Q0); (with_reducible refine gate_callee (f := 97) rfl ?_); refine goesL_ (some _) rfl rfl Try.func97 (by kernel_rfl) rfl #[.slice (some ⟨g, 0, none⟩) n c, .int .i64 (n : Int), .func (.func 65) #[] lb] rfl aw_ ?_; (with_reducible refine (slices_stableCmpFunc_int64.calls base ok g n c lb cf w0 HN.out HC.out k _ _ _ _ HI.out H.out).mono ?_); rintro e w1 ⟨rfl, hi_⟩; refine ⟨_, rfl, ?_⟩; clear HI; have HI := Aside0.mk hi_; clear hi_; have Q1 := trivial))
  first | go_end0 | ((try simp only [Exit.inBlock, Exit.then]); refine bodyPost_ret (results_none rfl _ _ _) rfl ?_)
  exact ⟨rfl, HI.out⟩
end Go.Proofs.Ytgdiabfmjcejdaa.P
end
