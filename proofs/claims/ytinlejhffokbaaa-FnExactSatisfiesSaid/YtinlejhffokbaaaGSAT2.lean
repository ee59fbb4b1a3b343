/- Texts of this seat, merged: QImplRagaFirstwrong, QSlicesEqualInt64Int64, QImplOccurrences, QImplSatisfies1, QImplSatisfiesAny, QImplSatisfies, QImplPitchok, QImplRangeok, QImplValidask. -/
import Derived.Test.YtinlejhffokbaaaGSAT1
section
namespace Go.Proofs.Ytinlejhffokbaaa.P
open Go.RowKit Go.Proofs.YtinlejhffokbaaaW.PrintWords Go.Proofs.YtinlejhffokbaaaW.PrintLast Go.Proofs.YtinlejhffokbaaaW.PrintMore
attribute [local go_sem] max2_int min2_int max_two min_two max_three min_three max_four min_four   -- for this text's walks alone
set_option linter.unusedVariables false
set_option linter.unusedSimpArgs false
/-! ### impl_Raga_firstWrong: function 109 -/
def impl_Raga_firstWrong.K0 : Array Bool := #[n_,n_,n_,n_,n_,n_,n_,n_,n_,n_]
def impl_Raga_firstWrong.K1 : Array Bool := #[y_,n_,n_,n_,n_,n_,n_,n_,n_,n_]
def impl_Raga_firstWrong.K2 : Array Bool := #[y_,y_,n_,n_,n_,n_,n_,n_,n_,n_]
def impl_Raga_firstWrong.K3 : Array Bool := #[y_,y_,y_,n_,n_,n_,n_,n_,n_,n_]
def impl_Raga_firstWrong.K4 : Array Bool := #[y_,y_,y_,n_,y_,n_,n_,n_,n_,n_]
def impl_Raga_firstWrong.K5 : Array Bool := #[y_,y_,y_,y_,y_,n_,n_,n_,n_,n_]
def impl_Raga_firstWrong.K6 : Array Bool := #[y_,y_,y_,y_,y_,y_,n_,n_,n_,n_]
def impl_Raga_firstWrong.K7 : Array Bool := #[y_,y_,y_,y_,y_,y_,y_,n_,n_,n_]
def impl_Raga_firstWrong.K8 : Array Bool := #[y_,y_,y_,y_,y_,y_,y_,y_,n_,n_]
def impl_Raga_firstWrong.K9 : Array Bool := #[y_,y_,y_,y_,y_,y_,y_,y_,y_,n_]
def impl_Raga_firstWrong.K10 : Array Bool := #[y_,y_,y_,y_,y_,y_,y_,y_,y_,y_]
def impl_Raga_firstWrong.K11 : Array Bool := #[y_,y_,y_,y_,n_,n_,n_,n_,n_,n_]
def impl_Raga_firstWrong.K12 : Array Bool := #[n_,n_,n_,n_,n_,n_,n_,n_,n_,n_,n_,n_,n_,n_]
def impl_Raga_firstWrong.K13 : Array Bool := #[y_,n_,n_,n_,n_,n_,n_,n_,n_,n_,n_,n_,n_,n_]
def impl_Raga_firstWrong.K14 : Array Bool := #[y_,y_,n_,n_,n_,n_,n_,n_,n_,n_,n_,n_,n_,n_]
def impl_Raga_firstWrong.K15 : Array Bool := #[y_,y_,y_,n_,n_,n_,n_,n_,n_,n_,n_,n_,n_,n_]
def impl_Raga_firstWrong.K16 : Array Bool := #[y_,y_,y_,n_,y_,n_,n_,n_,n_,n_,n_,n_,n_,n_]
def impl_Raga_firstWrong.K17 : Array Bool := #[y_,y_,y_,n_,y_,y_,n_,n_,n_,n_,n_,n_,n_,n_]
def impl_Raga_firstWrong.K18 : Array Bool := #[y_,y_,y_,n_,y_,y_,y_,n_,n_,n_,n_,n_,n_,n_]
def impl_Raga_firstWrong.K19 : Array Bool := #[y_,y_,y_,n_,y_,y_,y_,y_,n_,n_,n_,n_,n_,n_]
def impl_Raga_firstWrong.K20 : Array Bool := #[y_,y_,y_,n_,y_,y_,y_,y_,n_,y_,n_,n_,n_,n_]
def impl_Raga_firstWrong.K21 : Array Bool := #[y_,y_,y_,y_,y_,y_,y_,y_,n_,y_,n_,n_,n_,n_]
def impl_Raga_firstWrong.K22 : Array Bool := #[y_,y_,y_,y_,y_,y_,y_,y_,y_,y_,n_,n_,n_,n_]
def impl_Raga_firstWrong.K23 : Array Bool := #[y_,y_,y_,y_,y_,y_,y_,y_,y_,y_,y_,n_,n_,n_]
def impl_Raga_firstWrong.K24 : Array Bool := #[y_,y_,y_,y_,y_,y_,y_,y_,y_,y_,y_,y_,n_,n_]
def impl_Raga_firstWrong.K25 : Array Bool := #[y_,y_,y_,y_,y_,y_,y_,y_,y_,y_,y_,y_,y_,n_]
def impl_Raga_firstWrong.K26 : Array Bool := #[y_,y_,y_,y_,y_,y_,y_,y_,y_,y_,y_,y_,y_,y_]
def impl_Raga_firstWrong.K27 : Array Bool := #[n_,n_,n_,n_,n_,n_,n_,n_,n_,n_,n_]
def impl_Raga_firstWrong.K28 : Array Bool := #[y_,n_,n_,n_,n_,n_,n_,n_,n_,n_,n_]
def impl_Raga_firstWrong.K29 : Array Bool := #[y_,n_,y_,n_,n_,n_,n_,n_,n_,n_,n_]
def impl_Raga_firstWrong.K30 : Array Bool := #[y_,n_,y_,y_,n_,n_,n_,n_,n_,n_,n_]
def impl_Raga_firstWrong.K31 : Array Bool := #[y_,n_,y_,y_,y_,n_,n_,n_,n_,n_,n_]
def impl_Raga_firstWrong.K32 : Array Bool := #[y_,n_,y_,y_,y_,y_,n_,n_,n_,n_,n_]
def impl_Raga_firstWrong.K33 : Array Bool := #[y_,n_,y_,y_,y_,y_,n_,y_,n_,n_,n_]
def impl_Raga_firstWrong.K34 : Array Bool := #[y_,y_,y_,y_,y_,y_,n_,y_,n_,n_,n_]
def impl_Raga_firstWrong.K35 : Array Bool := #[y_,y_,y_,y_,y_,y_,y_,y_,n_,n_,n_]
def impl_Raga_firstWrong.K36 : Array Bool := #[y_,y_,y_,y_,y_,y_,y_,y_,y_,n_,n_]
def impl_Raga_firstWrong.K37 : Array Bool := #[y_,y_,y_,y_,y_,y_,y_,y_,y_,y_,n_]
def impl_Raga_firstWrong.K38 : Array Bool := #[y_,y_,y_,y_,y_,y_,y_,y_,y_,y_,y_]
def impl_Raga_firstWrong.K39 : Array Bool := #[y_,y_,y_,y_,n_,n_,n_,n_,n_,n_,n_,n_,n_,n_]
def impl_Raga_firstWrong.K40 : Array Bool := #[y_,y_,y_,y_,y_,n_,n_,n_,n_,n_,n_,n_,n_,n_]
def impl_Raga_firstWrong.K41 : Array Bool := #[y_,y_,y_,y_,y_,y_,n_,n_,n_,n_,n_,n_,n_,n_]
def impl_Raga_firstWrong.K42 : Array Bool := #[y_,y_,y_,y_,y_,y_,y_,n_,n_,n_,n_,n_,n_,n_]
def impl_Raga_firstWrong.K43 : Array Bool := #[y_,y_,y_,y_,y_,y_,y_,y_,n_,n_,n_,n_,n_,n_]
def impl_Raga_firstWrong.K44 : Array Bool := #[y_,y_,y_,y_,y_,y_,y_,y_,y_,n_,n_,n_,n_,n_]
mutual
def impl_Raga_firstWrong.l0 : Nat → List Int → List Int → Int → Int → ByteArray → List Int → List Int → Int → Int → List (List Int) → Option (Int × Int)
 | 0, _, _, _, _, _, _, _, _, _, _ => none
 | k + 1, x1, x8, x9, x10, x578000, x578001, x578002, x578003, x578004, x578005 => if x10 < x9 then (if 0 ≤ x10 then (if x10 < (x8.length : Int) then (if x10 = 0 then ((impl_ToneOf.f (rd x8 x10)).bind fun t579 => ((impl_Raga_hasTone.f k x578000 x578001 x578002 x578003 x578004 x578005 t579).bind fun t580 => (impl_Raga_firstWrong.j1 k x1 x10 (rd x8 x10) x8 x9 x10 (!t580) x578000 x578001 x578002 x578003 x578004 x578005))) else (impl_Raga_firstWrong.j1 k x1 x10 (rd x8 x10) x8 x9 x10 false x578000 x578001 x578002 x578003 x578004 x578005)) else (none)) else (none)) else (some (0, 0))
def impl_Raga_firstWrong.j1 : Nat → List Int → Int → Int → List Int → Int → Int → Bool → ByteArray → List Int → List Int → Int → Int → List (List Int) → Option (Int × Int)
 | 0, _, _, _, _, _, _, _, _, _, _, _, _, _ => none
 | k + 1, x1, x6, x7, x8, x9, x10, x15, x578000, x578001, x578002, x578003, x578004, x578005 => if x15 = true then (some (0, 1)) else (if x6 > 0 then (if 0 ≤ (wrap64 (x6 - 1)) then (if (wrap64 (x6 - 1)) < (x1.length : Int) then ((impl_Raga_reason.f k x578000 x578001 x578002 x578003 x578004 x578005 (rd x1 (wrap64 (x6 - 1))) x7).bind fun t582 => (if t582 = 0 then (impl_Raga_firstWrong.l0 k x1 x8 x9 (wrap64 (x10 + 1)) x578000 x578001 x578002 x578003 x578004 x578005) else ((impl_Raga_reason.f k x578000 x578001 x578002 x578003 x578004 x578005 (rd x1 (wrap64 (x6 - 1))) x7).bind fun t584 => (some (x6, t584))))) else (none)) else (none)) else (impl_Raga_firstWrong.l0 k x1 x8 x9 (wrap64 (x10 + 1)) x578000 x578001 x578002 x578003 x578004 x578005))
end
def impl_Raga_firstWrong.f (k : Nat) (a0_0 : ByteArray) (l0_1 : List Int) (l0_2 : List Int) (a0_3 : Int) (a0_4 : Int) (l0_5 : List (List Int)) (l1 : List Int) : Option (Int × Int) := impl_Raga_firstWrong.l0 k l1 l1 (l1.length : Int) 0 a0_0 l0_1 l0_2 a0_3 a0_4 l0_5
def impl_Raga_firstWrong.T4 : Bool × List (List Nat × List Nat) := (true, [([], []), ([0], [0]), ([1], [1]), ([2], [2]), ([2], [2]), ([4, 2, 2], [2, 4]), ([3, 5, 5, 2], [2, 3, 5]), ([6, 2], [2, 6]), ([2, 7], [2, 7]), ([8, 6], [8])])
def impl_Raga_firstWrong.B4 : List Nat := [0, 1, 3, 7, 7, 23, 63, 127, 255, 511]
theorem impl_Raga_firstWrong.tab4 : rtab .any (opsOf Try.f109 4) = impl_Raga_firstWrong.T4 := by kernel_rfl
theorem impl_Raga_firstWrong.bits4 : waitsOk impl_Raga_firstWrong.T4.2 impl_Raga_firstWrong.B4 = true := by kernel_rfl
def impl_Raga_firstWrong.T6 : Bool × List (List Nat × List Nat) := (true, [([], []), ([0], [0]), ([1], [1]), ([2], [2]), ([2], [2]), ([2], [2]), ([5, 2], [2, 5]), ([4, 6, 2], [2, 4, 6]), ([7, 2], [2, 7]), ([2], [2]), ([3, 8, 9, 2, 2], [2, 3, 8, 9]), ([10, 2], [2, 10]), ([2, 11], [2, 11]), ([12, 10], [12])])
def impl_Raga_firstWrong.B6 : List Nat := [0, 1, 3, 7, 7, 7, 39, 119, 247, 7, 1023, 2047, 4095, 8191]
theorem impl_Raga_firstWrong.tab6 : rtab .any (opsOf Try.f109 6) = impl_Raga_firstWrong.T6 := by kernel_rfl
theorem impl_Raga_firstWrong.bits6 : waitsOk impl_Raga_firstWrong.T6.2 impl_Raga_firstWrong.B6 = true := by kernel_rfl
def impl_Raga_firstWrong.T7 : Bool × List (List Nat × List Nat) := (true, [([], []), ([], []), ([], []), ([], []), ([3], [3]), ([2, 4], [2, 4]), ([5], [5]), ([], []), ([1, 6, 7], [1, 6, 7]), ([0, 8, 0], [0]), ([8, 9, 0, 1, 2, 3, 4, 5, 6, 7, 8, 9], [8])])
def impl_Raga_firstWrong.B7 : List Nat := [0, 0, 0, 0, 8, 28, 60, 0, 254, 511, 1023]
theorem impl_Raga_firstWrong.tab7 : rtab .any (opsOf Try.f109 7) = impl_Raga_firstWrong.T7 := by kernel_rfl
theorem impl_Raga_firstWrong.bits7 : waitsOk impl_Raga_firstWrong.T7.2 impl_Raga_firstWrong.B7 = true := by kernel_rfl
set_option maxHeartbeats 8000000 in
set_option maxRecDepth 100000 in
theorem impl_Raga_firstWrong.calls (k : Nat) (a0_0 : ByteArray) (A0_1 : Option Addr) (c0_1 : Nat) (l0_1 : List Int) (A0_2 : Option Addr) (c0_2 : Nat) (l0_2 : List Int) (a0_3 : Int) (a0_4 : Int) (A0_5 : Option Addr) (c0_5 : Nat) (l0_5 : List (List Int)) (A1 : Option Addr) (c1 : Nat) (l1 : List Int) (r1 : Int) (r2 : Int) (w : World) (hr0_1 : Kd.C (Kd.int .i64) w A0_1 l0_1.length l0_1) (hc0_1 : l0_1.length ≤ c0_1) (hr0_2 : Kd.C (Kd.int .i64) w A0_2 l0_2.length l0_2) (hc0_2 : l0_2.length ≤ c0_2) (hr0_5 : Kd.C (Kd.slice 2 (Kd.int .i64)) w A0_5 l0_5.length l0_5) (hc0_5 : l0_5.length ≤ c0_5) (hr1 : Kd.C (Kd.int .i64) w A1 l1.length l1) (hc1 : l1.length ≤ c1) (h : impl_Raga_firstWrong.f k a0_0 l0_1 l0_2 a0_3 a0_4 l0_5 l1 = some (r1, r2)) :
  Calls Try.prog 109 #[.agg #[.string a0_0, .slice A0_1 l0_1.length c0_1, .slice A0_2 l0_2.length c0_2, .int .i64 a0_3, .int .i64 a0_4, .slice A0_5 l0_5.length c0_5], .slice A1 l1.length c1] w fun e w' => e = .returned (.tuple #[.int .i64 r1, .int .i64 r2]) ∧ Below w.heap.size w w' := by
 have hu29 := Try.underlying29
 have HR0_1 := Aside0.mk hr0_1
 have HC0_1 := Aside0.mk hc0_1
 clear hr0_1 hc0_1
 have HR0_2 := Aside0.mk hr0_2
 have HC0_2 := Aside0.mk hc0_2
 clear hr0_2 hc0_2
 have HR0_5 := Aside0.mk hr0_5
 have HC0_5 := Aside0.mk hc0_5
 clear hr0_5 hc0_5
 have HR1 := Aside0.mk hr1
 have HC1 := Aside0.mk hc1
 clear hr1 hc1
 have HB := Aside0.mk (Below.refl w.heap.size w)
 have H : (impl_Raga_firstWrong.l0 k l1 l1 (l1.length : Int) 0 a0_0 l0_1 l0_2 a0_3 a0_4 l0_5) = some (r1, r2) := h
 clear h
 have H' := Aside0.mk H
 clear H
 go_enter Try.func109, Try.ntmps109
 go_wp2_with (first | ((with_reducible refine gate_dst (N := 2) rfl ?_); refine box_event ?hg (N := 2) ?hd (cs := #[.string a0_0, .slice A0_1 l0_1.length c0_1, .slice A0_2 l0_2.length c0_2, .int .i64 a0_3, .int .i64 a0_4, .slice A0_5 l0_5.length c0_5]) (t := 29) ?hr ?_; (case hd => rfl); (case hg => rfl); (case hr => first | (go_simp; done) | (go_simp; rfl)); intro gb577 hg w3 hbox hb; have n0_ := Aside0.mk (below_step (ba_ HB.out) hb); have n1_ := Aside0.mk (hbox); have n2_ := Aside0.mk ((by rw [hg]; exact (below_size (ba_ HB.out)) : w.heap.size ≤ gb577)); have n3_ := Aside0.mk ((by rw [hg]; exact (below_size (ba_ HB.out)) : w.heap.size ≤ gb577)); clear HB; have HB := n0_; have BK577 := n1_; have GW577 := n2_; have GE577 := n3_; clear n0_ n1_ n2_ n3_; clear hb hbox hg))
 go_loopg [10] k (fun kq v10 w' => ∃ (x10_1 : Int), v10 = .int .i64 x10_1 ∧ Aside0 (impl_Raga_firstWrong.l0 kq l1 l1 (l1.length : Int) x10_1 a0_0 l0_1 l0_2 a0_3 a0_4 l0_5 = some (r1, r2)) ∧ Aside0 (kq ≤ k) ∧ Aside0 (w'.heap[gb577]? = some (.cells #[.string a0_0, (.slice A0_1 l0_1.length c0_1), (.slice A0_2 l0_2.length c0_2), .int .i64 a0_3, .int .i64 a0_4, (.slice A0_5 l0_5.length c0_5)] 29 (0, 0))) ∧ Aside0 (Below w.heap.size w w'))
 case atStart => exact ⟨(0), sv_, H', ⟨Nat.le_refl _⟩, ⟨by (with_reducible repeat (first | refine blk_drewN ?_ _ | refine blk_drew ?_ | refine blk_alloc ?_ _)); exact BK577.out⟩, ⟨bg_ HB.out GE577.out⟩⟩
 case round =>
  clear H'
  (try clear c1); (try clear p2)
  obtain ⟨x10_1, rfl, HA, HK1, BK577, HB⟩ := hrel
  cases gk with
  | zero => exact absurd HA.out (by simp [impl_Raga_firstWrong.l0])
  | succ k1 =>
   have H := HA.out
   clear HA
   simp only [impl_Raga_firstWrong.l0] at H
   by_cases c4 : x10_1 < (l1.length : Int)
   ·rw [if_pos c4] at H
    have c4b0 : decide (x10_1 < (l1.length : Int)) = true := decide_eq_true c4
    clear c4
    by_cases c5 : 0 ≤ x10_1
    ·rw [if_pos c5] at H
     have c5b0 : decide (0 ≤ x10_1) = true := decide_eq_true c5
     clear c5
     by_cases c6 : x10_1 < (l1.length : Int)
     ·rw [if_pos c6] at H
      have c6b0 : decide (x10_1 < (l1.length : Int)) = true := decide_eq_true c6
      clear c6; have HC7 := Aside0.mk H; clear H
      have p578 : 0 ≤ (x10_1 : Int) := da_
      have q578 : x10_1 < (l1.length : Int) := da_
      obtain ⟨ad578, e578, hx578_0⟩ := Kd.at_int HR1.out x10_1 p578 q578; cases e578
      replace hx578_0 := (wc_ HB.out hx578_0 :)
      replace p578 := eq_true p578; replace q578 := eq_true q578
      go_upto_region 4 with (fail)
      go_cut [15] (fun v15 wc => ∃ (kq : Nat) (x15_6 : Bool), v15 = .bool x15_6 ∧ Aside0 (impl_Raga_firstWrong.j1 kq l1 x10_1 (rd l1 x10_1) l1 (l1.length : Int) x10_1 x15_6 a0_0 l0_1 l0_2 a0_3 a0_4 l0_5 = some (r1, r2)) ∧ Aside0 (kq ≤ k1) ∧ Aside0 (wc.heap[gb577]? = some (.cells #[.string a0_0, (.slice A0_1 l0_1.length c0_1), (.slice A0_2 l0_2.length c0_2), .int .i64 a0_3, .int .i64 a0_4, (.slice A0_5 l0_5.length c0_5)] 29 (0, 0))) ∧ Aside0 (Below w.heap.size w wc))
      case first =>
       have H := HC7.out; clear HC7
       by_cases c8 : x10_1 = 0
       ·rw [if_pos c8] at H
        have c8b0 : (x10_1 == 0) = true := beq_iff_eq.mpr c8
        have c8b1 : (x10_1 != 0) = false := bne_eq_false_iff_eq.mpr c8
        clear c8
        (first | rw [c8b0] | (simp only [i64_w, i32_w]; rw [c8b0]) | skip)
        replace H := Option.bind_eq_some_iff.mp H
        obtain ⟨t579, A90, H⟩ := H
        replace H : ((impl_Raga_hasTone.f k1 a0_0 l0_1 l0_2 a0_3 a0_4 l0_5 t579).bind fun t580 => (impl_Raga_firstWrong.j1 k1 l1 x10_1 (rd l1 x10_1) l1 (l1.length : Int) x10_1 (!t580) a0_0 l0_1 l0_2 a0_3 a0_4 l0_5)) = some (r1, r2) := H
        have A9 := Aside0.mk A90; clear A90
        replace H := Option.bind_eq_some_iff.mp H
        obtain ⟨t580, A100, H⟩ := H
        replace H : (impl_Raga_firstWrong.j1 k1 l1 x10_1 (rd l1 x10_1) l1 (l1.length : Int) x10_1 (!t580) a0_0 l0_1 l0_2 a0_3 a0_4 l0_5) = some (r1, r2) := H
        have A10 := Aside0.mk A100; clear A100
        have H' := Aside0.mk H
        clear H
        try go_wp2
        have n0_ := Aside0.mk (blk_drew BK577.out)
        have n1_ := Aside0.mk (below_drew1 HB.out)
        clear BK577; clear HB; have BK577 := n0_; have HB := n1_; clear n0_ n1_
        refine start_ (n := 10) (S := fun w' => w'.cell? ⟨gb577, 0, none⟩ = some (.string a0_0) ∧ w'.cell? ⟨gb577, 1, none⟩ = some (.slice A0_1 l0_1.length c0_1) ∧ w'.cell? ⟨gb577, 2, none⟩ = some (.slice A0_2 l0_2.length c0_2) ∧ w'.cell? ⟨gb577, 3, none⟩ = some (.int .i64 a0_3) ∧ w'.cell? ⟨gb577, 4, none⟩ = some (.int .i64 a0_4) ∧ w'.cell? ⟨gb577, 5, none⟩ = some (.slice A0_5 l0_5.length c0_5)) (ds := []) impl_Raga_firstWrong.K0 (by kernel_rfl) rfl rfl ⟨(blk_cell BK577.out 0).trans rfl, (blk_cell BK577.out 1).trans rfl, (blk_cell BK577.out 2).trans rfl, (blk_cell BK577.out 3).trans rfl, (blk_cell BK577.out 4).trans rfl, (blk_cell BK577.out 5).trans rfl⟩ (fun hHeld => ?_); refine with_tabW impl_Raga_firstWrong.tab4 impl_Raga_firstWrong.bits4 (fun HT_ HW_ => ?_)
        generalize wr.drew = w11 at BK577 HB hHeld ⊢
        refine pu_ HT_ 0 16 impl_Raga_firstWrong.K1 ?_; refine pu_ HT_ 1 17 impl_Raga_firstWrong.K2 ?_; refine pu_ HT_ 2 18 impl_Raga_firstWrong.K3 ?_; refine pu_ HT_ 4 20 impl_Raga_firstWrong.K4 ?_; refine tk_ HT_ HW_ hHeld 3 19 impl_Raga_firstWrong.K5 ?_
        refine one_ (i := 5) (N := some 21) impl_Raga_firstWrong.K6 rfl rfl (one_of HT_.out (by kernel_rfl)) (by decide) (fun K hK => ?_)
        refine goes_ Try.func70 (by kernel_rfl) rfl #[.int .i64 (rd l1 x10_1)] (by rfl) rfl rfl av_ ?_
        with_reducible refine (impl_ToneOf.calls (rd l1 x10_1) t579 _ A9.out).mono ?_
        rintro e w' ⟨rfl, ⟨nd, rfl⟩⟩
        refine ⟨_, rfl, ?_⟩
        refine hK.out _ _ ⟨(blk_cell BK577.out 0).trans rfl, (blk_cell BK577.out 1).trans rfl, (blk_cell BK577.out 2).trans rfl, (blk_cell BK577.out 3).trans rfl, (blk_cell BK577.out 4).trans rfl, (blk_cell BK577.out 5).trans rfl⟩ (fun hHeld => ?_)
        clear hK K; refine norm_ (a' := ?_) ?_ ?_; rotate_left
        ·show Act.put _ (some 21) _ = _
         go_simp
         rfl
        refine one_ (i := 6) (N := some 22) impl_Raga_firstWrong.K7 rfl rfl (one_of HT_.out (by kernel_rfl)) (by decide) (fun K hK => ?_)
        refine goes_ Try.func69 (by kernel_rfl) rfl #[.agg #[.string a0_0, .slice A0_1 l0_1.length c0_1, .slice A0_2 l0_2.length c0_2, .int .i64 a0_3, .int .i64 a0_4, .slice A0_5 l0_5.length c0_5], .int .i64 t579] (by rfl) rfl rfl av_ ?_
        with_reducible refine (impl_Raga_hasTone.calls k1 a0_0 _ _ l0_1 _ _ l0_2 a0_3 a0_4 _ _ l0_5 t579 t580 _ ?side1 ?side2 ?side3 ?side4 ?side5 ?side6 A10.out).mono ?_
        (case side1 => repeat (first | exact (Kd.C_below HR0_1.out (bg_ HB.out GE577.out)) | (with_reducible refine Kd.C_alloc ?_ _) | (with_reducible refine Kd.C_drewN ?_ _) | (with_reducible refine Kd.C_drew ?_)))
        (case side2 => exact HC0_1.out)
        (case side3 => repeat (first | exact (Kd.C_below HR0_2.out (bg_ HB.out GE577.out)) | (with_reducible refine Kd.C_alloc ?_ _) | (with_reducible refine Kd.C_drewN ?_ _) | (with_reducible refine Kd.C_drew ?_)))
        (case side4 => exact HC0_2.out)
        (case side5 => repeat (first | exact (Kd.C_below HR0_5.out (bg_ HB.out GE577.out)) | (with_reducible refine Kd.C_alloc ?_ _) | (with_reducible refine Kd.C_drewN ?_ _) | (with_reducible refine Kd.C_drew ?_)))
        (case side6 => exact HC0_5.out)
        rintro e w12 ⟨rfl, hb⟩
        refine ⟨_, rfl, ?_⟩
        have n0_ := Aside0.mk (blk_below (g := gb577) (o := .cells #[.string a0_0, .slice A0_1 l0_1.length c0_1, .slice A0_2 l0_2.length c0_2, .int .i64 a0_3, .int .i64 a0_4, .slice A0_5 l0_5.length c0_5] 29 (0, 0)) (by repeat first | exact BK577.out | refine blk_drewN ?_ _ | refine blk_drew ?_ | refine blk_alloc ?_ _) hb)
        have n1_ := Aside0.mk (below_step (bg_ HB.out GE577.out) hb)
        clear BK577; clear HB; have BK577 := n0_; have HB := n1_; clear n0_ n1_; (try clear hb); (try clear hb2); (try clear hk); (try clear hi)
        refine hK.out _ _ ⟨(blk_cell BK577.out 0).trans rfl, (blk_cell BK577.out 1).trans rfl, (blk_cell BK577.out 2).trans rfl, (blk_cell BK577.out 3).trans rfl, (blk_cell BK577.out 4).trans rfl, (blk_cell BK577.out 5).trans rfl⟩ (fun hHeld => ?_)
        clear hK K; refine norm_ (a' := ?_) ?_ ?_; rotate_left
        ·show Act.put _ (some 22) _ = _
         go_simp
         rfl
        refine pu_ HT_ 7 23 impl_Raga_firstWrong.K8 ?_; refine pu_ HT_ 8 24 impl_Raga_firstWrong.K9 ?_; refine pu_ HT_ 9 15 impl_Raga_firstWrong.K10 ?_
        refine done_ (done_of HT_.out (by kernel_rfl)) ?_
        try go_wp2
        go_meet
        case rel => exact ⟨_, (!t580), sv_, H', ⟨by have := HK1.out; first | omega | exact Nat.le_refl _⟩, ⟨by (with_reducible repeat (first | refine blk_drewN ?_ _ | refine blk_drew ?_ | refine blk_alloc ?_ _)); exact BK577.out⟩, ⟨bg_ HB.out GE577.out⟩⟩
       ·rw [if_neg c8] at H
        have c8b0 : (x10_1 == 0) = false := beq_eq_false_iff_ne.mpr c8
        have c8b1 : (x10_1 != 0) = true := bne_iff_ne.mpr c8
        (first | rw [c8b0] | (simp only [i64_w, i32_w]; rw [c8b0]) | skip)
        have H' := Aside0.mk H
        clear H
        try go_wp2
        have n0_ := Aside0.mk (blk_drew BK577.out)
        have n1_ := Aside0.mk (below_drew1 HB.out)
        clear BK577; clear HB; have BK577 := n0_; have HB := n1_; clear n0_ n1_
        refine start_ (n := 10) (S := fun w' => True) (ds := []) impl_Raga_firstWrong.K0 (by kernel_rfl) rfl rfl trivial (fun hHeld => ?_); refine with_tabW impl_Raga_firstWrong.tab4 impl_Raga_firstWrong.bits4 (fun HT_ HW_ => ?_)
        generalize wr.drew = w13 at BK577 HB hHeld ⊢
        refine pu_ HT_ 0 16 impl_Raga_firstWrong.K1 ?_; refine pu_ HT_ 1 17 impl_Raga_firstWrong.K2 ?_; refine pu_ HT_ 2 18 impl_Raga_firstWrong.K3 ?_; refine un_ HT_ 3 19 impl_Raga_firstWrong.K11 ?_; refine un_ HT_ 4 20 impl_Raga_firstWrong.K5 ?_; refine un_ HT_ 5 21 impl_Raga_firstWrong.K6 ?_; refine un_ HT_ 6 22 impl_Raga_firstWrong.K7 ?_; refine un_ HT_ 7 23 impl_Raga_firstWrong.K8 ?_; refine pu_ HT_ 8 24 impl_Raga_firstWrong.K9 ?_; refine pu_ HT_ 9 15 impl_Raga_firstWrong.K10 ?_
        refine done_ (done_of HT_.out (by kernel_rfl)) ?_
        try go_wp2
        go_meet
        case rel => exact ⟨_, (false), sv_, H', ⟨by have := HK1.out; first | omega | exact Nat.le_refl _⟩, ⟨by (with_reducible repeat (first | refine blk_drewN ?_ _ | refine blk_drew ?_ | refine blk_alloc ?_ _)); exact BK577.out⟩, ⟨bg_ HB.out GE577.out⟩⟩
      case rest =>
       clear HC7; (try clear c1); (try clear p2); (try clear c4); (try clear c4b0); (try clear c5); (try clear c5b0); (try clear p5); (try clear q5); (try clear hx5); (try clear c6); (try clear c6b0); (try clear c7); (try clear c8); (try clear c8b0); (try clear c8b1); (try clear c10); (try clear hx578_0); (try clear p2); (try clear p578); (try clear q578); obtain ⟨kq, x15_6, rfl, HA, HJ6, BK577, HB⟩ := hcut
       cases kq with
       | zero => exact absurd HA.out (by simp [impl_Raga_firstWrong.j1])
       | succ kj6 =>
        have H := HA.out; clear HA
        simp only [impl_Raga_firstWrong.j1] at H
        by_cases c14 : x15_6 = true
        ·subst c14
         have H1 : (some (0, 1)) = some (r1, r2) := by rw [if_pos rfl] at H; exact H
         clear H; have H := H1; clear H1
         simp only [Option.some.injEq, Prod.mk.injEq] at H
         obtain ⟨rfl, rfl⟩ := H
         go_wp2
         go_ret2
         exact ⟨by first | rfl | (simp [errW_none, errW_some] <;> rfl) | (simp [*, errW_none, errW_some] <;> rfl), bg_ HB.out GE577.out⟩
        ·replace c14 := Bool.eq_false_iff.mpr c14
         subst c14
         have H1 : (if x10_1 > 0 then (if 0 ≤ (wrap64 (x10_1 - 1)) then (if (wrap64 (x10_1 - 1)) < (l1.length : Int) then ((impl_Raga_reason.f kj6 a0_0 l0_1 l0_2 a0_3 a0_4 l0_5 (rd l1 (wrap64 (x10_1 - 1))) (rd l1 x10_1)).bind fun t582 => (if t582 = 0 then (impl_Raga_firstWrong.l0 kj6 l1 l1 (l1.length : Int) (wrap64 (x10_1 + 1)) a0_0 l0_1 l0_2 a0_3 a0_4 l0_5) else ((impl_Raga_reason.f kj6 a0_0 l0_1 l0_2 a0_3 a0_4 l0_5 (rd l1 (wrap64 (x10_1 - 1))) (rd l1 x10_1)).bind fun t584 => (some (x10_1, t584))))) else (none)) else (none)) else (impl_Raga_firstWrong.l0 kj6 l1 l1 (l1.length : Int) (wrap64 (x10_1 + 1)) a0_0 l0_1 l0_2 a0_3 a0_4 l0_5)) = some (r1, r2) := by rw [if_neg (show ¬ (false = true) by decide)] at H; exact H
         clear H; have H := H1; clear H1
         by_cases c15 : x10_1 > 0
         ·rw [if_pos c15] at H
          have c15b0 : decide (0 < x10_1) = true := decide_eq_true c15
          clear c15
          obtain ⟨ji16, hji16⟩ : ∃ j_ : Int, (wrap64 (x10_1 - 1)) = j_ := ⟨_, rfl⟩
          replace H : (if 0 ≤ (ji16) then (if (ji16) < (l1.length : Int) then ((impl_Raga_reason.f kj6 a0_0 l0_1 l0_2 a0_3 a0_4 l0_5 (rd l1 (ji16)) (rd l1 x10_1)).bind fun t582 => (if t582 = 0 then (impl_Raga_firstWrong.l0 kj6 l1 l1 (l1.length : Int) (wrap64 (x10_1 + 1)) a0_0 l0_1 l0_2 a0_3 a0_4 l0_5) else ((impl_Raga_reason.f kj6 a0_0 l0_1 l0_2 a0_3 a0_4 l0_5 (rd l1 (ji16)) (rd l1 x10_1)).bind fun t584 => (some (x10_1, t584))))) else (none)) else (none)) = some (r1, r2) := by first | (rw [hji16] at H; exact H) | (simp only [hji16] at H ⊢; exact H)
          have hji16w : (IntKind.i64.wrap (x10_1 - 1)) = ji16 := (i64_w _).trans hji16
          by_cases c17 : 0 ≤ (ji16)
          ·rw [if_pos c17] at H
           have c17b0 : decide (0 ≤ (ji16)) = true := decide_eq_true c17
           clear c17
           by_cases c18 : (ji16) < (l1.length : Int)
           ·rw [if_pos c18] at H
            have c18b0 : decide ((ji16) < (l1.length : Int)) = true := decide_eq_true c18
            clear c18
            replace H := Option.bind_eq_some_iff.mp H
            obtain ⟨t582, A190, H⟩ := H
            replace H : (if t582 = 0 then (impl_Raga_firstWrong.l0 kj6 l1 l1 (l1.length : Int) (wrap64 (x10_1 + 1)) a0_0 l0_1 l0_2 a0_3 a0_4 l0_5) else ((impl_Raga_reason.f kj6 a0_0 l0_1 l0_2 a0_3 a0_4 l0_5 (rd l1 (ji16)) (rd l1 x10_1)).bind fun t584 => (some (x10_1, t584)))) = some (r1, r2) := H
            have A19 := Aside0.mk A190; clear A190
            by_cases c20 : t582 = 0
            ·rw [if_pos c20] at H
             have c20b0 : (t582 == 0) = true := beq_iff_eq.mpr c20
             have c20b1 : (t582 != 0) = false := bne_eq_false_iff_eq.mpr c20
             clear c20
             have H' := Aside0.mk H
             clear H
             try go_wp2
             have n0_ := Aside0.mk (blk_drew BK577.out)
             have n1_ := Aside0.mk (below_drew1 HB.out)
             clear BK577; clear HB; have BK577 := n0_; have HB := n1_; clear n0_ n1_
             have p581 : 0 ≤ ((ji16) : Int) := da_
             have q581 : (ji16) < (l1.length : Int) := da_
             obtain ⟨ad581, e581, hx581_0⟩ := Kd.at_int HR1.out (ji16) p581 q581; have hw581_0 := hx581_0; obtain rfl : ad578 = ad581 := (by injection e581)
             replace hx581_0 := (wc_ HB.out hx581_0 :)
             replace p581 := eq_true p581; replace q581 := eq_true q581
             refine start_ (n := 14) (S := fun w' => w'.cell? ⟨gb577, 0, none⟩ = some (.string a0_0) ∧ w'.cell? ⟨gb577, 1, none⟩ = some (.slice A0_1 l0_1.length c0_1) ∧ w'.cell? ⟨gb577, 2, none⟩ = some (.slice A0_2 l0_2.length c0_2) ∧ w'.cell? ⟨gb577, 3, none⟩ = some (.int .i64 a0_3) ∧ w'.cell? ⟨gb577, 4, none⟩ = some (.int .i64 a0_4) ∧ w'.cell? ⟨gb577, 5, none⟩ = some (.slice A0_5 l0_5.length c0_5) ∧ w'.cell? (ad578.add ((ji16)).toNat) = some (.int .i64 (rd l1 (ji16)))) (ds := []) impl_Raga_firstWrong.K12 (by kernel_rfl) rfl rfl ⟨(blk_cell BK577.out 0).trans rfl, (blk_cell BK577.out 1).trans rfl, (blk_cell BK577.out 2).trans rfl, (blk_cell BK577.out 3).trans rfl, (blk_cell BK577.out 4).trans rfl, (blk_cell BK577.out 5).trans rfl, (wc_ HB.out hw581_0 :)⟩ (fun hHeld => ?_); refine with_tabW impl_Raga_firstWrong.tab6 impl_Raga_firstWrong.bits6 (fun HT_ HW_ => ?_)
             generalize wc.drew = w21 at BK577 HB hx581_0 hHeld ⊢
             refine pu_ HT_ 0 26 impl_Raga_firstWrong.K13 ?_; refine pu_ HT_ 1 27 impl_Raga_firstWrong.K14 ?_; refine pu_ HT_ 2 28 impl_Raga_firstWrong.K15 ?_; refine pu_ HT_ 4 30 impl_Raga_firstWrong.K16 ?_; refine pu_ HT_ 5 31 impl_Raga_firstWrong.K17 ?_; refine pu_ HT_ 6 32 impl_Raga_firstWrong.K18 ?_; refine pu_ HT_ 7 33 impl_Raga_firstWrong.K19 ?_; refine pu_ HT_ 9 35 impl_Raga_firstWrong.K20 ?_; refine tk_ HT_ HW_ hHeld 3 29 impl_Raga_firstWrong.K21 ?_; refine tk_ HT_ HW_ hHeld 8 34 impl_Raga_firstWrong.K22 ?_
             refine one_ (i := 10) (N := some 36) impl_Raga_firstWrong.K23 rfl rfl (one_of HT_.out (by kernel_rfl)) (by decide) (fun K hK => ?_)
             refine goes_ Try.func120 (by kernel_rfl) rfl #[.agg #[.string a0_0, .slice A0_1 l0_1.length c0_1, .slice A0_2 l0_2.length c0_2, .int .i64 a0_3, .int .i64 a0_4, .slice A0_5 l0_5.length c0_5], .int .i64 (rd l1 (ji16)), .int .i64 (rd l1 x10_1)] (by rfl) rfl rfl (by (try simp only [List.map_toArray, List.map_cons, List.map_nil]); first | done | (simp only [hji16]; rfl) | rfl | (simp only [List.length_drop, List.length_take]; rfl)) ?_
             with_reducible refine (impl_Raga_reason.calls kj6 a0_0 _ _ l0_1 _ _ l0_2 a0_3 a0_4 _ _ l0_5 (rd l1 (ji16)) (rd l1 x10_1) t582 _ ?side1 ?side2 ?side3 ?side4 ?side5 ?side6 A19.out).mono ?_
             (case side1 => exact (Kd.C_below HR0_1.out HB.out))
             (case side2 => exact HC0_1.out)
             (case side3 => exact (Kd.C_below HR0_2.out HB.out))
             (case side4 => exact HC0_2.out)
             (case side5 => exact (Kd.C_below HR0_5.out HB.out))
             (case side6 => exact HC0_5.out)
             rintro e w22 ⟨rfl, hb⟩
             refine ⟨_, rfl, ?_⟩
             have n0_ := Aside0.mk (blk_below (g := gb577) (o := .cells #[.string a0_0, .slice A0_1 l0_1.length c0_1, .slice A0_2 l0_2.length c0_2, .int .i64 a0_3, .int .i64 a0_4, .slice A0_5 l0_5.length c0_5] 29 (0, 0)) (by repeat first | exact BK577.out | refine blk_drewN ?_ _ | refine blk_drew ?_ | refine blk_alloc ?_ _) hb)
             have n1_ := Aside0.mk (below_step (bg_ HB.out GE577.out) hb)
             clear BK577; clear HB; have BK577 := n0_; have HB := n1_; clear n0_ n1_; (try clear hb); (try clear hb2); (try clear hk); (try clear hi)
             refine hK.out _ _ ⟨(blk_cell BK577.out 0).trans rfl, (blk_cell BK577.out 1).trans rfl, (blk_cell BK577.out 2).trans rfl, (blk_cell BK577.out 3).trans rfl, (blk_cell BK577.out 4).trans rfl, (blk_cell BK577.out 5).trans rfl, (wc_ HB.out hw581_0 :)⟩ (fun hHeld => ?_)
             clear hK K; refine norm_ (a' := ?_) ?_ ?_; rotate_left
             ·show Act.put _ (some 36) _ = _
              go_simp
              rfl
             refine pu_ HT_ 11 37 impl_Raga_firstWrong.K24 ?_; refine pu_ HT_ 12 38 impl_Raga_firstWrong.K25 ?_; refine pu_ HT_ 13 25 impl_Raga_firstWrong.K26 ?_
             refine done_ (done_of HT_.out (by kernel_rfl)) ?_
             try go_wp2
             go_roundg kj6
             case measure => have := HK1.out; have := HJ6.out; omega
             case rel => exact ⟨(wrap64 (x10_1 + 1)), sv_, H', ⟨by have := HK1.out; have := HJ6.out; omega⟩, ⟨by (with_reducible repeat (first | refine blk_drewN ?_ _ | refine blk_drew ?_ | refine blk_alloc ?_ _)); exact BK577.out⟩, ⟨bg_ HB.out GE577.out⟩⟩
            ·rw [if_neg c20] at H
             have c20b0 : (t582 == 0) = false := beq_eq_false_iff_ne.mpr c20
             have c20b1 : (t582 != 0) = true := bne_iff_ne.mpr c20
             replace H := Option.bind_eq_some_iff.mp H
             obtain ⟨t584, A230, H⟩ := H
             replace H : (some (x10_1, t584)) = some (r1, r2) := H
             have A23 := Aside0.mk A230; clear A230
             simp only [Option.some.injEq, Prod.mk.injEq] at H
             obtain ⟨rfl, rfl⟩ := H
             try go_wp2
             have n0_ := Aside0.mk (blk_drew BK577.out)
             have n1_ := Aside0.mk (below_drew1 HB.out)
             clear BK577; clear HB; have BK577 := n0_; have HB := n1_; clear n0_ n1_
             have p581 : 0 ≤ ((ji16) : Int) := da_
             have q581 : (ji16) < (l1.length : Int) := da_
             obtain ⟨ad581, e581, hx581_0⟩ := Kd.at_int HR1.out (ji16) p581 q581; have hw581_0 := hx581_0; obtain rfl : ad578 = ad581 := (by injection e581)
             replace hx581_0 := (wc_ HB.out hx581_0 :)
             replace p581 := eq_true p581; replace q581 := eq_true q581
             refine start_ (n := 14) (S := fun w' => w'.cell? ⟨gb577, 0, none⟩ = some (.string a0_0) ∧ w'.cell? ⟨gb577, 1, none⟩ = some (.slice A0_1 l0_1.length c0_1) ∧ w'.cell? ⟨gb577, 2, none⟩ = some (.slice A0_2 l0_2.length c0_2) ∧ w'.cell? ⟨gb577, 3, none⟩ = some (.int .i64 a0_3) ∧ w'.cell? ⟨gb577, 4, none⟩ = some (.int .i64 a0_4) ∧ w'.cell? ⟨gb577, 5, none⟩ = some (.slice A0_5 l0_5.length c0_5) ∧ w'.cell? (ad578.add ((ji16)).toNat) = some (.int .i64 (rd l1 (ji16)))) (ds := []) impl_Raga_firstWrong.K12 (by kernel_rfl) rfl rfl ⟨(blk_cell BK577.out 0).trans rfl, (blk_cell BK577.out 1).trans rfl, (blk_cell BK577.out 2).trans rfl, (blk_cell BK577.out 3).trans rfl, (blk_cell BK577.out 4).trans rfl, (blk_cell BK577.out 5).trans rfl, (wc_ HB.out hw581_0 :)⟩ (fun hHeld => ?_); refine with_tabW impl_Raga_firstWrong.tab6 impl_Raga_firstWrong.bits6 (fun HT_ HW_ => ?_)
             generalize wc.drew = w24 at BK577 HB hx581_0 hHeld ⊢
             refine pu_ HT_ 0 26 impl_Raga_firstWrong.K13 ?_; refine pu_ HT_ 1 27 impl_Raga_firstWrong.K14 ?_; refine pu_ HT_ 2 28 impl_Raga_firstWrong.K15 ?_; refine pu_ HT_ 4 30 impl_Raga_firstWrong.K16 ?_; refine pu_ HT_ 5 31 impl_Raga_firstWrong.K17 ?_; refine pu_ HT_ 6 32 impl_Raga_firstWrong.K18 ?_; refine pu_ HT_ 7 33 impl_Raga_firstWrong.K19 ?_; refine pu_ HT_ 9 35 impl_Raga_firstWrong.K20 ?_; refine tk_ HT_ HW_ hHeld 3 29 impl_Raga_firstWrong.K21 ?_; refine tk_ HT_ HW_ hHeld 8 34 impl_Raga_firstWrong.K22 ?_
             refine one_ (i := 10) (N := some 36) impl_Raga_firstWrong.K23 rfl rfl (one_of HT_.out (by kernel_rfl)) (by decide) (fun K hK => ?_)
             refine goes_ Try.func120 (by kernel_rfl) rfl #[.agg #[.string a0_0, .slice A0_1 l0_1.length c0_1, .slice A0_2 l0_2.length c0_2, .int .i64 a0_3, .int .i64 a0_4, .slice A0_5 l0_5.length c0_5], .int .i64 (rd l1 (ji16)), .int .i64 (rd l1 x10_1)] (by rfl) rfl rfl (by (try simp only [List.map_toArray, List.map_cons, List.map_nil]); first | done | (simp only [hji16]; rfl) | rfl | (simp only [List.length_drop, List.length_take]; rfl)) ?_
             with_reducible refine (impl_Raga_reason.calls kj6 a0_0 _ _ l0_1 _ _ l0_2 a0_3 a0_4 _ _ l0_5 (rd l1 (ji16)) (rd l1 x10_1) t582 _ ?side1 ?side2 ?side3 ?side4 ?side5 ?side6 A19.out).mono ?_
             (case side1 => exact (Kd.C_below HR0_1.out HB.out))
             (case side2 => exact HC0_1.out)
             (case side3 => exact (Kd.C_below HR0_2.out HB.out))
             (case side4 => exact HC0_2.out)
             (case side5 => exact (Kd.C_below HR0_5.out HB.out))
             (case side6 => exact HC0_5.out)
             rintro e w25 ⟨rfl, hb⟩
             refine ⟨_, rfl, ?_⟩
             have n0_ := Aside0.mk (blk_below (g := gb577) (o := .cells #[.string a0_0, .slice A0_1 l0_1.length c0_1, .slice A0_2 l0_2.length c0_2, .int .i64 a0_3, .int .i64 a0_4, .slice A0_5 l0_5.length c0_5] 29 (0, 0)) (by repeat first | exact BK577.out | refine blk_drewN ?_ _ | refine blk_drew ?_ | refine blk_alloc ?_ _) hb)
             have n1_ := Aside0.mk (below_step (bg_ HB.out GE577.out) hb)
             clear BK577; clear HB; have BK577 := n0_; have HB := n1_; clear n0_ n1_; (try clear hb); (try clear hb2); (try clear hk); (try clear hi)
             refine hK.out _ _ ⟨(blk_cell BK577.out 0).trans rfl, (blk_cell BK577.out 1).trans rfl, (blk_cell BK577.out 2).trans rfl, (blk_cell BK577.out 3).trans rfl, (blk_cell BK577.out 4).trans rfl, (blk_cell BK577.out 5).trans rfl, (wc_ HB.out hw581_0 :)⟩ (fun hHeld => ?_)
             clear hK K; refine norm_ (a' := ?_) ?_ ?_; rotate_left
             ·show Act.put _ (some 36) _ = _
              go_simp
              rfl
             refine pu_ HT_ 11 37 impl_Raga_firstWrong.K24 ?_; refine pu_ HT_ 12 38 impl_Raga_firstWrong.K25 ?_; refine pu_ HT_ 13 25 impl_Raga_firstWrong.K26 ?_
             refine done_ (done_of HT_.out (by kernel_rfl)) ?_
             try go_wp2
             have n0_ := Aside0.mk (blk_drew BK577.out)
             have n1_ := Aside0.mk (below_drew1 HB.out)
             clear BK577; clear HB; have BK577 := n0_; have HB := n1_; clear n0_ n1_
             have p583 : 0 ≤ ((ji16) : Int) := da_
             have q583 : (ji16) < (l1.length : Int) := da_
             obtain ⟨ad583, e583, hx583_0⟩ := Kd.at_int HR1.out (ji16) p583 q583; have hw583_0 := hx583_0; obtain rfl : ad578 = ad583 := (by injection e583)
             replace hx583_0 := (wc_ HB.out hx583_0 :)
             replace p583 := eq_true p583; replace q583 := eq_true q583
             refine start_ (n := 11) (S := fun w' => w'.cell? ⟨gb577, 0, none⟩ = some (.string a0_0) ∧ w'.cell? ⟨gb577, 1, none⟩ = some (.slice A0_1 l0_1.length c0_1) ∧ w'.cell? ⟨gb577, 2, none⟩ = some (.slice A0_2 l0_2.length c0_2) ∧ w'.cell? ⟨gb577, 3, none⟩ = some (.int .i64 a0_3) ∧ w'.cell? ⟨gb577, 4, none⟩ = some (.int .i64 a0_4) ∧ w'.cell? ⟨gb577, 5, none⟩ = some (.slice A0_5 l0_5.length c0_5) ∧ w'.cell? (ad578.add ((ji16)).toNat) = some (.int .i64 (rd l1 (ji16)))) (ds := []) impl_Raga_firstWrong.K27 (by kernel_rfl) rfl rfl ⟨(blk_cell BK577.out 0).trans rfl, (blk_cell BK577.out 1).trans rfl, (blk_cell BK577.out 2).trans rfl, (blk_cell BK577.out 3).trans rfl, (blk_cell BK577.out 4).trans rfl, (blk_cell BK577.out 5).trans rfl, (wc_ HB.out hw583_0 :)⟩ (fun hHeld => ?_); refine with_tabW impl_Raga_firstWrong.tab7 impl_Raga_firstWrong.bits7 (fun HT_ HW_ => ?_)
             generalize w25.drew = w26 at BK577 HB hx583_0 hHeld ⊢
             refine pu_ HT_ 0 39 impl_Raga_firstWrong.K28 ?_; refine pu_ HT_ 2 41 impl_Raga_firstWrong.K29 ?_; refine pu_ HT_ 3 42 impl_Raga_firstWrong.K30 ?_; refine pu_ HT_ 4 43 impl_Raga_firstWrong.K31 ?_; refine pu_ HT_ 5 44 impl_Raga_firstWrong.K32 ?_; refine pu_ HT_ 7 46 impl_Raga_firstWrong.K33 ?_; refine tk_ HT_ HW_ hHeld 1 40 impl_Raga_firstWrong.K34 ?_; refine tk_ HT_ HW_ hHeld 6 45 impl_Raga_firstWrong.K35 ?_
             refine one_ (i := 8) (N := some 47) impl_Raga_firstWrong.K36 rfl rfl (one_of HT_.out (by kernel_rfl)) (by decide) (fun K hK => ?_)
             refine goes_ Try.func120 (by kernel_rfl) rfl #[.agg #[.string a0_0, .slice A0_1 l0_1.length c0_1, .slice A0_2 l0_2.length c0_2, .int .i64 a0_3, .int .i64 a0_4, .slice A0_5 l0_5.length c0_5], .int .i64 (rd l1 (ji16)), .int .i64 (rd l1 x10_1)] (by rfl) rfl rfl (by (try simp only [List.map_toArray, List.map_cons, List.map_nil]); first | done | (simp only [hji16]; rfl) | rfl | (simp only [List.length_drop, List.length_take]; rfl)) ?_
             with_reducible refine (impl_Raga_reason.calls kj6 a0_0 _ _ l0_1 _ _ l0_2 a0_3 a0_4 _ _ l0_5 (rd l1 (ji16)) (rd l1 x10_1) t584 _ ?side1 ?side2 ?side3 ?side4 ?side5 ?side6 A23.out).mono ?_
             (case side1 => exact (Kd.C_below HR0_1.out HB.out))
             (case side2 => exact HC0_1.out)
             (case side3 => exact (Kd.C_below HR0_2.out HB.out))
             (case side4 => exact HC0_2.out)
             (case side5 => exact (Kd.C_below HR0_5.out HB.out))
             (case side6 => exact HC0_5.out)
             rintro e w27 ⟨rfl, hb⟩
             refine ⟨_, rfl, ?_⟩
             have n0_ := Aside0.mk (blk_below (g := gb577) (o := .cells #[.string a0_0, .slice A0_1 l0_1.length c0_1, .slice A0_2 l0_2.length c0_2, .int .i64 a0_3, .int .i64 a0_4, .slice A0_5 l0_5.length c0_5] 29 (0, 0)) (by repeat first | exact BK577.out | refine blk_drewN ?_ _ | refine blk_drew ?_ | refine blk_alloc ?_ _) hb)
             have n1_ := Aside0.mk (below_step (bg_ HB.out GE577.out) hb)
             clear BK577; clear HB; have BK577 := n0_; have HB := n1_; clear n0_ n1_; (try clear hb); (try clear hb2); (try clear hk); (try clear hi)
             refine hK.out _ _ ⟨(blk_cell BK577.out 0).trans rfl, (blk_cell BK577.out 1).trans rfl, (blk_cell BK577.out 2).trans rfl, (blk_cell BK577.out 3).trans rfl, (blk_cell BK577.out 4).trans rfl, (blk_cell BK577.out 5).trans rfl, (wc_ HB.out hw583_0 :)⟩ (fun hHeld => ?_)
             clear hK K; refine norm_ (a' := ?_) ?_ ?_; rotate_left
             ·show Act.put _ (some 47) _ = _
              go_simp
              rfl
             refine pu_ HT_ 9 4 impl_Raga_firstWrong.K37 ?_; refine pu_ HT_ 10 5 impl_Raga_firstWrong.K38 ?_
             refine done_ (done_of HT_.out (by kernel_rfl)) ?_
             try go_wp2
             go_ret2
             exact ⟨by first | rfl | (simp [errW_none, errW_some] <;> rfl) | (simp only [← hji16]; first | rfl | (simp [errW_none, errW_some] <;> rfl)) | (simp [*, errW_none, errW_some] <;> rfl), bg_ HB.out GE577.out⟩
           ·rw [if_neg c18] at H
            exact absurd H (by simp)
          ·rw [if_neg c17] at H
           exact absurd H (by simp)
         ·rw [if_neg c15] at H
          have c15b0 : decide (0 < x10_1) = false := decide_eq_false c15
          clear c15
          have H' := Aside0.mk H
          clear H
          try go_wp2
          have n0_ := Aside0.mk (blk_drew BK577.out)
          have n1_ := Aside0.mk (below_drew1 HB.out)
          clear BK577; clear HB; have BK577 := n0_; have HB := n1_; clear n0_ n1_
          refine start_ (n := 14) (S := fun w' => True) (ds := []) impl_Raga_firstWrong.K12 (by kernel_rfl) rfl rfl trivial (fun hHeld => ?_); refine with_tabW impl_Raga_firstWrong.tab6 impl_Raga_firstWrong.bits6 (fun HT_ HW_ => ?_)
          generalize wc.drew = w28 at BK577 HB hHeld ⊢
          refine pu_ HT_ 0 26 impl_Raga_firstWrong.K13 ?_; refine pu_ HT_ 1 27 impl_Raga_firstWrong.K14 ?_; refine pu_ HT_ 2 28 impl_Raga_firstWrong.K15 ?_; refine un_ HT_ 3 29 impl_Raga_firstWrong.K39 ?_; refine un_ HT_ 4 30 impl_Raga_firstWrong.K40 ?_; refine un_ HT_ 5 31 impl_Raga_firstWrong.K41 ?_; refine un_ HT_ 6 32 impl_Raga_firstWrong.K42 ?_; refine un_ HT_ 7 33 impl_Raga_firstWrong.K43 ?_; refine un_ HT_ 8 34 impl_Raga_firstWrong.K44 ?_; refine un_ HT_ 9 35 impl_Raga_firstWrong.K22 ?_; refine un_ HT_ 10 36 impl_Raga_firstWrong.K23 ?_; refine un_ HT_ 11 37 impl_Raga_firstWrong.K24 ?_; refine pu_ HT_ 12 38 impl_Raga_firstWrong.K25 ?_; refine pu_ HT_ 13 25 impl_Raga_firstWrong.K26 ?_
          refine done_ (done_of HT_.out (by kernel_rfl)) ?_
          try go_wp2
          go_roundg kj6
          case measure => have := HK1.out; have := HJ6.out; omega
          case rel => exact ⟨(wrap64 (x10_1 + 1)), sv_, H', ⟨by have := HK1.out; have := HJ6.out; omega⟩, ⟨by (with_reducible repeat (first | refine blk_drewN ?_ _ | refine blk_drew ?_ | refine blk_alloc ?_ _)); exact BK577.out⟩, ⟨bg_ HB.out GE577.out⟩⟩
     ·rw [if_neg c6] at H
      exact absurd H (by simp)
    ·rw [if_neg c5] at H
     exact absurd H (by simp)
   ·rw [if_neg c4] at H
    have c4b0 : decide (x10_1 < (l1.length : Int)) = false := decide_eq_false c4
    clear c4
    simp only [Option.some.injEq, Prod.mk.injEq] at H
    obtain ⟨rfl, rfl⟩ := H
    go_wp2
    go_ret2
    exact ⟨by first | rfl | (simp [errW_none, errW_some] <;> rfl) | (simp [*, errW_none, errW_some] <;> rfl), bg_ HB.out GE577.out⟩
/-! ### slices_Equal_int64_int64: function 93 -/
def slices_Equal_int64_int64.l0 : Nat → List Int → List Int → Int → Int → Option (Bool)
 | 0, _, _, _, _ => none
 | k + 1, x0, x1, x12, x13 => if x13 < x12 then (if 0 ≤ x13 then (if x13 < (x0.length : Int) then (if x13 < (x1.length : Int) then (if (rd x0 x13) = (rd x1 x13) then (slices_Equal_int64_int64.l0 k x0 x1 x12 (wrap64 (x13 + 1))) else (some false)) else (none)) else (none)) else (none)) else (some true)
def slices_Equal_int64_int64.f (k : Nat) (l0 : List Int) (l1 : List Int) : Option (Bool) := if (l0.length : Int) = (l1.length : Int) then (slices_Equal_int64_int64.l0 k l0 l1 (l0.length : Int) 0) else (some false)
set_option maxHeartbeats 8000000 in
set_option maxRecDepth 100000 in
theorem slices_Equal_int64_int64.calls (k : Nat) (A0 : Option Addr) (c0 : Nat) (l0 : List Int) (A1 : Option Addr) (c1 : Nat) (l1 : List Int) (r : Bool) (w : World) (hr0 : Kd.C (Kd.int .i64) w A0 l0.length l0) (hc0 : l0.length ≤ c0) (hr1 : Kd.C (Kd.int .i64) w A1 l1.length l1) (hc1 : l1.length ≤ c1) (h : slices_Equal_int64_int64.f k l0 l1 = some r) :
  Calls Try.prog 93 #[.slice A0 l0.length c0, .slice A1 l1.length c1] w fun e w' => e = .returned (.bool r) ∧ Drawn0 w w' := by
 have HR0 := Aside0.mk hr0
 have HC0 := Aside0.mk hc0
 clear hr0 hc0
 have HR1 := Aside0.mk hr1
 have HC1 := Aside0.mk hc1
 clear hr1 hc1
 have H : (if (l0.length : Int) = (l1.length : Int) then (slices_Equal_int64_int64.l0 k l0 l1 (l0.length : Int) 0) else (some false)) = some r := h
 clear h
 by_cases c3 : (l0.length : Int) = (l1.length : Int)
 ·rw [if_pos c3] at H
  have c3b0 : ((l0.length : Int) == (l1.length : Int)) = true := beq_iff_eq.mpr c3
  have c3b1 : ((l0.length : Int) != (l1.length : Int)) = false := bne_eq_false_iff_eq.mpr c3
  have c3b2 : (l0.length == l1.length) = true := by first | simpa using c3 | (simp at c3 ⊢; omega)
  clear c3
  have H' := Aside0.mk H
  clear H
  go_enter Try.func93, Try.ntmps93
  go_wp2
  repeat (go_quiet (fail); try go_wp2)
  go_loopg [13] k (fun kq v13 w' => ∃ (x13_1 : Int), v13 = .int .i64 x13_1 ∧ Aside0 (slices_Equal_int64_int64.l0 kq l0 l1 (l0.length : Int) x13_1 = some r) ∧ Aside0 (kq ≤ k) ∧ Drawn0 w w')
  case atStart => exact ⟨(0), sv_, H', ⟨Nat.le_refl _⟩, dr_⟩
  case round =>
   clear H'
   (try clear c1); (try clear p2); (try clear c3); (try clear c3b0); (try clear c3b1); (try clear c3b2)
   obtain ⟨x13_1, rfl, HA, HK1, ⟨m1, rfl⟩⟩ := hrel
   cases gk with
   | zero => exact absurd HA.out (by simp [slices_Equal_int64_int64.l0])
   | succ k1 =>
    have H := HA.out
    clear HA
    simp only [slices_Equal_int64_int64.l0] at H
    by_cases c4 : x13_1 < (l0.length : Int)
    ·rw [if_pos c4] at H
     have c4b0 : decide (x13_1 < (l0.length : Int)) = true := decide_eq_true c4
     clear c4
     by_cases c5 : 0 ≤ x13_1
     ·rw [if_pos c5] at H
      have c5b0 : decide (0 ≤ x13_1) = true := decide_eq_true c5
      clear c5
      by_cases c6 : x13_1 < (l0.length : Int)
      ·rw [if_pos c6] at H
       have c6b0 : decide (x13_1 < (l0.length : Int)) = true := decide_eq_true c6
       clear c6
       by_cases c7 : x13_1 < (l1.length : Int)
       ·rw [if_pos c7] at H
        have c7b0 : decide (x13_1 < (l1.length : Int)) = true := decide_eq_true c7
        clear c7
        by_cases c8 : (rd l0 x13_1) = (rd l1 x13_1)
        ·rw [if_pos c8] at H
         have c8b0 : ((rd l0 x13_1) == (rd l1 x13_1)) = true := beq_iff_eq.mpr c8
         have c8b1 : ((rd l0 x13_1) != (rd l1 x13_1)) = false := bne_eq_false_iff_eq.mpr c8
         clear c8
         have H' := Aside0.mk H
         clear H
         have p516 : 0 ≤ (x13_1 : Int) := da_
         have q516 : x13_1 < (l0.length : Int) := da_
         obtain ⟨ad516, e516, hx516_0⟩ := Kd.at_int HR0.out x13_1 p516 q516
         cases e516
         replace p516 := eq_true p516
         replace q516 := eq_true q516
         have p517 : 0 ≤ (x13_1 : Int) := da_
         have q517 : x13_1 < (l1.length : Int) := da_
         obtain ⟨ad517, e517, hx517_0⟩ := Kd.at_int HR1.out x13_1 p517 q517
         cases e517
         replace p517 := eq_true p517
         replace q517 := eq_true q517
         go_wp2
         repeat (go_quiet (fail); try go_wp2)
         go_roundg k1
         case measure => have := HK1.out; omega
         case rel => exact ⟨(wrap64 (x13_1 + 1)), sv_, H', ⟨by have := HK1.out; omega⟩, dr_⟩
        ·rw [if_neg c8] at H
         have c8b0 : ((rd l0 x13_1) == (rd l1 x13_1)) = false := beq_eq_false_iff_ne.mpr c8
         have c8b1 : ((rd l0 x13_1) != (rd l1 x13_1)) = true := bne_iff_ne.mpr c8
         obtain rfl := Option.some.inj H
         have p516 : 0 ≤ (x13_1 : Int) := da_
         have q516 : x13_1 < (l0.length : Int) := da_
         obtain ⟨ad516, e516, hx516_0⟩ := Kd.at_int HR0.out x13_1 p516 q516
         cases e516
         replace p516 := eq_true p516
         replace q516 := eq_true q516
         have p517 : 0 ≤ (x13_1 : Int) := da_
         have q517 : x13_1 < (l1.length : Int) := da_
         obtain ⟨ad517, e517, hx517_0⟩ := Kd.at_int HR1.out x13_1 p517 q517
         cases e517
         replace p517 := eq_true p517
         replace q517 := eq_true q517
         go_wp2
         repeat (go_quiet (fail); try go_wp2)
         go_ret
         exact ⟨sv_, dr_⟩
       ·rw [if_neg c7] at H
        exact absurd H (by simp)
      ·rw [if_neg c6] at H
       exact absurd H (by simp)
     ·rw [if_neg c5] at H
      exact absurd H (by simp)
    ·rw [if_neg c4] at H
     have c4b0 : decide (x13_1 < (l0.length : Int)) = false := decide_eq_false c4
     clear c4
     obtain rfl := Option.some.inj H
     go_wp2
     repeat (go_quiet (fail); try go_wp2)
     go_ret
     exact ⟨sv_, dr_⟩
 ·rw [if_neg c3] at H
  have c3b0 : ((l0.length : Int) == (l1.length : Int)) = false := beq_eq_false_iff_ne.mpr c3
  have c3b1 : ((l0.length : Int) != (l1.length : Int)) = true := bne_iff_ne.mpr c3
  have c3b2 : (l0.length == l1.length) = false := by first | simpa using c3 | (simp at c3 ⊢; omega)
  obtain rfl := Option.some.inj H
  go_enter Try.func93, Try.ntmps93
  go_wp2
  repeat (go_quiet (fail); try go_wp2)
  go_ret
  exact ⟨sv_, dr_⟩
/-! ### impl_occurrences: function 132 -/
def impl_occurrences.l0 : Nat → List Int → List Int → List Int → Int → Option (List Int)
 | 0, _, _, _, _ => none
 | k + 1, x0, x1, x5, x6 => if (wrap64 (x6 + (x1.length : Int))) ≤ (x0.length : Int) then (if 0 ≤ x6 then (if x6 ≤ (wrap64 (x6 + (x1.length : Int))) then ((slices_Equal_int64_int64.f k ((x0.take ((wrap64 (x6 + (x1.length : Int))) : Int).toNat).drop (x6 : Int).toNat) x1).bind fun t586 => (if t586 = true then (if x5.length < 17592186044416 then (impl_occurrences.l0 k x0 x1 (x5 ++ [x6]) (wrap64 (x6 + 1))) else (none)) else (impl_occurrences.l0 k x0 x1 x5 (wrap64 (x6 + 1))))) else (none)) else (none)) else (some x5)
def impl_occurrences.f (k : Nat) (l0 : List Int) (l1 : List Int) : Option (List Int) := impl_occurrences.l0 k l0 l1 ([] : List Int) 0
set_option maxHeartbeats 8000000 in
set_option maxRecDepth 100000 in
theorem impl_occurrences.calls (k : Nat) (A0 : Option Addr) (c0 : Nat) (l0 : List Int) (A1 : Option Addr) (c1 : Nat) (l1 : List Int) (r : List Int) (w : World) (hr0 : Kd.C (Kd.int .i64) w A0 l0.length l0) (hc0 : l0.length ≤ c0) (hr1 : Kd.C (Kd.int .i64) w A1 l1.length l1) (hc1 : l1.length ≤ c1) (h : impl_occurrences.f k l0 l1 = some r) :
  Calls Try.prog 132 #[.slice A0 l0.length c0, .slice A1 l1.length c1] w fun e w' => ∃ v0_ : Value, e = .returned (v0_) ∧ Kd.R (Kd.int .i64) 2 w' w.heap.size (fun _ => True) v0_ r ∧ Below w.heap.size w w' := by
 have HR0 := Aside0.mk hr0
 have HC0 := Aside0.mk hc0
 clear hr0 hc0
 have HR1 := Aside0.mk hr1
 have HC1 := Aside0.mk hc1
 clear hr1 hc1
 have HB := Aside0.mk (Below.refl w.heap.size w)
 have H : (impl_occurrences.l0 k l0 l1 ([] : List Int) 0) = some r := h
 clear h
 have H' := Aside0.mk H
 clear H
 go_enter Try.func132, Try.ntmps132
 go_wp2
 go_loopg [5, 6] k (fun kq v5 v6 w' => ∃ (x5_1 : List Int) (x6_1 : Int), v6 = .int .i64 x6_1 ∧ Aside0 (impl_occurrences.l0 kq l0 l1 x5_1 x6_1 = some r) ∧ Aside0 (kq ≤ k) ∧ Aside0 (Kd.R (Kd.int .i64) 2 w' w.heap.size (fun _ => True) v5 x5_1) ∧ Aside0 (Below w.heap.size w w'))
 case atStart => exact ⟨(([] : List Int)), (0), sv_, H', ⟨Nat.le_refl _⟩, ⟨by first | exact Kd.R_nil _ _ _ _ _ | exact Kd.N_nil _ _ _ _ _ | exact Kd.V_nil _ _ _ _ _ | exact Kd.Q_nil _ _ _ _ _ | exact Kd.S_nil _ _ _ _ _⟩, ⟨bb_ HB.out⟩⟩
 case round =>
  clear H'
  (try clear c1); (try clear p2)
  obtain ⟨x5_1, x6_1, rfl, HA, HK1, HO_5, HB⟩ := hrel
  cases gk with
  | zero => exact absurd HA.out (by simp [impl_occurrences.l0])
  | succ k1 =>
   have H := HA.out
   clear HA
   simp only [impl_occurrences.l0] at H
   by_cases c3 : (wrap64 (x6_1 + (l1.length : Int))) ≤ (l0.length : Int)
   ·rw [if_pos c3] at H
    have c3b0 : decide ((wrap64 (x6_1 + (l1.length : Int))) ≤ (l0.length : Int)) = true := decide_eq_true c3
    clear c3
    by_cases c4 : 0 ≤ x6_1
    ·rw [if_pos c4] at H
     have c4b0 := eq_true c4
     have c4b1 : decide (0 ≤ x6_1) = true := decide_eq_true c4
     clear c4
     by_cases c5 : x6_1 ≤ (wrap64 (x6_1 + (l1.length : Int)))
     ·rw [if_pos c5] at H
      have c5b0 := eq_true c5
      have c5b1 : decide (x6_1 ≤ (wrap64 (x6_1 + (l1.length : Int)))) = true := decide_eq_true c5
      have c6b0 := eq_true (da_ : (wrap64 (x6_1 + (l1.length : Int))) ≤ (l0.length : Int))
      replace H := Option.bind_eq_some_iff.mp H
      obtain ⟨t586, A70, H⟩ := H
      replace H : (if t586 = true then (if x5_1.length < 17592186044416 then (impl_occurrences.l0 k1 l0 l1 (x5_1 ++ [x6_1]) (wrap64 (x6_1 + 1))) else (none)) else (impl_occurrences.l0 k1 l0 l1 x5_1 (wrap64 (x6_1 + 1)))) = some r := H
      have A7 := Aside0.mk A70
      clear A70
      by_cases c8 : t586 = true
      ·subst c8
       have H1 : (if x5_1.length < 17592186044416 then (impl_occurrences.l0 k1 l0 l1 (x5_1 ++ [x6_1]) (wrap64 (x6_1 + 1))) else (none)) = some r := by rw [if_pos rfl] at H; exact H
       clear H
       have H := H1
       clear H1
       by_cases c9 : x5_1.length < 17592186044416
       ·rw [if_pos c9] at H
        have LMc9 := Aside0.mk c9
        clear c9
        obtain ⟨y587, hy587⟩ : ∃ y_ : List Int, y_ = (x5_1 ++ [x6_1]) := ⟨_, rfl⟩
        replace H : (impl_occurrences.l0 k1 l0 l1 y587 (wrap64 (x6_1 + 1))) = some r := by first | (rw [hy587]; with_reducible exact H) | (have H2_ := (Option.bind_some _ _).symm.trans H; rw [hy587]; with_reducible exact H2_) | (have H2_ := (Option.bind_some _ _).symm.trans H; with_reducible exact H2_) | with_reducible exact H | (rw [hy587]; exact H) | exact H
        have Ny587 := Aside0.mk hy587
        clear hy587
        have H' := Aside0.mk H
        clear H
        obtain ⟨i010, hi010, _, hsz10, _⟩ := info_parts info2
        obtain ⟨A10, hcut10, hA10, hC10⟩ := print_mid_of (P := Try.prog) (Value.int .i64) 0 22 2 .i64 .i64 Try.underlying22 hi010 hsz10 A0 c0 l0 x6_1 (wrap64 (x6_1 + (l1.length : Int))) (da_) (by first | omega | exact da_) (da_) HC0.out
        have HR585 := Aside0.mk (Kd.C_of_reads (h1 := fun _ => rfl) (hA10 _ (Kd.reads_of_C HR0.out)))
        have HC585 := Aside0.mk hC10
        clear hA10 hC10 hi010 hsz10
        go_wp2_with (first | ((with_reducible refine gate_callee (f := 93) rfl ?_); refine goesL_ (some 24) rfl rfl Try.func93 (by kernel_rfl) rfl #[.slice A10 ((l0.take ((wrap64 (x6_1 + (l1.length : Int))) : Int).toNat).drop (x6_1 : Int).toNat).length (c0 - x6_1.toNat), .slice A1 l1.length c1] rfl (by (try simp only [List.map_toArray, List.map_cons, List.map_nil]); first | done | (rw [show ((l0.take ((wrap64 (x6_1 + (l1.length : Int))) : Int).toNat).drop (x6_1 : Int).toNat).length = ((wrap64 (x6_1 + (l1.length : Int))).toNat - x6_1.toNat) from (by rw [List.length_drop, List.length_take]; have h_ : ((wrap64 (x6_1 + (l1.length : Int))) : Int) ≤ (l0.length : Int) := da_; omega)] <;> rfl) | rfl | (simp only [List.length_drop, List.length_take]; rfl)) ?_; (with_reducible refine (slices_Equal_int64_int64.calls k1 _ _ ((l0.take ((wrap64 (x6_1 + (l1.length : Int))) : Int).toNat).drop (x6_1 : Int).toNat) _ _ l1 true _ ?side1 ?side2 ?side3 ?side4 A7.out).mono ?_); (case side1 => exact (Kd.C_below HR585.out HB.out)); (case side2 => exact HC585.out); (case side3 => exact (Kd.C_below HR1.out HB.out)); (case side4 => exact HC1.out); rintro e w' ⟨rfl, ⟨nd, rfl⟩⟩; refine ⟨_, rfl, ?_⟩) | ((with_reducible refine gate_builtin (b := .append) (xs := #[.tmp 25, .tmp 27]) rfl ?_); at_builtin; refine Kd.R_append (Kd.int .i64) (w0 := w) w.heap.size rfl (.tmp 25) (.tmp 27) 22 2 (.int .i64 0) 8 rfl Try.underlying22 info2 rfl (by decide) (by omega) u5 x5_1 x6_1 [.int .i64 x6_1] (fun _ => True) (fun _ => False) rfl rfl ?aP (fun _ hk => hk.elim) ?aF ?aO ?aB ?aS ?aL ?_; (case aP => exact rfl); (case aB => exact (bb_ HB.out)); (case aF => exact (fun _ _ => trivial)); (case aO => exact (rr_ HO_5.out)); (case aS => exact (below_size (bb_ HB.out))); (case aL => have := LMc9.out; omega); intro v588 w11 ho hb hg hat; rw [← Ny587.out] at ho; have n0_ := Aside0.mk (hb); have n1_ := Aside0.mk (ho); clear HB; clear HO_5; have HB := n0_; have HO589 := n1_; clear n0_ n1_; clear ho hb hg hat))
        go_roundg k1
        case measure => have := HK1.out; omega
        case rel => exact ⟨(y587), (wrap64 (x6_1 + 1)), sv_, H', ⟨by have := HK1.out; omega⟩, ⟨rr_ HO589.out⟩, ⟨bb_ HB.out⟩⟩
       ·rw [if_neg c9] at H
        exact absurd H (by simp)
      ·replace c8 := Bool.eq_false_iff.mpr c8
       subst c8
       have H1 : (impl_occurrences.l0 k1 l0 l1 x5_1 (wrap64 (x6_1 + 1))) = some r := by rw [if_neg (show ¬ (false = true) by decide)] at H; exact H
       clear H
       have H := H1
       clear H1
       have H' := Aside0.mk H
       clear H
       obtain ⟨i012, hi012, _, hsz12, _⟩ := info_parts info2
       obtain ⟨A12, hcut12, hA12, hC12⟩ := print_mid_of (P := Try.prog) (Value.int .i64) 0 22 2 .i64 .i64 Try.underlying22 hi012 hsz12 A0 c0 l0 x6_1 (wrap64 (x6_1 + (l1.length : Int))) (da_) (by first | omega | exact da_) (da_) HC0.out
       have HR585 := Aside0.mk (Kd.C_of_reads (h1 := fun _ => rfl) (hA12 _ (Kd.reads_of_C HR0.out)))
       have HC585 := Aside0.mk hC12
       clear hA12 hC12 hi012 hsz12
       go_wp2_with (first | ((with_reducible refine gate_callee (f := 93) rfl ?_); refine goesL_ (some 24) rfl rfl Try.func93 (by kernel_rfl) rfl #[.slice A12 ((l0.take ((wrap64 (x6_1 + (l1.length : Int))) : Int).toNat).drop (x6_1 : Int).toNat).length (c0 - x6_1.toNat), .slice A1 l1.length c1] rfl (by (try simp only [List.map_toArray, List.map_cons, List.map_nil]); first | done | (rw [show ((l0.take ((wrap64 (x6_1 + (l1.length : Int))) : Int).toNat).drop (x6_1 : Int).toNat).length = ((wrap64 (x6_1 + (l1.length : Int))).toNat - x6_1.toNat) from (by rw [List.length_drop, List.length_take]; have h_ : ((wrap64 (x6_1 + (l1.length : Int))) : Int) ≤ (l0.length : Int) := da_; omega)] <;> rfl) | rfl | (simp only [List.length_drop, List.length_take]; rfl)) ?_; (with_reducible refine (slices_Equal_int64_int64.calls k1 _ _ ((l0.take ((wrap64 (x6_1 + (l1.length : Int))) : Int).toNat).drop (x6_1 : Int).toNat) _ _ l1 false _ ?side1 ?side2 ?side3 ?side4 A7.out).mono ?_); (case side1 => exact (Kd.C_below HR585.out HB.out)); (case side2 => exact HC585.out); (case side3 => exact (Kd.C_below HR1.out HB.out)); (case side4 => exact HC1.out); rintro e w' ⟨rfl, ⟨nd, rfl⟩⟩; refine ⟨_, rfl, ?_⟩))
       go_roundg k1
       case measure => have := HK1.out; omega
       case rel => exact ⟨(x5_1), (wrap64 (x6_1 + 1)), sv_, H', ⟨by have := HK1.out; omega⟩, ⟨rr_ HO_5.out⟩, ⟨bb_ HB.out⟩⟩
     ·rw [if_neg c5] at H
      exact absurd H (by simp)
    ·rw [if_neg c4] at H
     exact absurd H (by simp)
   ·rw [if_neg c3] at H
    have c3b0 : decide ((wrap64 (x6_1 + (l1.length : Int))) ≤ (l0.length : Int)) = false := decide_eq_false c3
    clear c3
    obtain rfl := Option.some.inj H
    go_wp2
    go_ret
    exact ⟨_, by first | rfl | (simp [errW_none, errW_some] <;> rfl) | (simp [*, errW_none, errW_some] <;> rfl), rr_ HO_5.out, bb_ HB.out⟩
/-! ### impl_satisfies_1: function 131 -/
def impl_satisfies_1.f (k : Nat) (l0 : List Int) (l1_0 : List Int) : Option (Bool) := (impl_occurrences.f k l1_0 l0).bind fun t591 => (some ((t591.length : Int) == 0))
set_option maxHeartbeats 8000000 in
set_option maxRecDepth 100000 in
theorem impl_satisfies_1.calls (k : Nat) (A0 : Option Addr) (c0 : Nat) (l0 : List Int) (g1 : Nat) (A1_0 : Option Addr) (c1_0 : Nat) (l1_0 : List Int) (r : Bool) (w : World) (hr0 : Kd.C (Kd.int .i64) w A0 l0.length l0) (hc0 : l0.length ≤ c0) (hp1 : w.heap[g1]? = some (.cells #[.slice A1_0 l1_0.length c1_0] 22 (0, 0))) (hr1_0 : Kd.C (Kd.int .i64) w A1_0 l1_0.length l1_0) (hc1_0 : l1_0.length ≤ c1_0) (h : impl_satisfies_1.f k l0 l1_0 = some r) :
  Calls Try.prog 131 #[.slice A0 l0.length c0, .pointer (some ⟨g1, 0, none⟩)] w fun e w' => e = .returned (.bool r) ∧ Below w.heap.size w w' := by
 have HR0 := Aside0.mk hr0
 have HC0 := Aside0.mk hc0
 clear hr0 hc0
 have HR1_0 := Aside0.mk hr1_0
 have HC1_0 := Aside0.mk hc1_0
 clear hr1_0 hc1_0
 have HB := Aside0.mk (Below.refl w.heap.size w)
 have HBX1 := Aside0.mk hp1
 have HBP1 := Aside0.mk hp1
 clear hp1
 have H : ((impl_occurrences.f k l1_0 l0).bind fun t591 => (some ((t591.length : Int) == 0))) = some r := h
 clear h
 replace H := Option.bind_eq_some_iff.mp H
 obtain ⟨t591, A30, H⟩ := H
 replace H : (some ((t591.length : Int) == 0)) = some r := H
 have A3 := Aside0.mk A30
 clear A30
 obtain rfl := Option.some.inj H
 have hcz4_0 : w.cell? ⟨g1, 0, none⟩ = some (.slice A1_0 l1_0.length c1_0) := (blk_cell HBP1.out 0).trans rfl
 go_enter Try.func131, Try.ntmps131
 go_wp2_with (first | ((with_reducible refine gate_callee (f := 132) rfl ?_); refine goesL_ (some 6) rfl rfl Try.func132 (by kernel_rfl) rfl #[.slice A1_0 l1_0.length c1_0, .slice A0 l0.length c0] rfl av_ ?_; (with_reducible refine (impl_occurrences.calls k _ _ l1_0 _ _ l0 t591 _ ?side1 ?side2 ?side3 ?side4 A3.out).mono ?_); (case side1 => exact cr_ HR1_0.out); (case side2 => exact HC1_0.out); (case side3 => exact cr_ HR0.out); (case side4 => exact HC0.out); rintro e w5 ⟨v592, rfl, ho0, hb⟩; refine ⟨_, rfl, ?_⟩; have n0_ := Aside0.mk (Kd.R_lower ho0 (below_size (bb_ HB.out))); have n1_ := Aside0.mk (below_step (bb_ HB.out) hb); clear HB; have HO593 := n0_; have HB := n1_; clear n0_ n1_; (try clear hb); (try clear hb2); (try clear hk); (try clear hi); (try clear ho0); obtain ⟨Ao6, co6, eo6⟩ := Kd.R_slice HO593.out; subst eo6))
 go_ret
 exact ⟨by first | rfl | (simp [errW_none, errW_some] <;> rfl) | (simp [*, errW_none, errW_some] <;> rfl), bb_ HB.out⟩
/-! ### impl_satisfies_any: function 233131 (given) -/
def impl_satisfies_any.f (k : Nat) (l0 : List (List Int)) (a1 : List Int) : Option Bool := if (l0.all fun p => (impl_satisfies_1.f k p a1).isSome) = true then some (l0.any fun p => impl_satisfies_1.f k p a1 == some true) else none
theorem impl_satisfies_any.calls (k : Nat) (A0 : Option Addr) (c0 : Nat) (l0 : List (List Int)) (g1 : Nat) (A1_0 : Option Addr) (c1_0 : Nat) (l1_0 : List Int) (r : Bool) (w : World) (hr0 : Kd.C (Kd.slice 2 (Kd.int .i64)) w A0 l0.length l0) (hc0 : l0.length ≤ c0) (hp1 : w.heap[g1]? = some (.cells #[.slice A1_0 l1_0.length c1_0] 22 (0, 0))) (hr1_0 : Kd.C (Kd.int .i64) w A1_0 l1_0.length l1_0) (hc1_0 : l1_0.length ≤ c1_0) (h : impl_satisfies_any.f k l0 l1_0 = some r) :
    Calls Try.prog 133 #[.slice A0 l0.length c0, .func (.func 131) #[] #[.pointer (some ⟨g1, 0, none⟩)]] w fun e w' => e = .returned (.bool r) ∧ Below w.heap.size w w' := by
  unfold impl_satisfies_any.f at h
  split at h
  · rename_i ha
    have hr := Option.some.inj h
    have hs : ∀ j, j < l0.length → impl_satisfies_1.f k (l0.getD j []) l1_0 = some (impl_satisfies_1.f k (l0.getD j []) l1_0 == some true) := by
      intro j hj
      have h1 := List.all_eq_true.1 ha (l0.getD j []) (by
        rw [List.getD_eq_getElem?_getD, List.getElem?_eq_getElem hj]
        exact List.getElem_mem hj)
      obtain ⟨b, hb⟩ := Option.isSome_iff_exists.1 h1
      rw [hb]
      cases b <;> rfl
    have hC := slices_ContainsFunc_int64_int64_133.calls 131 #[.pointer (some ⟨g1, 0, none⟩)] (enters_of Try.func131 (by kernel_rfl) rfl) (fun j => match A0 with | some ad => (w.cell? (ad.add j)).getD (.bool false) | none => .bool false) (fun j => impl_satisfies_1.f k (l0.getD j []) l1_0 == some true) A0 l0.length c0 w hr0.2.1
      (fun h0 => by
        obtain ⟨ad, rfl, _⟩ := hr0.2.2 h0
        refine ⟨ad, rfl, fun j hj => ?_⟩
        obtain ⟨ad', A1, c1, he, hx, _⟩ := at_L1 hr0 (j : Int) (by omega) (by omega)
        cases he
        simp only [Int.toNat_natCast] at hx
        simp only [hx, Option.getD_some])
      (fun W j hj hb => by
        obtain ⟨ad, A1, c1, he, hx, hl, hC1⟩ := at_L1 hr0 (j : Int) (by omega) (by omega)
        subst he
        simp only [Int.toNat_natCast] at hx
        have e : rd_L1 l0 (j : Int) = l0.getD j [] := rfl
        rw [e] at hx hl hC1
        simp only [hx, Option.getD_some]
        exact (impl_satisfies_1.calls k A1 c1 (l0.getD j []) g1 A1_0 c1_0 l1_0 _ W (Kd.C_below hC1 hb) hl (blk_below hp1 hb) (Kd.C_below hr1_0 hb) hc1_0 (hs j hj)).mono fun e w' ⟨he, hw⟩ => ⟨he, below_step hb hw⟩)
    rw [range_any_list l0 [] (fun p => impl_satisfies_1.f k p l1_0 == some true), hr] at hC
    exact hC
  · exact absurd h (by simp)
/-- A state of type 22 at block g of W; what its slices lead to came in by w0. -/
def IsS22 (w0 W : World) (g : Nat) (f0 : List Int) : Prop := ∃ A0 c0, W.heap[g]? = some (.cells #[.slice A0 f0.length c0] 22 (0, 0)) ∧ w0.heap.size ≤ g ∧ Kd.C (Kd.int .i64) w0 A0 f0.length f0
theorem IsS22.grown {w0 W : World} {g : Nat} {f0 : List Int} {W1 : World} {row : Option Nat} (h : IsS22 w0 W g f0) (hw : W.grownBy W1 row) (hne : some g ≠ row) : IsS22 w0 W1 g f0 := by
 obtain ⟨A0, c0, hb, hg, hr0⟩ := h
 exact ⟨A0, c0, blk_grown hb hw hne, hg, hr0⟩
theorem IsS22.below {w0 W : World} {g : Nat} {f0 : List Int} {W1 : World} (h : IsS22 w0 W g f0) (hw : Below W.heap.size W W1) : IsS22 w0 W1 g f0 := h.grown (grown_of_below hw none) (by simp)
theorem IsS22.alloc {w0 W : World} {g : Nat} {f0 : List Int} (h : IsS22 w0 W g f0) (o : Obj) : IsS22 w0 (W.alloc o) g f0 := h.below (below_alloc (Below.refl _ _) o)
theorem IsS22.drewN {w0 W : World} {g : Nat} {f0 : List Int} (h : IsS22 w0 W g f0) (m : Nat) : IsS22 w0 (W.drewN m) g f0 := h
theorem IsS22.drew {w0 W : World} {g : Nat} {f0 : List Int} (h : IsS22 w0 W g f0) : IsS22 w0 W.drew g f0 := h
theorem IsS22.at_ {w0 W : World} {g : Nat} {f0 : List Int} {w' : World} {m : Nat} (hq : W.drewN m = w') (h : IsS22 w0 W g f0) : IsS22 w0 w' g f0 := by subst hq; exact IsS22.drewN h m
/-! ### impl_satisfies: function 97 -/
def impl_satisfies.K0 : Array Bool := #[n_,n_,n_,n_,n_,n_,n_,n_,n_,n_,n_,n_,n_,n_,n_,n_,n_,n_,n_,n_,n_,n_,n_,n_,n_,n_,n_,n_,n_,n_,n_,n_,n_]
def impl_satisfies.K1 : Array Bool := #[n_,n_,y_,n_,n_,n_,n_,n_,n_,n_,n_,n_,n_,n_,n_,n_,n_,n_,n_,n_,n_,n_,n_,n_,n_,n_,n_,n_,n_,n_,n_,n_,n_]
def impl_satisfies.K2 : Array Bool := #[y_,n_,y_,n_,n_,n_,n_,n_,n_,n_,n_,n_,n_,n_,n_,n_,n_,n_,n_,n_,n_,n_,n_,n_,n_,n_,n_,n_,n_,n_,n_,n_,n_]
def impl_satisfies.K3 : Array Bool := #[y_,y_,y_,n_,n_,n_,n_,n_,n_,n_,n_,n_,n_,n_,n_,n_,n_,n_,n_,n_,n_,n_,n_,n_,n_,n_,n_,n_,n_,n_,n_,n_,n_]
def impl_satisfies.K4 : Array Bool := #[y_,y_,y_,y_,n_,n_,n_,n_,n_,n_,n_,n_,n_,n_,n_,n_,n_,n_,n_,n_,n_,n_,n_,n_,n_,n_,n_,n_,n_,n_,n_,n_,n_]
def impl_satisfies.K5 : Array Bool := #[y_,y_,y_,y_,y_,n_,n_,n_,n_,n_,n_,n_,n_,n_,n_,n_,n_,n_,n_,n_,n_,n_,n_,n_,n_,n_,n_,n_,n_,n_,n_,n_,n_]
def impl_satisfies.K6 : Array Bool := #[y_,y_,y_,y_,y_,y_,n_,n_,n_,n_,n_,n_,n_,n_,n_,n_,n_,n_,n_,n_,n_,n_,n_,n_,n_,n_,n_,n_,n_,n_,n_,n_,n_]
def impl_satisfies.K7 : Array Bool := #[y_,y_,y_,y_,y_,y_,n_,n_,n_,y_,n_,n_,n_,n_,n_,n_,n_,n_,n_,n_,n_,n_,n_,n_,n_,n_,n_,n_,n_,n_,n_,n_,n_]
def impl_satisfies.K8 : Array Bool := #[y_,y_,y_,y_,y_,y_,y_,n_,n_,y_,n_,n_,n_,n_,n_,n_,n_,n_,n_,n_,n_,n_,n_,n_,n_,n_,n_,n_,n_,n_,n_,n_,n_]
def impl_satisfies.K9 : Array Bool := #[y_,y_,y_,y_,y_,y_,y_,y_,n_,y_,n_,n_,n_,n_,n_,n_,n_,n_,n_,n_,n_,n_,n_,n_,n_,n_,n_,n_,n_,n_,n_,n_,n_]
def impl_satisfies.K10 : Array Bool := #[y_,y_,y_,y_,y_,y_,y_,y_,y_,y_,n_,n_,n_,n_,n_,n_,n_,n_,n_,n_,n_,n_,n_,n_,n_,n_,n_,n_,n_,n_,n_,n_,n_]
def impl_satisfies.K11 : Array Bool := #[y_,y_,y_,y_,y_,y_,y_,y_,y_,y_,y_,n_,n_,n_,n_,n_,n_,n_,n_,n_,n_,n_,n_,n_,n_,n_,n_,n_,n_,n_,n_,n_,n_]
def impl_satisfies.K12 : Array Bool := #[y_,y_,y_,y_,y_,y_,y_,y_,y_,y_,y_,y_,n_,n_,n_,n_,n_,n_,n_,n_,n_,n_,n_,n_,n_,n_,n_,n_,n_,n_,n_,n_,n_]
def impl_satisfies.K13 : Array Bool := #[y_,y_,y_,y_,y_,y_,y_,y_,y_,y_,y_,y_,y_,n_,n_,n_,n_,n_,n_,n_,n_,n_,n_,n_,n_,n_,n_,n_,n_,n_,n_,n_,n_]
def impl_satisfies.K14 : Array Bool := #[y_,y_,y_,y_,y_,y_,y_,y_,y_,y_,y_,y_,y_,y_,n_,n_,n_,n_,n_,n_,n_,n_,n_,n_,n_,n_,n_,n_,n_,n_,n_,n_,n_]
def impl_satisfies.K15 : Array Bool := #[y_,y_,y_,y_,y_,y_,y_,y_,y_,y_,y_,y_,y_,y_,n_,y_,n_,n_,n_,n_,n_,n_,n_,n_,n_,n_,n_,n_,n_,n_,n_,n_,n_]
def impl_satisfies.K16 : Array Bool := #[y_,y_,y_,y_,y_,y_,y_,y_,y_,y_,y_,y_,y_,y_,n_,y_,n_,n_,n_,n_,y_,n_,n_,n_,n_,n_,n_,n_,n_,n_,n_,n_,n_]
def impl_satisfies.K17 : Array Bool := #[y_,y_,y_,y_,y_,y_,y_,y_,y_,y_,y_,y_,y_,y_,y_,y_,n_,n_,n_,n_,y_,n_,n_,n_,n_,n_,n_,n_,n_,n_,n_,n_,n_]
def impl_satisfies.K18 : Array Bool := #[y_,y_,y_,y_,y_,y_,y_,y_,y_,y_,y_,y_,y_,y_,y_,y_,y_,n_,n_,n_,y_,n_,n_,n_,n_,n_,n_,n_,n_,n_,n_,n_,n_]
def impl_satisfies.K19 : Array Bool := #[y_,y_,y_,y_,y_,y_,y_,y_,y_,y_,y_,y_,y_,y_,y_,y_,y_,y_,n_,n_,y_,n_,n_,n_,n_,n_,n_,n_,n_,n_,n_,n_,n_]
def impl_satisfies.K20 : Array Bool := #[y_,y_,y_,y_,y_,y_,y_,y_,y_,y_,y_,y_,y_,y_,y_,y_,y_,y_,y_,n_,y_,n_,n_,n_,n_,n_,n_,n_,n_,n_,n_,n_,n_]
def impl_satisfies.K21 : Array Bool := #[y_,y_,y_,y_,y_,y_,y_,y_,y_,y_,y_,y_,y_,y_,y_,y_,y_,y_,y_,y_,y_,n_,n_,n_,n_,n_,n_,n_,n_,n_,n_,n_,n_]
def impl_satisfies.K22 : Array Bool := #[y_,y_,y_,y_,y_,y_,y_,y_,y_,y_,y_,y_,y_,y_,y_,y_,y_,y_,y_,y_,y_,y_,n_,n_,n_,n_,n_,n_,n_,n_,n_,n_,n_]
def impl_satisfies.K23 : Array Bool := #[y_,y_,y_,y_,y_,y_,y_,y_,y_,y_,y_,y_,y_,y_,y_,y_,y_,y_,y_,y_,y_,y_,y_,n_,n_,n_,n_,n_,n_,n_,n_,n_,n_]
def impl_satisfies.K24 : Array Bool := #[y_,y_,y_,y_,y_,y_,y_,y_,y_,y_,y_,y_,y_,y_,y_,y_,y_,y_,y_,y_,y_,y_,y_,y_,n_,n_,n_,n_,n_,n_,n_,n_,n_]
def impl_satisfies.K25 : Array Bool := #[y_,y_,y_,y_,y_,y_,y_,y_,y_,y_,y_,y_,y_,y_,y_,y_,y_,y_,y_,y_,y_,y_,y_,y_,y_,n_,n_,n_,n_,n_,n_,n_,n_]
def impl_satisfies.K26 : Array Bool := #[y_,y_,y_,y_,y_,y_,y_,y_,y_,y_,y_,y_,y_,y_,y_,y_,y_,y_,y_,y_,y_,y_,y_,y_,y_,n_,y_,n_,n_,n_,n_,n_,n_]
def impl_satisfies.K27 : Array Bool := #[y_,y_,y_,y_,y_,y_,y_,y_,y_,y_,y_,y_,y_,y_,y_,y_,y_,y_,y_,y_,y_,y_,y_,y_,y_,n_,y_,n_,y_,n_,n_,n_,n_]
def impl_satisfies.K28 : Array Bool := #[y_,y_,y_,y_,y_,y_,y_,y_,y_,y_,y_,y_,y_,y_,y_,y_,y_,y_,y_,y_,y_,y_,y_,y_,y_,y_,y_,n_,y_,n_,n_,n_,n_]
def impl_satisfies.K29 : Array Bool := #[y_,y_,y_,y_,y_,y_,y_,y_,y_,y_,y_,y_,y_,y_,y_,y_,y_,y_,y_,y_,y_,y_,y_,y_,y_,y_,y_,y_,y_,n_,n_,n_,n_]
def impl_satisfies.K30 : Array Bool := #[y_,y_,y_,y_,y_,y_,y_,y_,y_,y_,y_,y_,y_,y_,y_,y_,y_,y_,y_,y_,y_,y_,y_,y_,y_,y_,y_,y_,y_,y_,n_,n_,n_]
def impl_satisfies.K31 : Array Bool := #[y_,y_,y_,y_,y_,y_,y_,y_,y_,y_,y_,y_,y_,y_,y_,y_,y_,y_,y_,y_,y_,y_,y_,y_,y_,y_,y_,y_,y_,y_,y_,n_,n_]
def impl_satisfies.K32 : Array Bool := #[y_,y_,y_,y_,y_,y_,y_,y_,y_,y_,y_,y_,y_,y_,y_,y_,y_,y_,y_,y_,y_,y_,y_,y_,y_,y_,y_,y_,y_,y_,y_,y_,n_]
def impl_satisfies.K33 : Array Bool := #[y_,y_,y_,y_,y_,y_,y_,y_,y_,y_,y_,y_,y_,y_,y_,y_,y_,y_,y_,y_,y_,y_,y_,y_,y_,y_,y_,y_,y_,y_,y_,y_,y_]
def impl_satisfies.K34 : Array Bool := #[y_,y_,y_,y_,y_,y_,y_,y_,y_,y_,y_,y_,y_,y_,y_,y_,y_,y_,y_,y_,y_,y_,y_,y_,y_,y_,n_,n_,n_,n_,n_,n_,n_]
def impl_satisfies.K35 : Array Bool := #[y_,y_,y_,y_,y_,y_,y_,y_,y_,y_,y_,y_,y_,y_,y_,y_,y_,y_,y_,y_,y_,y_,y_,y_,y_,y_,y_,n_,n_,n_,n_,n_,n_]
def impl_satisfies.K36 : Array Bool := #[y_,y_,y_,y_,y_,y_,y_,y_,y_,y_,y_,y_,y_,y_,y_,y_,y_,y_,y_,y_,y_,y_,y_,y_,y_,y_,y_,y_,n_,n_,n_,n_,n_]
def impl_satisfies.K37 : Array Bool := #[y_,y_,y_,y_,y_,y_,y_,y_,y_,y_,y_,y_,y_,y_,y_,n_,n_,n_,n_,n_,n_,n_,n_,n_,n_,n_,n_,n_,n_,n_,n_,n_,n_]
def impl_satisfies.K38 : Array Bool := #[y_,y_,y_,y_,y_,y_,y_,y_,y_,y_,y_,y_,y_,y_,y_,y_,n_,n_,n_,n_,n_,n_,n_,n_,n_,n_,n_,n_,n_,n_,n_,n_,n_]
def impl_satisfies.K39 : Array Bool := #[y_,y_,y_,y_,y_,y_,y_,y_,y_,y_,y_,y_,y_,y_,y_,y_,y_,n_,n_,n_,n_,n_,n_,n_,n_,n_,n_,n_,n_,n_,n_,n_,n_]
def impl_satisfies.K40 : Array Bool := #[y_,y_,y_,y_,y_,y_,y_,y_,y_,y_,y_,y_,y_,y_,y_,y_,y_,y_,n_,n_,n_,n_,n_,n_,n_,n_,n_,n_,n_,n_,n_,n_,n_]
def impl_satisfies.K41 : Array Bool := #[y_,y_,y_,y_,y_,y_,y_,y_,y_,y_,y_,y_,y_,y_,y_,y_,y_,y_,y_,n_,n_,n_,n_,n_,n_,n_,n_,n_,n_,n_,n_,n_,n_]
def impl_satisfies.K42 : Array Bool := #[y_,y_,y_,y_,y_,y_,y_,y_,y_,y_,y_,y_,y_,y_,y_,y_,y_,y_,y_,y_,n_,n_,n_,n_,n_,n_,n_,n_,n_,n_,n_,n_,n_]
def impl_satisfies.K43 : Array Bool := #[y_,y_,y_,y_,y_,y_,y_,n_,n_,n_,n_,n_,n_,n_,n_,n_,n_,n_,n_,n_,n_,n_,n_,n_,n_,n_,n_,n_,n_,n_,n_,n_,n_]
def impl_satisfies.K44 : Array Bool := #[y_,y_,y_,y_,y_,y_,y_,y_,n_,n_,n_,n_,n_,n_,n_,n_,n_,n_,n_,n_,n_,n_,n_,n_,n_,n_,n_,n_,n_,n_,n_,n_,n_]
def impl_satisfies.K45 : Array Bool := #[y_,y_,y_,y_,y_,y_,y_,y_,y_,n_,n_,n_,n_,n_,n_,n_,n_,n_,n_,n_,n_,n_,n_,n_,n_,n_,n_,n_,n_,n_,n_,n_,n_]
def impl_satisfies.K46 : Array Bool := #[n_,n_,n_,n_,n_,n_,n_,n_,n_,n_,n_,n_,n_]
def impl_satisfies.K47 : Array Bool := #[y_,n_,n_,n_,n_,n_,n_,n_,n_,n_,n_,n_,n_]
def impl_satisfies.K48 : Array Bool := #[y_,n_,y_,n_,n_,n_,n_,n_,n_,n_,n_,n_,n_]
def impl_satisfies.K49 : Array Bool := #[y_,y_,y_,n_,n_,n_,n_,n_,n_,n_,n_,n_,n_]
def impl_satisfies.K50 : Array Bool := #[y_,y_,y_,y_,n_,n_,n_,n_,n_,n_,n_,n_,n_]
def impl_satisfies.K51 : Array Bool := #[y_,y_,y_,y_,y_,n_,n_,n_,n_,n_,n_,n_,n_]
def impl_satisfies.K52 : Array Bool := #[y_,y_,y_,y_,y_,y_,n_,n_,n_,n_,n_,n_,n_]
def impl_satisfies.K53 : Array Bool := #[y_,y_,y_,y_,y_,y_,y_,n_,n_,n_,n_,n_,n_]
def impl_satisfies.K54 : Array Bool := #[y_,y_,y_,y_,y_,y_,y_,y_,n_,n_,n_,n_,n_]
def impl_satisfies.K55 : Array Bool := #[y_,y_,y_,y_,y_,y_,y_,y_,y_,n_,n_,n_,n_]
def impl_satisfies.K56 : Array Bool := #[y_,y_,y_,y_,y_,y_,y_,y_,y_,y_,n_,n_,n_]
def impl_satisfies.K57 : Array Bool := #[y_,y_,y_,y_,y_,y_,y_,y_,y_,y_,y_,n_,n_]
def impl_satisfies.K58 : Array Bool := #[y_,y_,y_,y_,y_,y_,y_,y_,y_,y_,y_,y_,n_]
def impl_satisfies.K59 : Array Bool := #[y_,y_,y_,y_,y_,y_,y_,y_,y_,y_,y_,y_,y_]
def impl_satisfies.K60 : Array Bool := #[y_,y_,y_,y_,y_,y_,n_,n_,y_,n_,n_,n_,n_]
def impl_satisfies.K61 : Array Bool := #[y_,y_,y_,y_,y_,y_,y_,n_,y_,n_,n_,n_,n_]
def impl_satisfies.K62 : Array Bool := #[y_,y_,y_,y_,y_,y_,y_,n_,y_,y_,n_,n_,n_]
def impl_satisfies.j0 : Nat → Bool → ByteArray → List Int → List Int → Int → Int → List (List Int) → Int → Int → Int → Int → Int → List (List Int) → Int → List Int → Option (Bool)
 | 0, _, _, _, _, _, _, _, _, _, _, _, _, _, _, _ => none
 | k + 1, x42, x597000, x597001, x597002, x597003, x597004, x597005, x598000, x598001, x598002, x598003, x598004, x598005, x598006, x599000 => if x42 = true then (some false) else ((impl_Raga_firstWrong.f k x597000 x597001 x597002 x597003 x597004 x597005 x599000).bind fun bt602 => (if bt602.2 = 0 then ((impl_satisfies_any.f k x598005 x599000).bind fun t604 => (if t604 = true then (some false) else ((impl_mostRepeats.f k x599000).bind fun t605 => (some (decide (t605 ≤ x598006)))))) else (some false)))
def impl_satisfies.f (k : Nat) (a0_0 : ByteArray) (l0_1 : List Int) (l0_2 : List Int) (a0_3 : Int) (a0_4 : Int) (l0_5 : List (List Int)) (a1_0 : Int) (a1_1 : Int) (a1_2 : Int) (a1_3 : Int) (a1_4 : Int) (l1_5 : List (List Int)) (a1_6 : Int) (l2 : List Int) : Option (Bool) := if (l2.length : Int) = a1_0 then (if 0 < (l2.length : Int) then (if (rd l2 0) = a1_1 then (if 0 ≤ (wrap64 (a1_0 - 1)) then (if (wrap64 (a1_0 - 1)) < (l2.length : Int) then (if (rd l2 (wrap64 (a1_0 - 1))) = a1_2 then ((impl_allWithin.f l2 a1_3 a1_4).bind fun t601 => (impl_satisfies.j0 k (!t601) a0_0 l0_1 l0_2 a0_3 a0_4 l0_5 a1_0 a1_1 a1_2 a1_3 a1_4 l1_5 a1_6 l2)) else (impl_satisfies.j0 k true a0_0 l0_1 l0_2 a0_3 a0_4 l0_5 a1_0 a1_1 a1_2 a1_3 a1_4 l1_5 a1_6 l2)) else (none)) else (none)) else (impl_satisfies.j0 k true a0_0 l0_1 l0_2 a0_3 a0_4 l0_5 a1_0 a1_1 a1_2 a1_3 a1_4 l1_5 a1_6 l2)) else (none)) else (impl_satisfies.j0 k true a0_0 l0_1 l0_2 a0_3 a0_4 l0_5 a1_0 a1_1 a1_2 a1_3 a1_4 l1_5 a1_6 l2)
def impl_satisfies.T1 : Bool × List (List Nat × List Nat) := (true, [([], []), ([0], [0]), ([], []), ([2], [2]), ([1, 3], [1, 3]), ([4], [4]), ([5], [5]), ([6, 5], [5, 6]), ([7, 5], [5, 7]), ([5], [5]), ([9, 5], [5, 9]), ([8, 10, 5], [5, 8, 10]), ([5, 11], [5, 11]), ([12, 5], [12]), ([13], [13]), ([13], [13]), ([15, 13], [13, 15]), ([16, 13], [13, 16]), ([14, 17, 13], [13, 14, 17]), ([18, 13], [13, 18]), ([13], [13]), ([20, 13], [13, 20]), ([19, 21, 13], [13, 19, 21]), ([13, 22], [13, 22]), ([23, 13], [23]), ([24], [24]), ([24], [24]), ([26, 24], [24, 26]), ([24], [24]), ([28, 24], [24, 28]), ([25, 27, 29, 24, 24], [24, 25, 27, 29]), ([30, 24], [24, 30]), ([24, 31], [24, 31])])
def impl_satisfies.B1 : List Nat := [0, 1, 0, 4, 15, 31, 63, 127, 255, 63, 575, 2047, 4095, 8191, 16383, 16383, 49151, 114687, 262143, 524287, 16383, 1064959, 4194303, 8388607, 16777215, 33554431, 33554431, 100663295, 33554431, 301989887, 1073741823, 2147483647, 4294967295]
theorem impl_satisfies.tab1 : rtab .any (opsOf Try.f97 1) = impl_satisfies.T1 := by kernel_rfl
theorem impl_satisfies.bits1 : waitsOk impl_satisfies.T1.2 impl_satisfies.B1 = true := by kernel_rfl
def impl_satisfies.T7 : Bool × List (List Nat × List Nat) := (true, [([], []), ([0], [0]), ([], []), ([1, 2], [1, 2]), ([3], [3]), ([4, 3], [4]), ([5], [5]), ([6, 5, 5], [5, 6]), ([5], [5]), ([8, 5], [5, 8]), ([7, 9, 5], [5, 7, 9]), ([5, 10], [5, 10]), ([11, 7, 0, 1, 2, 3, 4, 5, 6, 7, 8, 9, 10, 11], [11])])
def impl_satisfies.B7 : List Nat := [0, 1, 0, 7, 15, 31, 63, 127, 63, 319, 1023, 2047, 4095]
theorem impl_satisfies.tab7 : rtab .any (opsOf Try.f97 7) = impl_satisfies.T7 := by kernel_rfl
theorem impl_satisfies.bits7 : waitsOk impl_satisfies.T7.2 impl_satisfies.B7 = true := by kernel_rfl
set_option maxHeartbeats 8000000 in
set_option maxRecDepth 100000 in
theorem impl_satisfies.calls (k : Nat) (a0_0 : ByteArray) (A0_1 : Option Addr) (c0_1 : Nat) (l0_1 : List Int) (A0_2 : Option Addr) (c0_2 : Nat) (l0_2 : List Int) (a0_3 : Int) (a0_4 : Int) (A0_5 : Option Addr) (c0_5 : Nat) (l0_5 : List (List Int)) (a1_0 : Int) (a1_1 : Int) (a1_2 : Int) (a1_3 : Int) (a1_4 : Int) (A1_5 : Option Addr) (c1_5 : Nat) (l1_5 : List (List Int)) (a1_6 : Int) (A2 : Option Addr) (c2 : Nat) (l2 : List Int) (r : Bool) (w : World) (hr0_1 : Kd.C (Kd.int .i64) w A0_1 l0_1.length l0_1) (hc0_1 : l0_1.length ≤ c0_1) (hr0_2 : Kd.C (Kd.int .i64) w A0_2 l0_2.length l0_2) (hc0_2 : l0_2.length ≤ c0_2) (hr0_5 : Kd.C (Kd.slice 2 (Kd.int .i64)) w A0_5 l0_5.length l0_5) (hc0_5 : l0_5.length ≤ c0_5) (hr1_5 : Kd.C (Kd.slice 2 (Kd.int .i64)) w A1_5 l1_5.length l1_5) (hc1_5 : l1_5.length ≤ c1_5) (hr2 : Kd.C (Kd.int .i64) w A2 l2.length l2) (hc2 : l2.length ≤ c2) (h : impl_satisfies.f k a0_0 l0_1 l0_2 a0_3 a0_4 l0_5 a1_0 a1_1 a1_2 a1_3 a1_4 l1_5 a1_6 l2 = some r) :
  Calls Try.prog 97 #[.agg #[.string a0_0, .slice A0_1 l0_1.length c0_1, .slice A0_2 l0_2.length c0_2, .int .i64 a0_3, .int .i64 a0_4, .slice A0_5 l0_5.length c0_5], .agg #[.int .i64 a1_0, .int .i64 a1_1, .int .i64 a1_2, .int .i64 a1_3, .int .i64 a1_4, .slice A1_5 l1_5.length c1_5, .int .i64 a1_6], .slice A2 l2.length c2] w fun e w' => e = .returned (.bool r) ∧ Below w.heap.size w w' := by
 have hu29 := Try.underlying29
 have hu62 := Try.underlying62
 have HR0_1 := Aside0.mk hr0_1
 have HC0_1 := Aside0.mk hc0_1
 clear hr0_1 hc0_1
 have HR0_2 := Aside0.mk hr0_2
 have HC0_2 := Aside0.mk hc0_2
 clear hr0_2 hc0_2
 have HR0_5 := Aside0.mk hr0_5
 have HC0_5 := Aside0.mk hc0_5
 clear hr0_5 hc0_5
 have HR1_5 := Aside0.mk hr1_5
 have HC1_5 := Aside0.mk hc1_5
 clear hr1_5 hc1_5
 have HR2 := Aside0.mk hr2
 have HC2 := Aside0.mk hc2
 clear hr2 hc2
 have HB := Aside0.mk (Below.refl w.heap.size w)
 have H : (if (l2.length : Int) = a1_0 then (if 0 < (l2.length : Int) then (if (rd l2 0) = a1_1 then (if 0 ≤ (wrap64 (a1_0 - 1)) then (if (wrap64 (a1_0 - 1)) < (l2.length : Int) then (if (rd l2 (wrap64 (a1_0 - 1))) = a1_2 then ((impl_allWithin.f l2 a1_3 a1_4).bind fun t601 => (impl_satisfies.j0 k (!t601) a0_0 l0_1 l0_2 a0_3 a0_4 l0_5 a1_0 a1_1 a1_2 a1_3 a1_4 l1_5 a1_6 l2)) else (impl_satisfies.j0 k true a0_0 l0_1 l0_2 a0_3 a0_4 l0_5 a1_0 a1_1 a1_2 a1_3 a1_4 l1_5 a1_6 l2)) else (none)) else (none)) else (impl_satisfies.j0 k true a0_0 l0_1 l0_2 a0_3 a0_4 l0_5 a1_0 a1_1 a1_2 a1_3 a1_4 l1_5 a1_6 l2)) else (none)) else (impl_satisfies.j0 k true a0_0 l0_1 l0_2 a0_3 a0_4 l0_5 a1_0 a1_1 a1_2 a1_3 a1_4 l1_5 a1_6 l2)) = some r := h
 clear h
 have HC4 := Aside0.mk H
 clear H
 go_enter Try.func97, Try.ntmps97
 go_upto_region 1 with (first | ((with_reducible refine gate_dst (N := 3) rfl ?_); refine box_event ?hg (N := 3) ?hd (cs := #[.string a0_0, .slice A0_1 l0_1.length c0_1, .slice A0_2 l0_2.length c0_2, .int .i64 a0_3, .int .i64 a0_4, .slice A0_5 l0_5.length c0_5]) (t := 29) ?hr ?_; (case hd => rfl); (case hg => rfl); (case hr => first | (go_simp; done) | (go_simp; rfl)); intro gb596 hg w5 hbox hb; have n0_ := Aside0.mk (below_step (ba_ HB.out) hb); have n1_ := Aside0.mk (hbox); have n2_ := Aside0.mk ((by rw [hg]; exact (below_size (ba_ HB.out)) : w.heap.size ≤ gb596)); have n3_ := Aside0.mk ((by rw [hg]; exact (below_size (ba_ HB.out)) : w.heap.size ≤ gb596)); clear HB; have HB := n0_; have BK596 := n1_; have GW596 := n2_; have GE596 := n3_; clear n0_ n1_ n2_ n3_; clear hb hbox hg) | ((with_reducible refine gate_dst (N := 4) rfl ?_); refine box_event ?hg (N := 4) ?hd (cs := #[.int .i64 a1_0, .int .i64 a1_1, .int .i64 a1_2, .int .i64 a1_3, .int .i64 a1_4, .slice A1_5 l1_5.length c1_5, .int .i64 a1_6]) (t := 62) ?hr ?_; (case hd => rfl); (case hg => rfl); (case hr => first | (go_simp; done) | (go_simp; rfl)); intro gb597 hg w6 hbox hb; have n0_ := Aside0.mk (blk_below (g := gb596) (o := .cells #[.string a0_0, .slice A0_1 l0_1.length c0_1, .slice A0_2 l0_2.length c0_2, .int .i64 a0_3, .int .i64 a0_4, .slice A0_5 l0_5.length c0_5] 29 (0, 0)) (by repeat first | exact BK596.out | refine blk_drewN ?_ _ | refine blk_drew ?_ | refine blk_alloc ?_ _) hb); have n1_ := Aside0.mk (below_step (bg_ HB.out GE596.out) hb); have n2_ := Aside0.mk (hbox); have n3_ := Aside0.mk ((by rw [hg]; exact (below_size (bg_ HB.out GE596.out)) : w.heap.size ≤ gb597)); have n4_ := Aside0.mk ((by rw [hg]; exact (below_size (bg_ HB.out GE596.out)) : w.heap.size ≤ gb597)); have n5_ := Aside0.mk ((by rw [hg]; exact Nat.ne_of_lt (blk_lt (g := gb596) (o := .cells #[.string a0_0, .slice A0_1 l0_1.length c0_1, .slice A0_2 l0_2.length c0_2, .int .i64 a0_3, .int .i64 a0_4, .slice A0_5 l0_5.length c0_5] 29 (0, 0)) (by repeat first | exact BK596.out | refine blk_drewN ?_ _ | refine blk_drew ?_ | refine blk_alloc ?_ _)) : gb596 ≠ gb597)); have n6_ := Aside0.mk ((by rw [hg]; exact Nat.ne_of_gt (blk_lt (g := gb596) (o := .cells #[.string a0_0, .slice A0_1 l0_1.length c0_1, .slice A0_2 l0_2.length c0_2, .int .i64 a0_3, .int .i64 a0_4, .slice A0_5 l0_5.length c0_5] 29 (0, 0)) (by repeat first | exact BK596.out | refine blk_drewN ?_ _ | refine blk_drew ?_ | refine blk_alloc ?_ _)) : gb597 ≠ gb596)); clear BK596; clear HB; have BK596 := n0_; have HB := n1_; have BK597 := n2_; have GW597 := n3_; have GE597 := n4_; have NB596_597 := n5_; have NB597_596 := n6_; clear n0_ n1_ n2_ n3_ n4_ n5_ n6_; clear hb hbox hg) | ((with_reducible refine gate_dst (N := 5) rfl ?_); refine box_event ?hg (N := 5) ?hd (cs := #[.slice A2 l2.length c2]) (t := 22) ?hr ?_; (case hd => rfl); (case hg => rfl); (case hr => first | (go_simp; done) | (go_simp; rfl)); intro gb598 hg w7 hbox hb; have n0_ := Aside0.mk (blk_below (g := gb596) (o := .cells #[.string a0_0, .slice A0_1 l0_1.length c0_1, .slice A0_2 l0_2.length c0_2, .int .i64 a0_3, .int .i64 a0_4, .slice A0_5 l0_5.length c0_5] 29 (0, 0)) (by repeat first | exact BK596.out | refine blk_drewN ?_ _ | refine blk_drew ?_ | refine blk_alloc ?_ _) hb); have n1_ := Aside0.mk (blk_below (g := gb597) (o := .cells #[.int .i64 a1_0, .int .i64 a1_1, .int .i64 a1_2, .int .i64 a1_3, .int .i64 a1_4, .slice A1_5 l1_5.length c1_5, .int .i64 a1_6] 62 (0, 0)) (by repeat first | exact BK597.out | refine blk_drewN ?_ _ | refine blk_drew ?_ | refine blk_alloc ?_ _) hb); have n2_ := Aside0.mk (below_step (bh_ HB.out GE596.out GE597.out) hb); have n3_ := Aside0.mk (hbox); have n4_ := Aside0.mk ((by rw [hg]; exact (below_size (bh_ HB.out GE596.out GE597.out)) : w.heap.size ≤ gb598)); have n5_ := Aside0.mk ((by rw [hg]; exact (below_size (bh_ HB.out GE596.out GE597.out)) : w.heap.size ≤ gb598)); have n6_ := Aside0.mk ((by rw [hg]; exact Nat.ne_of_lt (blk_lt (g := gb596) (o := .cells #[.string a0_0, .slice A0_1 l0_1.length c0_1, .slice A0_2 l0_2.length c0_2, .int .i64 a0_3, .int .i64 a0_4, .slice A0_5 l0_5.length c0_5] 29 (0, 0)) (by repeat first | exact BK596.out | refine blk_drewN ?_ _ | refine blk_drew ?_ | refine blk_alloc ?_ _)) : gb596 ≠ gb598)); have n7_ := Aside0.mk ((by rw [hg]; exact Nat.ne_of_gt (blk_lt (g := gb596) (o := .cells #[.string a0_0, .slice A0_1 l0_1.length c0_1, .slice A0_2 l0_2.length c0_2, .int .i64 a0_3, .int .i64 a0_4, .slice A0_5 l0_5.length c0_5] 29 (0, 0)) (by repeat first | exact BK596.out | refine blk_drewN ?_ _ | refine blk_drew ?_ | refine blk_alloc ?_ _)) : gb598 ≠ gb596)); have n8_ := Aside0.mk ((by rw [hg]; exact Nat.ne_of_lt (blk_lt (g := gb597) (o := .cells #[.int .i64 a1_0, .int .i64 a1_1, .int .i64 a1_2, .int .i64 a1_3, .int .i64 a1_4, .slice A1_5 l1_5.length c1_5, .int .i64 a1_6] 62 (0, 0)) (by repeat first | exact BK597.out | refine blk_drewN ?_ _ | refine blk_drew ?_ | refine blk_alloc ?_ _)) : gb597 ≠ gb598)); have n9_ := Aside0.mk ((by rw [hg]; exact Nat.ne_of_gt (blk_lt (g := gb597) (o := .cells #[.int .i64 a1_0, .int .i64 a1_1, .int .i64 a1_2, .int .i64 a1_3, .int .i64 a1_4, .slice A1_5 l1_5.length c1_5, .int .i64 a1_6] 62 (0, 0)) (by repeat first | exact BK597.out | refine blk_drewN ?_ _ | refine blk_drew ?_ | refine blk_alloc ?_ _)) : gb598 ≠ gb597)); clear BK596; clear BK597; clear HB; have BK596 := n0_; have BK597 := n1_; have HB := n2_; have BK598 := n3_; have GW598 := n4_; have GE598 := n5_; have NB596_598 := n6_; have NB598_596 := n7_; have NB597_598 := n8_; have NB598_597 := n9_; clear n0_ n1_ n2_ n3_ n4_ n5_ n6_ n7_ n8_ n9_; clear hb hbox hg))
 (try simp only [Act.put, List.setIfInBounds_toArray, List.set_cons_zero, List.set_cons_succ])
 go_cut [42] (fun v42 wc => ∃ (kq : Nat) (x42_3 : Bool), v42 = .bool x42_3 ∧ Aside0 (impl_satisfies.j0 kq x42_3 a0_0 l0_1 l0_2 a0_3 a0_4 l0_5 a1_0 a1_1 a1_2 a1_3 a1_4 l1_5 a1_6 l2 = some r) ∧ Aside0 (kq ≤ k) ∧ Aside0 (wc.heap[gb596]? = some (.cells #[.string a0_0, (.slice A0_1 l0_1.length c0_1), (.slice A0_2 l0_2.length c0_2), .int .i64 a0_3, .int .i64 a0_4, (.slice A0_5 l0_5.length c0_5)] 29 (0, 0))) ∧ Aside0 (wc.heap[gb597]? = some (.cells #[.int .i64 a1_0, .int .i64 a1_1, .int .i64 a1_2, .int .i64 a1_3, .int .i64 a1_4, (.slice A1_5 l1_5.length c1_5), .int .i64 a1_6] 62 (0, 0))) ∧ Aside0 (wc.heap[gb598]? = some (.cells #[(.slice A2 l2.length c2)] 22 (0, 0))) ∧ Aside0 (Below w.heap.size w wc))
 case first =>
  have H := HC4.out
  clear HC4
  by_cases c8 : (l2.length : Int) = a1_0
  ·rw [if_pos c8] at H
   have c8b0 : ((l2.length : Int) == a1_0) = true := beq_iff_eq.mpr c8
   have c8b1 : ((l2.length : Int) != a1_0) = false := bne_eq_false_iff_eq.mpr c8
   clear c8
   (first | rw [c8b0] | (simp only [i64_w, i32_w]; rw [c8b0]) | skip)
   by_cases c9 : 0 < (l2.length : Int)
   ·rw [if_pos c9] at H
    have c9b0 : decide (0 < (l2.length : Int)) = true := decide_eq_true c9
    have c9b1 : decide (0 < l2.length) = true := decide_eq_true (by omega)
    clear c9
    by_cases c10 : (rd l2 0) = a1_1
    ·rw [if_pos c10] at H
     have c10b0 : ((rd l2 0) == a1_1) = true := beq_iff_eq.mpr c10
     have c10b1 : ((rd l2 0) != a1_1) = false := bne_eq_false_iff_eq.mpr c10
     clear c10
     obtain ⟨ji11, hji11⟩ : ∃ j_ : Int, (wrap64 (a1_0 - 1)) = j_ := ⟨_, rfl⟩
     replace H : (if 0 ≤ (ji11) then (if (ji11) < (l2.length : Int) then (if (rd l2 (ji11)) = a1_2 then ((impl_allWithin.f l2 a1_3 a1_4).bind fun t601 => (impl_satisfies.j0 k (!t601) a0_0 l0_1 l0_2 a0_3 a0_4 l0_5 a1_0 a1_1 a1_2 a1_3 a1_4 l1_5 a1_6 l2)) else (impl_satisfies.j0 k true a0_0 l0_1 l0_2 a0_3 a0_4 l0_5 a1_0 a1_1 a1_2 a1_3 a1_4 l1_5 a1_6 l2)) else (none)) else (none)) = some r := by first | (rw [hji11] at H; exact H) | (simp only [hji11] at H ⊢; exact H)
     have hji11w : (IntKind.i64.wrap (a1_0 - 1)) = ji11 := (i64_w _).trans hji11
     by_cases c12 : 0 ≤ (ji11)
     ·rw [if_pos c12] at H
      have c12b0 : decide (0 ≤ (ji11)) = true := decide_eq_true c12
      clear c12
      by_cases c13 : (ji11) < (l2.length : Int)
      ·rw [if_pos c13] at H
       have c13b0 : decide ((ji11) < (l2.length : Int)) = true := decide_eq_true c13
       clear c13
       by_cases c14 : (rd l2 (ji11)) = a1_2
       ·rw [if_pos c14] at H
        have c14b0 : ((rd l2 (ji11)) == a1_2) = true := beq_iff_eq.mpr c14
        have c14b1 : ((rd l2 (ji11)) != a1_2) = false := bne_eq_false_iff_eq.mpr c14
        clear c14
        replace H := Option.bind_eq_some_iff.mp H
        obtain ⟨t601, A150, H⟩ := H
        replace H : (impl_satisfies.j0 k (!t601) a0_0 l0_1 l0_2 a0_3 a0_4 l0_5 a1_0 a1_1 a1_2 a1_3 a1_4 l1_5 a1_6 l2) = some r := H
        have A15 := Aside0.mk A150; clear A150
        have H' := Aside0.mk H
        clear H
        try go_wp2
        have n0_ := Aside0.mk (blk_drew BK596.out)
        have n1_ := Aside0.mk (blk_drew BK597.out)
        have n2_ := Aside0.mk (blk_drew BK598.out)
        have n3_ := Aside0.mk (below_drew1 HB.out)
        clear BK596; clear BK597; clear BK598; clear HB; have BK596 := n0_; have BK597 := n1_; have BK598 := n2_; have HB := n3_; clear n0_ n1_ n2_ n3_
        have p599 : 0 ≤ (0 : Int) := (by omega)
        have q599 : 0 < (l2.length : Int) := da_
        obtain ⟨ad599, e599, hx599_0⟩ := Kd.at_int HR2.out 0 p599 q599; have hw599_0 := hx599_0; (try rw [show ((0 : Int)).toNat = 0 from rfl] at hw599_0); (try rw [show 0 * 1 = 0 from rfl] at hw599_0); (try rw [Addr.add_zero'] at hw599_0); cases e599
        have qi599 : (0 < l2.length) = True := eq_true (by omega)
        (try rw [show ((0 : Int)).toNat = 0 from rfl] at hx599_0); (try rw [Addr.add_zero'] at hx599_0)
        replace hx599_0 := (wc_ HB.out hx599_0 :)
        replace p599 := eq_true p599; replace q599 := eq_true q599
        have p600 : 0 ≤ ((ji11) : Int) := da_
        have q600 : (ji11) < (l2.length : Int) := da_
        obtain ⟨ad600, e600, hx600_0⟩ := Kd.at_int HR2.out (ji11) p600 q600; have hw600_0 := hx600_0; obtain rfl : ad599 = ad600 := (by injection e600)
        replace hx600_0 := (wc_ HB.out hx600_0 :)
        replace p600 := eq_true p600; replace q600 := eq_true q600
        refine start_ (n := 33) (S := fun w' => w'.cell? ⟨gb598, 0, none⟩ = some (.slice (some ad599) l2.length c2) ∧ w'.cell? ⟨gb597, 0, none⟩ = some (.int .i64 a1_0) ∧ w'.cell? ⟨gb597, 1, none⟩ = some (.int .i64 a1_1) ∧ w'.cell? ⟨gb597, 2, none⟩ = some (.int .i64 a1_2) ∧ w'.cell? ⟨gb597, 3, none⟩ = some (.int .i64 a1_3) ∧ w'.cell? ⟨gb597, 4, none⟩ = some (.int .i64 a1_4) ∧ w'.cell? ⟨gb597, 5, none⟩ = some (.slice A1_5 l1_5.length c1_5) ∧ w'.cell? ⟨gb597, 6, none⟩ = some (.int .i64 a1_6) ∧ w'.cell? ad599 = some (.int .i64 (rd l2 0)) ∧ w'.cell? (ad599.add ((ji11)).toNat) = some (.int .i64 (rd l2 (ji11)))) (ds := []) impl_satisfies.K0 (by kernel_rfl) rfl rfl ⟨(blk_cell BK598.out 0).trans rfl, (blk_cell BK597.out 0).trans rfl, (blk_cell BK597.out 1).trans rfl, (blk_cell BK597.out 2).trans rfl, (blk_cell BK597.out 3).trans rfl, (blk_cell BK597.out 4).trans rfl, (blk_cell BK597.out 5).trans rfl, (blk_cell BK597.out 6).trans rfl, (wc_ HB.out hw599_0 :), (wc_ HB.out hw600_0 :)⟩ (fun hHeld => ?_); refine with_tabW impl_satisfies.tab1 impl_satisfies.bits1 (fun HT_ HW_ => ?_)
        generalize w7.drew = w16 at BK596 BK597 BK598 HB hx599_0 hx600_0 hHeld ⊢
        refine pu_ HT_ 2 12 impl_satisfies.K1 ?_; refine tk_ HT_ HW_ hHeld 0 10 impl_satisfies.K2 ?_; refine pu_ HT_ 1 11 impl_satisfies.K3 ?_; refine tk_ HT_ HW_ hHeld 3 13 impl_satisfies.K4 ?_; refine pu_ HT_ 4 14 impl_satisfies.K5 ?_; refine pu_ HT_ 5 15 impl_satisfies.K6 ?_; refine pu_ HT_ 9 19 impl_satisfies.K7 ?_; refine tk_ HT_ HW_ hHeld 6 16 impl_satisfies.K8 ?_; refine pu_ HT_ 7 17 impl_satisfies.K9 ?_; refine tk_ HT_ HW_ hHeld 8 18 impl_satisfies.K10 ?_; refine tk_ HT_ HW_ hHeld 10 20 impl_satisfies.K11 ?_; refine pu_ HT_ 11 21 impl_satisfies.K12 ?_; refine pu_ HT_ 12 22 impl_satisfies.K13 ?_; refine pu_ HT_ 13 23 impl_satisfies.K14 ?_; refine pu_ HT_ 15 25 impl_satisfies.K15 ?_; refine pu_ HT_ 20 30 impl_satisfies.K16 ?_; refine tk_ HT_ HW_ hHeld 14 24 impl_satisfies.K17 ?_; refine tk_ HT_ HW_ hHeld 16 26 impl_satisfies.K18 ?_; refine pu_ HT_ 17 27 impl_satisfies.K19 ?_; refine pu_ HT_ 18 28 impl_satisfies.K20 ?_; refine tk_ HT_ HW_ hHeld 19 29 impl_satisfies.K21 ?_; refine tk_ HT_ HW_ hHeld 21 31 impl_satisfies.K22 ?_; refine pu_ HT_ 22 32 impl_satisfies.K23 ?_; refine pu_ HT_ 23 33 impl_satisfies.K24 ?_; refine pu_ HT_ 24 34 impl_satisfies.K25 ?_; refine pu_ HT_ 26 36 impl_satisfies.K26 ?_; refine pu_ HT_ 28 38 impl_satisfies.K27 ?_; refine tk_ HT_ HW_ hHeld 25 35 impl_satisfies.K28 ?_; refine tk_ HT_ HW_ hHeld 27 37 impl_satisfies.K29 ?_; refine tk_ HT_ HW_ hHeld 29 39 impl_satisfies.K30 ?_
        refine one_ (i := 30) (N := some 40) impl_satisfies.K31 rfl rfl (one_of HT_.out (by kernel_rfl)) (by decide) (fun K hK => ?_)
        refine goes_ Try.func123 (by kernel_rfl) rfl #[.slice (some ad599) l2.length c2, .int .i64 a1_3, .int .i64 a1_4] (by rfl) rfl rfl av_ ?_
        with_reducible refine (impl_allWithin.calls _ _ l2 a1_3 a1_4 t601 _ ?side1 ?side2 A15.out).mono ?_
        (case side1 => exact (Kd.C_below HR2.out HB.out))
        (case side2 => exact HC2.out)
        rintro e w17 ⟨rfl, hb⟩
        refine ⟨_, rfl, ?_⟩
        have n0_ := Aside0.mk (blk_below (g := gb596) (o := .cells #[.string a0_0, .slice A0_1 l0_1.length c0_1, .slice A0_2 l0_2.length c0_2, .int .i64 a0_3, .int .i64 a0_4, .slice A0_5 l0_5.length c0_5] 29 (0, 0)) (by repeat first | exact BK596.out | refine blk_drewN ?_ _ | refine blk_drew ?_ | refine blk_alloc ?_ _) hb)
        have n1_ := Aside0.mk (blk_below (g := gb597) (o := .cells #[.int .i64 a1_0, .int .i64 a1_1, .int .i64 a1_2, .int .i64 a1_3, .int .i64 a1_4, .slice A1_5 l1_5.length c1_5, .int .i64 a1_6] 62 (0, 0)) (by repeat first | exact BK597.out | refine blk_drewN ?_ _ | refine blk_drew ?_ | refine blk_alloc ?_ _) hb)
        have n2_ := Aside0.mk (blk_below (g := gb598) (o := .cells #[.slice (some ad599) l2.length c2] 22 (0, 0)) (by repeat first | exact BK598.out | refine blk_drewN ?_ _ | refine blk_drew ?_ | refine blk_alloc ?_ _) hb)
        have n3_ := Aside0.mk (below_step (bi_ HB.out GE596.out GE597.out GE598.out) hb)
        clear BK596; clear BK597; clear BK598; clear HB; have BK596 := n0_; have BK597 := n1_; have BK598 := n2_; have HB := n3_; clear n0_ n1_ n2_ n3_; (try clear hb); (try clear hb2); (try clear hk); (try clear hi)
        refine hK.out _ _ ⟨(blk_cell BK598.out 0).trans rfl, (blk_cell BK597.out 0).trans rfl, (blk_cell BK597.out 1).trans rfl, (blk_cell BK597.out 2).trans rfl, (blk_cell BK597.out 3).trans rfl, (blk_cell BK597.out 4).trans rfl, (blk_cell BK597.out 5).trans rfl, (blk_cell BK597.out 6).trans rfl, (wc_ HB.out hw599_0 :), (wc_ HB.out hw600_0 :)⟩ (fun hHeld => ?_)
        clear hK K; refine norm_ (a' := ?_) ?_ ?_; rotate_left
        ·show Act.put _ (some 40) _ = _
         go_simp
         rfl
        refine pu_ HT_ 31 41 impl_satisfies.K32 ?_; refine pu_ HT_ 32 42 impl_satisfies.K33 ?_
        refine done_ (done_of HT_.out (by kernel_rfl)) ?_
        try go_wp2
        go_meet
        case rel => exact ⟨_, (!t601), sv_, H', ⟨by first | omega | exact Nat.le_refl _⟩, ⟨by (with_reducible repeat (first | refine blk_drewN ?_ _ | refine blk_drew ?_ | refine blk_alloc ?_ _)); exact BK596.out⟩, ⟨by (with_reducible repeat (first | refine blk_drewN ?_ _ | refine blk_drew ?_ | refine blk_alloc ?_ _)); exact BK597.out⟩, ⟨by (with_reducible repeat (first | refine blk_drewN ?_ _ | refine blk_drew ?_ | refine blk_alloc ?_ _)); exact BK598.out⟩, ⟨bi_ HB.out GE596.out GE597.out GE598.out⟩⟩
       ·rw [if_neg c14] at H
        have c14b0 : ((rd l2 (ji11)) == a1_2) = false := beq_eq_false_iff_ne.mpr c14
        have c14b1 : ((rd l2 (ji11)) != a1_2) = true := bne_iff_ne.mpr c14
        have H' := Aside0.mk H
        clear H
        try go_wp2
        have n0_ := Aside0.mk (blk_drew BK596.out)
        have n1_ := Aside0.mk (blk_drew BK597.out)
        have n2_ := Aside0.mk (blk_drew BK598.out)
        have n3_ := Aside0.mk (below_drew1 HB.out)
        clear BK596; clear BK597; clear BK598; clear HB; have BK596 := n0_; have BK597 := n1_; have BK598 := n2_; have HB := n3_; clear n0_ n1_ n2_ n3_
        have p599 : 0 ≤ (0 : Int) := (by omega)
        have q599 : 0 < (l2.length : Int) := da_
        obtain ⟨ad599, e599, hx599_0⟩ := Kd.at_int HR2.out 0 p599 q599; have hw599_0 := hx599_0; (try rw [show ((0 : Int)).toNat = 0 from rfl] at hw599_0); (try rw [show 0 * 1 = 0 from rfl] at hw599_0); (try rw [Addr.add_zero'] at hw599_0); cases e599
        have qi599 : (0 < l2.length) = True := eq_true (by omega)
        (try rw [show ((0 : Int)).toNat = 0 from rfl] at hx599_0); (try rw [Addr.add_zero'] at hx599_0)
        replace hx599_0 := (wc_ HB.out hx599_0 :)
        replace p599 := eq_true p599; replace q599 := eq_true q599
        have p600 : 0 ≤ ((ji11) : Int) := da_
        have q600 : (ji11) < (l2.length : Int) := da_
        obtain ⟨ad600, e600, hx600_0⟩ := Kd.at_int HR2.out (ji11) p600 q600; have hw600_0 := hx600_0; obtain rfl : ad599 = ad600 := (by injection e600)
        replace hx600_0 := (wc_ HB.out hx600_0 :)
        replace p600 := eq_true p600; replace q600 := eq_true q600
        refine start_ (n := 33) (S := fun w' => w'.cell? ⟨gb598, 0, none⟩ = some (.slice (some ad599) l2.length c2) ∧ w'.cell? ⟨gb597, 0, none⟩ = some (.int .i64 a1_0) ∧ w'.cell? ⟨gb597, 1, none⟩ = some (.int .i64 a1_1) ∧ w'.cell? ⟨gb597, 2, none⟩ = some (.int .i64 a1_2) ∧ w'.cell? ⟨gb597, 3, none⟩ = some (.int .i64 a1_3) ∧ w'.cell? ⟨gb597, 4, none⟩ = some (.int .i64 a1_4) ∧ w'.cell? ⟨gb597, 5, none⟩ = some (.slice A1_5 l1_5.length c1_5) ∧ w'.cell? ⟨gb597, 6, none⟩ = some (.int .i64 a1_6) ∧ w'.cell? ad599 = some (.int .i64 (rd l2 0)) ∧ w'.cell? (ad599.add ((ji11)).toNat) = some (.int .i64 (rd l2 (ji11)))) (ds := []) impl_satisfies.K0 (by kernel_rfl) rfl rfl ⟨(blk_cell BK598.out 0).trans rfl, (blk_cell BK597.out 0).trans rfl, (blk_cell BK597.out 1).trans rfl, (blk_cell BK597.out 2).trans rfl, (blk_cell BK597.out 3).trans rfl, (blk_cell BK597.out 4).trans rfl, (blk_cell BK597.out 5).trans rfl, (blk_cell BK597.out 6).trans rfl, (wc_ HB.out hw599_0 :), (wc_ HB.out hw600_0 :)⟩ (fun hHeld => ?_); refine with_tabW impl_satisfies.tab1 impl_satisfies.bits1 (fun HT_ HW_ => ?_)
        generalize w7.drew = w18 at BK596 BK597 BK598 HB hx599_0 hx600_0 hHeld ⊢
        refine pu_ HT_ 2 12 impl_satisfies.K1 ?_; refine tk_ HT_ HW_ hHeld 0 10 impl_satisfies.K2 ?_; refine pu_ HT_ 1 11 impl_satisfies.K3 ?_; refine tk_ HT_ HW_ hHeld 3 13 impl_satisfies.K4 ?_; refine pu_ HT_ 4 14 impl_satisfies.K5 ?_; refine pu_ HT_ 5 15 impl_satisfies.K6 ?_; refine pu_ HT_ 9 19 impl_satisfies.K7 ?_; refine tk_ HT_ HW_ hHeld 6 16 impl_satisfies.K8 ?_; refine pu_ HT_ 7 17 impl_satisfies.K9 ?_; refine tk_ HT_ HW_ hHeld 8 18 impl_satisfies.K10 ?_; refine tk_ HT_ HW_ hHeld 10 20 impl_satisfies.K11 ?_; refine pu_ HT_ 11 21 impl_satisfies.K12 ?_; refine pu_ HT_ 12 22 impl_satisfies.K13 ?_; refine pu_ HT_ 13 23 impl_satisfies.K14 ?_; refine pu_ HT_ 15 25 impl_satisfies.K15 ?_; refine pu_ HT_ 20 30 impl_satisfies.K16 ?_; refine tk_ HT_ HW_ hHeld 14 24 impl_satisfies.K17 ?_; refine tk_ HT_ HW_ hHeld 16 26 impl_satisfies.K18 ?_; refine pu_ HT_ 17 27 impl_satisfies.K19 ?_; refine pu_ HT_ 18 28 impl_satisfies.K20 ?_; refine tk_ HT_ HW_ hHeld 19 29 impl_satisfies.K21 ?_; refine tk_ HT_ HW_ hHeld 21 31 impl_satisfies.K22 ?_; refine pu_ HT_ 22 32 impl_satisfies.K23 ?_; refine pu_ HT_ 23 33 impl_satisfies.K24 ?_; refine pu_ HT_ 24 34 impl_satisfies.K25 ?_; refine un_ HT_ 25 35 impl_satisfies.K34 ?_; refine un_ HT_ 26 36 impl_satisfies.K35 ?_; refine un_ HT_ 27 37 impl_satisfies.K36 ?_; refine un_ HT_ 28 38 impl_satisfies.K29 ?_; refine un_ HT_ 29 39 impl_satisfies.K30 ?_; refine un_ HT_ 30 40 impl_satisfies.K31 ?_; refine un_ HT_ 31 41 impl_satisfies.K32 ?_; refine pu_ HT_ 32 42 impl_satisfies.K33 ?_
        refine done_ (done_of HT_.out (by kernel_rfl)) ?_
        try go_wp2
        go_meet
        case rel => exact ⟨_, (true), sv_, H', ⟨by first | omega | exact Nat.le_refl _⟩, ⟨by (with_reducible repeat (first | refine blk_drewN ?_ _ | refine blk_drew ?_ | refine blk_alloc ?_ _)); exact BK596.out⟩, ⟨by (with_reducible repeat (first | refine blk_drewN ?_ _ | refine blk_drew ?_ | refine blk_alloc ?_ _)); exact BK597.out⟩, ⟨by (with_reducible repeat (first | refine blk_drewN ?_ _ | refine blk_drew ?_ | refine blk_alloc ?_ _)); exact BK598.out⟩, ⟨bi_ HB.out GE596.out GE597.out GE598.out⟩⟩
      ·rw [if_neg c13] at H
       exact absurd H (by simp)
     ·rw [if_neg c12] at H
      exact absurd H (by simp)
    ·rw [if_neg c10] at H
     have c10b0 : ((rd l2 0) == a1_1) = false := beq_eq_false_iff_ne.mpr c10
     have c10b1 : ((rd l2 0) != a1_1) = true := bne_iff_ne.mpr c10
     have H' := Aside0.mk H
     clear H
     try go_wp2
     have n0_ := Aside0.mk (blk_drew BK596.out)
     have n1_ := Aside0.mk (blk_drew BK597.out)
     have n2_ := Aside0.mk (blk_drew BK598.out)
     have n3_ := Aside0.mk (below_drew1 HB.out)
     clear BK596; clear BK597; clear BK598; clear HB; have BK596 := n0_; have BK597 := n1_; have BK598 := n2_; have HB := n3_; clear n0_ n1_ n2_ n3_
     have p599 : 0 ≤ (0 : Int) := (by omega)
     have q599 : 0 < (l2.length : Int) := da_
     obtain ⟨ad599, e599, hx599_0⟩ := Kd.at_int HR2.out 0 p599 q599; have hw599_0 := hx599_0; (try rw [show ((0 : Int)).toNat = 0 from rfl] at hw599_0); (try rw [show 0 * 1 = 0 from rfl] at hw599_0); (try rw [Addr.add_zero'] at hw599_0); cases e599
     have qi599 : (0 < l2.length) = True := eq_true (by omega)
     (try rw [show ((0 : Int)).toNat = 0 from rfl] at hx599_0); (try rw [Addr.add_zero'] at hx599_0)
     replace hx599_0 := (wc_ HB.out hx599_0 :)
     replace p599 := eq_true p599; replace q599 := eq_true q599
     refine start_ (n := 33) (S := fun w' => w'.cell? ⟨gb598, 0, none⟩ = some (.slice (some ad599) l2.length c2) ∧ w'.cell? ⟨gb597, 0, none⟩ = some (.int .i64 a1_0) ∧ w'.cell? ⟨gb597, 1, none⟩ = some (.int .i64 a1_1) ∧ w'.cell? ⟨gb597, 2, none⟩ = some (.int .i64 a1_2) ∧ w'.cell? ⟨gb597, 3, none⟩ = some (.int .i64 a1_3) ∧ w'.cell? ⟨gb597, 4, none⟩ = some (.int .i64 a1_4) ∧ w'.cell? ⟨gb597, 5, none⟩ = some (.slice A1_5 l1_5.length c1_5) ∧ w'.cell? ⟨gb597, 6, none⟩ = some (.int .i64 a1_6) ∧ w'.cell? ad599 = some (.int .i64 (rd l2 0))) (ds := []) impl_satisfies.K0 (by kernel_rfl) rfl rfl ⟨(blk_cell BK598.out 0).trans rfl, (blk_cell BK597.out 0).trans rfl, (blk_cell BK597.out 1).trans rfl, (blk_cell BK597.out 2).trans rfl, (blk_cell BK597.out 3).trans rfl, (blk_cell BK597.out 4).trans rfl, (blk_cell BK597.out 5).trans rfl, (blk_cell BK597.out 6).trans rfl, (wc_ HB.out hw599_0 :)⟩ (fun hHeld => ?_); refine with_tabW impl_satisfies.tab1 impl_satisfies.bits1 (fun HT_ HW_ => ?_)
     generalize w7.drew = w19 at BK596 BK597 BK598 HB hx599_0 hHeld ⊢
     refine pu_ HT_ 2 12 impl_satisfies.K1 ?_; refine tk_ HT_ HW_ hHeld 0 10 impl_satisfies.K2 ?_; refine pu_ HT_ 1 11 impl_satisfies.K3 ?_; refine tk_ HT_ HW_ hHeld 3 13 impl_satisfies.K4 ?_; refine pu_ HT_ 4 14 impl_satisfies.K5 ?_; refine pu_ HT_ 5 15 impl_satisfies.K6 ?_; refine pu_ HT_ 9 19 impl_satisfies.K7 ?_; refine tk_ HT_ HW_ hHeld 6 16 impl_satisfies.K8 ?_; refine pu_ HT_ 7 17 impl_satisfies.K9 ?_; refine tk_ HT_ HW_ hHeld 8 18 impl_satisfies.K10 ?_; refine tk_ HT_ HW_ hHeld 10 20 impl_satisfies.K11 ?_; refine pu_ HT_ 11 21 impl_satisfies.K12 ?_; refine pu_ HT_ 12 22 impl_satisfies.K13 ?_; refine pu_ HT_ 13 23 impl_satisfies.K14 ?_; refine un_ HT_ 14 24 impl_satisfies.K37 ?_; refine un_ HT_ 15 25 impl_satisfies.K38 ?_; refine un_ HT_ 16 26 impl_satisfies.K39 ?_; refine un_ HT_ 17 27 impl_satisfies.K40 ?_; refine un_ HT_ 18 28 impl_satisfies.K41 ?_; refine un_ HT_ 19 29 impl_satisfies.K42 ?_; refine un_ HT_ 20 30 impl_satisfies.K21 ?_; refine un_ HT_ 21 31 impl_satisfies.K22 ?_; refine un_ HT_ 22 32 impl_satisfies.K23 ?_; refine pu_ HT_ 23 33 impl_satisfies.K24 ?_; refine pu_ HT_ 24 34 impl_satisfies.K25 ?_; refine un_ HT_ 25 35 impl_satisfies.K34 ?_; refine un_ HT_ 26 36 impl_satisfies.K35 ?_; refine un_ HT_ 27 37 impl_satisfies.K36 ?_; refine un_ HT_ 28 38 impl_satisfies.K29 ?_; refine un_ HT_ 29 39 impl_satisfies.K30 ?_; refine un_ HT_ 30 40 impl_satisfies.K31 ?_; refine un_ HT_ 31 41 impl_satisfies.K32 ?_; refine pu_ HT_ 32 42 impl_satisfies.K33 ?_
     refine done_ (done_of HT_.out (by kernel_rfl)) ?_
     try go_wp2
     go_meet
     case rel => exact ⟨_, (true), sv_, H', ⟨by first | omega | exact Nat.le_refl _⟩, ⟨by (with_reducible repeat (first | refine blk_drewN ?_ _ | refine blk_drew ?_ | refine blk_alloc ?_ _)); exact BK596.out⟩, ⟨by (with_reducible repeat (first | refine blk_drewN ?_ _ | refine blk_drew ?_ | refine blk_alloc ?_ _)); exact BK597.out⟩, ⟨by (with_reducible repeat (first | refine blk_drewN ?_ _ | refine blk_drew ?_ | refine blk_alloc ?_ _)); exact BK598.out⟩, ⟨bi_ HB.out GE596.out GE597.out GE598.out⟩⟩
   ·rw [if_neg c9] at H
    exact absurd H (by simp)
  ·rw [if_neg c8] at H
   have c8b0 : ((l2.length : Int) == a1_0) = false := beq_eq_false_iff_ne.mpr c8
   have c8b1 : ((l2.length : Int) != a1_0) = true := bne_iff_ne.mpr c8
   (first | rw [c8b0] | (simp only [i64_w, i32_w]; rw [c8b0]) | skip)
   have H' := Aside0.mk H
   clear H
   try go_wp2
   have n0_ := Aside0.mk (blk_drew BK596.out)
   have n1_ := Aside0.mk (blk_drew BK597.out)
   have n2_ := Aside0.mk (blk_drew BK598.out)
   have n3_ := Aside0.mk (below_drew1 HB.out)
   clear BK596
   clear BK597
   clear BK598
   clear HB
   have BK596 := n0_
   have BK597 := n1_
   have BK598 := n2_
   have HB := n3_
   clear n0_ n1_ n2_ n3_
   refine start_ (n := 33) (S := fun w' => w'.cell? ⟨gb598, 0, none⟩ = some (.slice A2 l2.length c2) ∧ w'.cell? ⟨gb597, 0, none⟩ = some (.int .i64 a1_0) ∧ w'.cell? ⟨gb597, 1, none⟩ = some (.int .i64 a1_1) ∧ w'.cell? ⟨gb597, 2, none⟩ = some (.int .i64 a1_2) ∧ w'.cell? ⟨gb597, 3, none⟩ = some (.int .i64 a1_3) ∧ w'.cell? ⟨gb597, 4, none⟩ = some (.int .i64 a1_4) ∧ w'.cell? ⟨gb597, 5, none⟩ = some (.slice A1_5 l1_5.length c1_5) ∧ w'.cell? ⟨gb597, 6, none⟩ = some (.int .i64 a1_6)) (ds := []) impl_satisfies.K0 (by kernel_rfl) rfl rfl ⟨(blk_cell BK598.out 0).trans rfl, (blk_cell BK597.out 0).trans rfl, (blk_cell BK597.out 1).trans rfl, (blk_cell BK597.out 2).trans rfl, (blk_cell BK597.out 3).trans rfl, (blk_cell BK597.out 4).trans rfl, (blk_cell BK597.out 5).trans rfl, (blk_cell BK597.out 6).trans rfl⟩ (fun hHeld => ?_); refine with_tabW impl_satisfies.tab1 impl_satisfies.bits1 (fun HT_ HW_ => ?_)
   generalize w7.drew = w20 at BK596 BK597 BK598 HB hHeld ⊢
   refine pu_ HT_ 2 12 impl_satisfies.K1 ?_; refine tk_ HT_ HW_ hHeld 0 10 impl_satisfies.K2 ?_; refine pu_ HT_ 1 11 impl_satisfies.K3 ?_; refine tk_ HT_ HW_ hHeld 3 13 impl_satisfies.K4 ?_; refine pu_ HT_ 4 14 impl_satisfies.K5 ?_; refine pu_ HT_ 5 15 impl_satisfies.K6 ?_; refine un_ HT_ 6 16 impl_satisfies.K43 ?_; refine un_ HT_ 7 17 impl_satisfies.K44 ?_; refine un_ HT_ 8 18 impl_satisfies.K45 ?_; refine un_ HT_ 9 19 impl_satisfies.K10 ?_; refine un_ HT_ 10 20 impl_satisfies.K11 ?_; refine un_ HT_ 11 21 impl_satisfies.K12 ?_; refine pu_ HT_ 12 22 impl_satisfies.K13 ?_; refine pu_ HT_ 13 23 impl_satisfies.K14 ?_; refine un_ HT_ 14 24 impl_satisfies.K37 ?_; refine un_ HT_ 15 25 impl_satisfies.K38 ?_; refine un_ HT_ 16 26 impl_satisfies.K39 ?_; refine un_ HT_ 17 27 impl_satisfies.K40 ?_; refine un_ HT_ 18 28 impl_satisfies.K41 ?_; refine un_ HT_ 19 29 impl_satisfies.K42 ?_; refine un_ HT_ 20 30 impl_satisfies.K21 ?_; refine un_ HT_ 21 31 impl_satisfies.K22 ?_; refine un_ HT_ 22 32 impl_satisfies.K23 ?_; refine pu_ HT_ 23 33 impl_satisfies.K24 ?_; refine pu_ HT_ 24 34 impl_satisfies.K25 ?_; refine un_ HT_ 25 35 impl_satisfies.K34 ?_; refine un_ HT_ 26 36 impl_satisfies.K35 ?_; refine un_ HT_ 27 37 impl_satisfies.K36 ?_; refine un_ HT_ 28 38 impl_satisfies.K29 ?_; refine un_ HT_ 29 39 impl_satisfies.K30 ?_; refine un_ HT_ 30 40 impl_satisfies.K31 ?_; refine un_ HT_ 31 41 impl_satisfies.K32 ?_; refine pu_ HT_ 32 42 impl_satisfies.K33 ?_
   refine done_ (done_of HT_.out (by kernel_rfl)) ?_
   try go_wp2
   go_meet
   case rel => exact ⟨_, (true), sv_, H', ⟨by first | omega | exact Nat.le_refl _⟩, ⟨by (with_reducible repeat (first | refine blk_drewN ?_ _ | refine blk_drew ?_ | refine blk_alloc ?_ _)); exact BK596.out⟩, ⟨by (with_reducible repeat (first | refine blk_drewN ?_ _ | refine blk_drew ?_ | refine blk_alloc ?_ _)); exact BK597.out⟩, ⟨by (with_reducible repeat (first | refine blk_drewN ?_ _ | refine blk_drew ?_ | refine blk_alloc ?_ _)); exact BK598.out⟩, ⟨bi_ HB.out GE596.out GE597.out GE598.out⟩⟩
 case rest =>
  clear HC4
  (try clear c1); (try clear c2); (try clear p2); (try clear p5); (try clear q5); (try clear hx5); (try clear qi5); (try clear c8); (try clear c8b0); (try clear c8b1); (try clear c9); (try clear c10); (try clear c10b0); (try clear c10b1); (try clear c12); (try clear c13); (try clear hx599_0); (try clear p599); (try clear q599)
  obtain ⟨kq, x42_3, rfl, HA, HJ3, BK596, BK597, BK598, HB⟩ := hcut
  cases kq with
  | zero => exact absurd HA.out (by simp [impl_satisfies.j0])
  | succ kj3 =>
   have H := HA.out
   clear HA
   simp only [impl_satisfies.j0] at H
   by_cases c21 : x42_3 = true
   ·subst c21
    have H1 : (some false) = some r := by rw [if_pos rfl] at H; exact H
    clear H; have H := H1; clear H1
    obtain rfl := Option.some.inj H
    go_wp2
    go_ret
    exact ⟨by first | rfl | (simp [errW_none, errW_some] <;> rfl) | (simp [*, errW_none, errW_some] <;> rfl), bi_ HB.out GE596.out GE597.out GE598.out⟩
   ·replace c21 := Bool.eq_false_iff.mpr c21
    subst c21
    have H1 : ((impl_Raga_firstWrong.f kj3 a0_0 l0_1 l0_2 a0_3 a0_4 l0_5 l2).bind fun bt602 => (if bt602.2 = 0 then ((impl_satisfies_any.f kj3 l1_5 l2).bind fun t604 => (if t604 = true then (some false) else ((impl_mostRepeats.f kj3 l2).bind fun t605 => (some (decide (t605 ≤ a1_6)))))) else (some false))) = some r := by rw [if_neg (show ¬ (false = true) by decide)] at H; exact H
    clear H; have H := H1; clear H1
    replace H := Option.bind_eq_some_iff.mp H
    obtain ⟨⟨t602, t603⟩, A220, H⟩ := H
    replace H : (if t603 = 0 then ((impl_satisfies_any.f kj3 l1_5 l2).bind fun t604 => (if t604 = true then (some false) else ((impl_mostRepeats.f kj3 l2).bind fun t605 => (some (decide (t605 ≤ a1_6)))))) else (some false)) = some r := H
    have A22 := Aside0.mk A220; clear A220
    by_cases c23 : t603 = 0
    ·rw [if_pos c23] at H
     have c23b0 : (t603 == 0) = true := beq_iff_eq.mpr c23
     have c23b1 : (t603 != 0) = false := bne_eq_false_iff_eq.mpr c23
     clear c23
     replace H := Option.bind_eq_some_iff.mp H
     obtain ⟨t604, A240, H⟩ := H
     replace H : (if t604 = true then (some false) else ((impl_mostRepeats.f kj3 l2).bind fun t605 => (some (decide (t605 ≤ a1_6))))) = some r := H
     have A24 := Aside0.mk A240; clear A240
     by_cases c25 : t604 = true
     ·subst c25
      have H1 : (some false) = some r := by rw [if_pos rfl] at H; exact H
      clear H; have H := H1; clear H1
      obtain rfl := Option.some.inj H
      have hnb26 := NB596_597.out; have hnc26 := NB597_596.out; have hnb27 := NB596_598.out; have hnc27 := NB598_596.out
      have hcz28_0 : wc.cell? ⟨gb596, 0, none⟩ = some (.string a0_0) := (blk_cell BK596.out 0).trans rfl
      have hcz28_1 : wc.cell? ⟨gb596, 1, none⟩ = some (.slice A0_1 l0_1.length c0_1) := (blk_cell BK596.out 1).trans rfl
      have hcz28_2 : wc.cell? ⟨gb596, 2, none⟩ = some (.slice A0_2 l0_2.length c0_2) := (blk_cell BK596.out 2).trans rfl
      have hcz28_3 : wc.cell? ⟨gb596, 3, none⟩ = some (.int .i64 a0_3) := (blk_cell BK596.out 3).trans rfl
      have hcz28_4 : wc.cell? ⟨gb596, 4, none⟩ = some (.int .i64 a0_4) := (blk_cell BK596.out 4).trans rfl
      have hcz28_5 : wc.cell? ⟨gb596, 5, none⟩ = some (.slice A0_5 l0_5.length c0_5) := (blk_cell BK596.out 5).trans rfl
      have hfz28_0 := blk_frozen BK596.out 0; have hfz28_1 := blk_frozen BK596.out 1; have hfz28_2 := blk_frozen BK596.out 2; have hfz28_3 := blk_frozen BK596.out 3; have hfz28_4 := blk_frozen BK596.out 4; have hfz28_5 := blk_frozen BK596.out 5; have hnb29 := NB598_597.out; have hnc29 := NB597_598.out
      have hcz30_0 : wc.cell? ⟨gb598, 0, none⟩ = some (.slice A2 l2.length c2) := (blk_cell BK598.out 0).trans rfl
      have hfz30_0 := blk_frozen BK598.out 0
      try go_wp2_with (first | ((with_reducible refine gate_callee (f := 109) rfl ?_); refine goesL_ (some 46) rfl rfl Try.func109 (by kernel_rfl) rfl #[.agg #[.string a0_0, .slice A0_1 l0_1.length c0_1, .slice A0_2 l0_2.length c0_2, .int .i64 a0_3, .int .i64 a0_4, .slice A0_5 l0_5.length c0_5], .slice A2 l2.length c2] rfl av_ ?_; (with_reducible refine (impl_Raga_firstWrong.calls kj3 a0_0 _ _ l0_1 _ _ l0_2 a0_3 a0_4 _ _ l0_5 _ _ l2 t602 t603 _ ?side1 ?side2 ?side3 ?side4 ?side5 ?side6 ?side7 ?side8 A22.out).mono ?_); (case side1 => exact (Kd.C_below HR0_1.out HB.out)); (case side2 => exact HC0_1.out); (case side3 => exact (Kd.C_below HR0_2.out HB.out)); (case side4 => exact HC0_2.out); (case side5 => exact (Kd.C_below HR0_5.out HB.out)); (case side6 => exact HC0_5.out); (case side7 => exact (Kd.C_below HR2.out HB.out)); (case side8 => exact HC2.out); rintro e w31 ⟨rfl, hb⟩; refine ⟨_, rfl, ?_⟩; have n0_ := Aside0.mk (blk_below (g := gb596) (o := .cells #[.string a0_0, .slice A0_1 l0_1.length c0_1, .slice A0_2 l0_2.length c0_2, .int .i64 a0_3, .int .i64 a0_4, .slice A0_5 l0_5.length c0_5] 29 (0, 0)) (by repeat first | exact BK596.out | refine blk_drewN ?_ _ | refine blk_drew ?_ | refine blk_alloc ?_ _) hb); have n1_ := Aside0.mk (blk_below (g := gb597) (o := .cells #[.int .i64 a1_0, .int .i64 a1_1, .int .i64 a1_2, .int .i64 a1_3, .int .i64 a1_4, .slice A1_5 l1_5.length c1_5, .int .i64 a1_6] 62 (0, 0)) (by repeat first | exact BK597.out | refine blk_drewN ?_ _ | refine blk_drew ?_ | refine blk_alloc ?_ _) hb); have n2_ := Aside0.mk (blk_below (g := gb598) (o := .cells #[.slice A2 l2.length c2] 22 (0, 0)) (by repeat first | exact BK598.out | refine blk_drewN ?_ _ | refine blk_drew ?_ | refine blk_alloc ?_ _) hb); have n3_ := Aside0.mk (below_step (bi_ HB.out GE596.out GE597.out GE598.out) hb); clear BK596; clear BK597; clear BK598; clear HB; have BK596 := n0_; have BK597 := n1_; have BK598 := n2_; have HB := n3_; clear n0_ n1_ n2_ n3_; (try clear hb); (try clear hb2); (try clear hk); (try clear hi)))
      have n0_ := Aside0.mk (blk_drew BK596.out)
      have n1_ := Aside0.mk (blk_drew BK597.out)
      have n2_ := Aside0.mk (blk_drew BK598.out)
      have n3_ := Aside0.mk (below_drew1 HB.out)
      clear BK596; clear BK597; clear BK598; clear HB; have BK596 := n0_; have BK597 := n1_; have BK598 := n2_; have HB := n3_; clear n0_ n1_ n2_ n3_
      refine start_ (n := 13) (S := fun w' => w'.cell? ⟨gb597, 0, none⟩ = some (.int .i64 a1_0) ∧ w'.cell? ⟨gb597, 1, none⟩ = some (.int .i64 a1_1) ∧ w'.cell? ⟨gb597, 2, none⟩ = some (.int .i64 a1_2) ∧ w'.cell? ⟨gb597, 3, none⟩ = some (.int .i64 a1_3) ∧ w'.cell? ⟨gb597, 4, none⟩ = some (.int .i64 a1_4) ∧ w'.cell? ⟨gb597, 5, none⟩ = some (.slice A1_5 l1_5.length c1_5) ∧ w'.cell? ⟨gb597, 6, none⟩ = some (.int .i64 a1_6)) (ds := []) impl_satisfies.K46 (by kernel_rfl) rfl rfl ⟨(blk_cell BK597.out 0).trans rfl, (blk_cell BK597.out 1).trans rfl, (blk_cell BK597.out 2).trans rfl, (blk_cell BK597.out 3).trans rfl, (blk_cell BK597.out 4).trans rfl, (blk_cell BK597.out 5).trans rfl, (blk_cell BK597.out 6).trans rfl⟩ (fun hHeld => ?_); refine with_tabW impl_satisfies.tab7 impl_satisfies.bits7 (fun HT_ HW_ => ?_)
      generalize w31.drew = w32 at BK596 BK597 BK598 HB hHeld ⊢
      refine pu_ HT_ 0 52 impl_satisfies.K47 ?_; refine pu_ HT_ 2 54 impl_satisfies.K48 ?_; refine tk_ HT_ HW_ hHeld 1 53 impl_satisfies.K49 ?_
      refine one_ (i := 3) (N := some 55) impl_satisfies.K50 rfl rfl (one_of HT_.out (by kernel_rfl)) (by decide) (fun K hK => ?_)
      refine goes_ Try.func133 (by kernel_rfl) rfl #[.slice A1_5 l1_5.length c1_5, .func (.func 131) #[] #[.pointer (some ⟨gb598, 0, none⟩)]] (by rfl) rfl rfl av_ ?_
      with_reducible refine (impl_satisfies_any.calls kj3 _ _ l1_5 gb598 A2 c2 l2 true _ ?side1 ?side2 ?side3 ?side4 ?side5 A24.out).mono ?_
      (case side1 => exact (Kd.C_below HR1_5.out HB.out))
      (case side2 => exact HC1_5.out)
      (case side3 => exact bk_ BK598.out)
      (case side4 => exact (Kd.C_below HR2.out HB.out))
      (case side5 => exact HC2.out)
      rintro e w33 ⟨rfl, hb⟩
      refine ⟨_, rfl, ?_⟩
      have n0_ := Aside0.mk (blk_below (g := gb596) (o := .cells #[.string a0_0, .slice A0_1 l0_1.length c0_1, .slice A0_2 l0_2.length c0_2, .int .i64 a0_3, .int .i64 a0_4, .slice A0_5 l0_5.length c0_5] 29 (0, 0)) (by repeat first | exact BK596.out | refine blk_drewN ?_ _ | refine blk_drew ?_ | refine blk_alloc ?_ _) hb)
      have n1_ := Aside0.mk (blk_below (g := gb597) (o := .cells #[.int .i64 a1_0, .int .i64 a1_1, .int .i64 a1_2, .int .i64 a1_3, .int .i64 a1_4, .slice A1_5 l1_5.length c1_5, .int .i64 a1_6] 62 (0, 0)) (by repeat first | exact BK597.out | refine blk_drewN ?_ _ | refine blk_drew ?_ | refine blk_alloc ?_ _) hb)
      have n2_ := Aside0.mk (blk_below (g := gb598) (o := .cells #[.slice A2 l2.length c2] 22 (0, 0)) (by repeat first | exact BK598.out | refine blk_drewN ?_ _ | refine blk_drew ?_ | refine blk_alloc ?_ _) hb)
      have n3_ := Aside0.mk (below_step (bi_ HB.out GE596.out GE597.out GE598.out) hb)
      clear BK596; clear BK597; clear BK598; clear HB; have BK596 := n0_; have BK597 := n1_; have BK598 := n2_; have HB := n3_; clear n0_ n1_ n2_ n3_; (try clear hb); (try clear hb2); (try clear hk); (try clear hi)
      refine hK.out _ _ ⟨(blk_cell BK597.out 0).trans rfl, (blk_cell BK597.out 1).trans rfl, (blk_cell BK597.out 2).trans rfl, (blk_cell BK597.out 3).trans rfl, (blk_cell BK597.out 4).trans rfl, (blk_cell BK597.out 5).trans rfl, (blk_cell BK597.out 6).trans rfl⟩ (fun hHeld => ?_)
      clear hK K; refine norm_ (a' := ?_) ?_ ?_; rotate_left
      ·show Act.put _ (some 55) _ = _
       go_simp
       rfl
      refine pu_ HT_ 4 56 impl_satisfies.K51 ?_; refine pu_ HT_ 5 57 impl_satisfies.K52 ?_; refine un_ HT_ 6 58 impl_satisfies.K53 ?_; refine un_ HT_ 7 59 impl_satisfies.K54 ?_; refine un_ HT_ 8 60 impl_satisfies.K55 ?_; refine un_ HT_ 9 61 impl_satisfies.K56 ?_; refine un_ HT_ 10 62 impl_satisfies.K57 ?_; refine pu_ HT_ 11 63 impl_satisfies.K58 ?_; refine pu_ HT_ 12 6 impl_satisfies.K59 ?_
      refine done_ (done_of HT_.out (by kernel_rfl)) ?_
      try go_wp2
      go_ret
      exact ⟨by first | rfl | (simp [errW_none, errW_some] <;> rfl) | (simp [*, errW_none, errW_some] <;> rfl), bi_ HB.out GE596.out GE597.out GE598.out⟩
     ·replace c25 := Bool.eq_false_iff.mpr c25
      subst c25
      have H1 : ((impl_mostRepeats.f kj3 l2).bind fun t605 => (some (decide (t605 ≤ a1_6)))) = some r := by rw [if_neg (show ¬ (false = true) by decide)] at H; exact H
      clear H; have H := H1; clear H1
      replace H := Option.bind_eq_some_iff.mp H
      obtain ⟨t605, A340, H⟩ := H
      replace H : (some (decide (t605 ≤ a1_6))) = some r := H
      have A34 := Aside0.mk A340; clear A340
      obtain rfl := Option.some.inj H
      have hnb35 := NB596_597.out; have hnc35 := NB597_596.out; have hnb36 := NB596_598.out; have hnc36 := NB598_596.out
      have hcz37_0 : wc.cell? ⟨gb596, 0, none⟩ = some (.string a0_0) := (blk_cell BK596.out 0).trans rfl
      have hcz37_1 : wc.cell? ⟨gb596, 1, none⟩ = some (.slice A0_1 l0_1.length c0_1) := (blk_cell BK596.out 1).trans rfl
      have hcz37_2 : wc.cell? ⟨gb596, 2, none⟩ = some (.slice A0_2 l0_2.length c0_2) := (blk_cell BK596.out 2).trans rfl
      have hcz37_3 : wc.cell? ⟨gb596, 3, none⟩ = some (.int .i64 a0_3) := (blk_cell BK596.out 3).trans rfl
      have hcz37_4 : wc.cell? ⟨gb596, 4, none⟩ = some (.int .i64 a0_4) := (blk_cell BK596.out 4).trans rfl
      have hcz37_5 : wc.cell? ⟨gb596, 5, none⟩ = some (.slice A0_5 l0_5.length c0_5) := (blk_cell BK596.out 5).trans rfl
      have hfz37_0 := blk_frozen BK596.out 0; have hfz37_1 := blk_frozen BK596.out 1; have hfz37_2 := blk_frozen BK596.out 2; have hfz37_3 := blk_frozen BK596.out 3; have hfz37_4 := blk_frozen BK596.out 4; have hfz37_5 := blk_frozen BK596.out 5; have hnb38 := NB598_597.out; have hnc38 := NB597_598.out
      have hcz39_0 : wc.cell? ⟨gb598, 0, none⟩ = some (.slice A2 l2.length c2) := (blk_cell BK598.out 0).trans rfl
      have hfz39_0 := blk_frozen BK598.out 0
      try go_wp2_with (first | ((with_reducible refine gate_callee (f := 109) rfl ?_); refine goesL_ (some 46) rfl rfl Try.func109 (by kernel_rfl) rfl #[.agg #[.string a0_0, .slice A0_1 l0_1.length c0_1, .slice A0_2 l0_2.length c0_2, .int .i64 a0_3, .int .i64 a0_4, .slice A0_5 l0_5.length c0_5], .slice A2 l2.length c2] rfl av_ ?_; (with_reducible refine (impl_Raga_firstWrong.calls kj3 a0_0 _ _ l0_1 _ _ l0_2 a0_3 a0_4 _ _ l0_5 _ _ l2 t602 t603 _ ?side1 ?side2 ?side3 ?side4 ?side5 ?side6 ?side7 ?side8 A22.out).mono ?_); (case side1 => exact (Kd.C_below HR0_1.out HB.out)); (case side2 => exact HC0_1.out); (case side3 => exact (Kd.C_below HR0_2.out HB.out)); (case side4 => exact HC0_2.out); (case side5 => exact (Kd.C_below HR0_5.out HB.out)); (case side6 => exact HC0_5.out); (case side7 => exact (Kd.C_below HR2.out HB.out)); (case side8 => exact HC2.out); rintro e w40 ⟨rfl, hb⟩; refine ⟨_, rfl, ?_⟩; have n0_ := Aside0.mk (blk_below (g := gb596) (o := .cells #[.string a0_0, .slice A0_1 l0_1.length c0_1, .slice A0_2 l0_2.length c0_2, .int .i64 a0_3, .int .i64 a0_4, .slice A0_5 l0_5.length c0_5] 29 (0, 0)) (by repeat first | exact BK596.out | refine blk_drewN ?_ _ | refine blk_drew ?_ | refine blk_alloc ?_ _) hb); have n1_ := Aside0.mk (blk_below (g := gb597) (o := .cells #[.int .i64 a1_0, .int .i64 a1_1, .int .i64 a1_2, .int .i64 a1_3, .int .i64 a1_4, .slice A1_5 l1_5.length c1_5, .int .i64 a1_6] 62 (0, 0)) (by repeat first | exact BK597.out | refine blk_drewN ?_ _ | refine blk_drew ?_ | refine blk_alloc ?_ _) hb); have n2_ := Aside0.mk (blk_below (g := gb598) (o := .cells #[.slice A2 l2.length c2] 22 (0, 0)) (by repeat first | exact BK598.out | refine blk_drewN ?_ _ | refine blk_drew ?_ | refine blk_alloc ?_ _) hb); have n3_ := Aside0.mk (below_step (bi_ HB.out GE596.out GE597.out GE598.out) hb); clear BK596; clear BK597; clear BK598; clear HB; have BK596 := n0_; have BK597 := n1_; have BK598 := n2_; have HB := n3_; clear n0_ n1_ n2_ n3_; (try clear hb); (try clear hb2); (try clear hk); (try clear hi)))
      have n0_ := Aside0.mk (blk_drew BK596.out)
      have n1_ := Aside0.mk (blk_drew BK597.out)
      have n2_ := Aside0.mk (blk_drew BK598.out)
      have n3_ := Aside0.mk (below_drew1 HB.out)
      clear BK596; clear BK597; clear BK598; clear HB; have BK596 := n0_; have BK597 := n1_; have BK598 := n2_; have HB := n3_; clear n0_ n1_ n2_ n3_
      refine start_ (n := 13) (S := fun w' => w'.cell? ⟨gb597, 0, none⟩ = some (.int .i64 a1_0) ∧ w'.cell? ⟨gb597, 1, none⟩ = some (.int .i64 a1_1) ∧ w'.cell? ⟨gb597, 2, none⟩ = some (.int .i64 a1_2) ∧ w'.cell? ⟨gb597, 3, none⟩ = some (.int .i64 a1_3) ∧ w'.cell? ⟨gb597, 4, none⟩ = some (.int .i64 a1_4) ∧ w'.cell? ⟨gb597, 5, none⟩ = some (.slice A1_5 l1_5.length c1_5) ∧ w'.cell? ⟨gb597, 6, none⟩ = some (.int .i64 a1_6) ∧ w'.cell? ⟨gb598, 0, none⟩ = some (.slice A2 l2.length c2)) (ds := []) impl_satisfies.K46 (by kernel_rfl) rfl rfl ⟨(blk_cell BK597.out 0).trans rfl, (blk_cell BK597.out 1).trans rfl, (blk_cell BK597.out 2).trans rfl, (blk_cell BK597.out 3).trans rfl, (blk_cell BK597.out 4).trans rfl, (blk_cell BK597.out 5).trans rfl, (blk_cell BK597.out 6).trans rfl, (blk_cell BK598.out 0).trans rfl⟩ (fun hHeld => ?_); refine with_tabW impl_satisfies.tab7 impl_satisfies.bits7 (fun HT_ HW_ => ?_)
      generalize w40.drew = w41 at BK596 BK597 BK598 HB hHeld ⊢
      refine pu_ HT_ 0 52 impl_satisfies.K47 ?_; refine pu_ HT_ 2 54 impl_satisfies.K48 ?_; refine tk_ HT_ HW_ hHeld 1 53 impl_satisfies.K49 ?_
      refine one_ (i := 3) (N := some 55) impl_satisfies.K50 rfl rfl (one_of HT_.out (by kernel_rfl)) (by decide) (fun K hK => ?_)
      refine goes_ Try.func133 (by kernel_rfl) rfl #[.slice A1_5 l1_5.length c1_5, .func (.func 131) #[] #[.pointer (some ⟨gb598, 0, none⟩)]] (by rfl) rfl rfl av_ ?_
      with_reducible refine (impl_satisfies_any.calls kj3 _ _ l1_5 gb598 A2 c2 l2 false _ ?side1 ?side2 ?side3 ?side4 ?side5 A24.out).mono ?_
      (case side1 => exact (Kd.C_below HR1_5.out HB.out))
      (case side2 => exact HC1_5.out)
      (case side3 => exact bk_ BK598.out)
      (case side4 => exact (Kd.C_below HR2.out HB.out))
      (case side5 => exact HC2.out)
      rintro e w42 ⟨rfl, hb⟩
      refine ⟨_, rfl, ?_⟩
      have n0_ := Aside0.mk (blk_below (g := gb596) (o := .cells #[.string a0_0, .slice A0_1 l0_1.length c0_1, .slice A0_2 l0_2.length c0_2, .int .i64 a0_3, .int .i64 a0_4, .slice A0_5 l0_5.length c0_5] 29 (0, 0)) (by repeat first | exact BK596.out | refine blk_drewN ?_ _ | refine blk_drew ?_ | refine blk_alloc ?_ _) hb)
      have n1_ := Aside0.mk (blk_below (g := gb597) (o := .cells #[.int .i64 a1_0, .int .i64 a1_1, .int .i64 a1_2, .int .i64 a1_3, .int .i64 a1_4, .slice A1_5 l1_5.length c1_5, .int .i64 a1_6] 62 (0, 0)) (by repeat first | exact BK597.out | refine blk_drewN ?_ _ | refine blk_drew ?_ | refine blk_alloc ?_ _) hb)
      have n2_ := Aside0.mk (blk_below (g := gb598) (o := .cells #[.slice A2 l2.length c2] 22 (0, 0)) (by repeat first | exact BK598.out | refine blk_drewN ?_ _ | refine blk_drew ?_ | refine blk_alloc ?_ _) hb)
      have n3_ := Aside0.mk (below_step (bi_ HB.out GE596.out GE597.out GE598.out) hb)
      clear BK596; clear BK597; clear BK598; clear HB; have BK596 := n0_; have BK597 := n1_; have BK598 := n2_; have HB := n3_; clear n0_ n1_ n2_ n3_; (try clear hb); (try clear hb2); (try clear hk); (try clear hi)
      refine hK.out _ _ ⟨(blk_cell BK597.out 0).trans rfl, (blk_cell BK597.out 1).trans rfl, (blk_cell BK597.out 2).trans rfl, (blk_cell BK597.out 3).trans rfl, (blk_cell BK597.out 4).trans rfl, (blk_cell BK597.out 5).trans rfl, (blk_cell BK597.out 6).trans rfl, (blk_cell BK598.out 0).trans rfl⟩ (fun hHeld => ?_)
      clear hK K; refine norm_ (a' := ?_) ?_ ?_; rotate_left
      ·show Act.put _ (some 55) _ = _
       go_simp
       rfl
      refine pu_ HT_ 4 56 impl_satisfies.K51 ?_; refine pu_ HT_ 5 57 impl_satisfies.K52 ?_; refine pu_ HT_ 8 60 impl_satisfies.K60 ?_; refine tk_ HT_ HW_ hHeld 6 58 impl_satisfies.K61 ?_; refine tk_ HT_ HW_ hHeld 9 61 impl_satisfies.K62 ?_
      refine one_ (i := 7) (N := some 59) impl_satisfies.K56 rfl rfl (one_of HT_.out (by kernel_rfl)) (by decide) (fun K hK => ?_)
      refine goes_ Try.func134 (by kernel_rfl) rfl #[.slice A2 l2.length c2] (by rfl) rfl rfl av_ ?_
      with_reducible refine (impl_mostRepeats.calls kj3 _ _ l2 t605 _ ?side1 ?side2 A34.out).mono ?_
      (case side1 => exact (Kd.C_below HR2.out HB.out))
      (case side2 => exact HC2.out)
      rintro e w43 ⟨rfl, hb⟩
      refine ⟨_, rfl, ?_⟩
      have n0_ := Aside0.mk (blk_below (g := gb596) (o := .cells #[.string a0_0, .slice A0_1 l0_1.length c0_1, .slice A0_2 l0_2.length c0_2, .int .i64 a0_3, .int .i64 a0_4, .slice A0_5 l0_5.length c0_5] 29 (0, 0)) (by repeat first | exact BK596.out | refine blk_drewN ?_ _ | refine blk_drew ?_ | refine blk_alloc ?_ _) hb)
      have n1_ := Aside0.mk (blk_below (g := gb597) (o := .cells #[.int .i64 a1_0, .int .i64 a1_1, .int .i64 a1_2, .int .i64 a1_3, .int .i64 a1_4, .slice A1_5 l1_5.length c1_5, .int .i64 a1_6] 62 (0, 0)) (by repeat first | exact BK597.out | refine blk_drewN ?_ _ | refine blk_drew ?_ | refine blk_alloc ?_ _) hb)
      have n2_ := Aside0.mk (blk_below (g := gb598) (o := .cells #[.slice A2 l2.length c2] 22 (0, 0)) (by repeat first | exact BK598.out | refine blk_drewN ?_ _ | refine blk_drew ?_ | refine blk_alloc ?_ _) hb)
      have n3_ := Aside0.mk (below_step (bi_ HB.out GE596.out GE597.out GE598.out) hb)
      clear BK596; clear BK597; clear BK598; clear HB; have BK596 := n0_; have BK597 := n1_; have BK598 := n2_; have HB := n3_; clear n0_ n1_ n2_ n3_; (try clear hb); (try clear hb2); (try clear hk); (try clear hi)
      refine hK.out _ _ ⟨(blk_cell BK597.out 0).trans rfl, (blk_cell BK597.out 1).trans rfl, (blk_cell BK597.out 2).trans rfl, (blk_cell BK597.out 3).trans rfl, (blk_cell BK597.out 4).trans rfl, (blk_cell BK597.out 5).trans rfl, (blk_cell BK597.out 6).trans rfl, (blk_cell BK598.out 0).trans rfl⟩ (fun hHeld => ?_)
      clear hK K; refine norm_ (a' := ?_) ?_ ?_; rotate_left
      ·show Act.put _ (some 59) _ = _
       go_simp
       rfl
      refine pu_ HT_ 10 62 impl_satisfies.K57 ?_; refine pu_ HT_ 11 63 impl_satisfies.K58 ?_; refine pu_ HT_ 12 6 impl_satisfies.K59 ?_
      refine done_ (done_of HT_.out (by kernel_rfl)) ?_
      try go_wp2
      go_ret
      exact ⟨by first | rfl | (simp [errW_none, errW_some] <;> rfl) | (simp [*, errW_none, errW_some] <;> rfl), bi_ HB.out GE596.out GE597.out GE598.out⟩
    ·rw [if_neg c23] at H
     have c23b0 : (t603 == 0) = false := beq_eq_false_iff_ne.mpr c23
     have c23b1 : (t603 != 0) = true := bne_iff_ne.mpr c23
     obtain rfl := Option.some.inj H
     have hnb44 := NB596_597.out; have hnc44 := NB597_596.out; have hnb45 := NB596_598.out; have hnc45 := NB598_596.out
     have hcz46_0 : wc.cell? ⟨gb596, 0, none⟩ = some (.string a0_0) := (blk_cell BK596.out 0).trans rfl
     have hcz46_1 : wc.cell? ⟨gb596, 1, none⟩ = some (.slice A0_1 l0_1.length c0_1) := (blk_cell BK596.out 1).trans rfl
     have hcz46_2 : wc.cell? ⟨gb596, 2, none⟩ = some (.slice A0_2 l0_2.length c0_2) := (blk_cell BK596.out 2).trans rfl
     have hcz46_3 : wc.cell? ⟨gb596, 3, none⟩ = some (.int .i64 a0_3) := (blk_cell BK596.out 3).trans rfl
     have hcz46_4 : wc.cell? ⟨gb596, 4, none⟩ = some (.int .i64 a0_4) := (blk_cell BK596.out 4).trans rfl
     have hcz46_5 : wc.cell? ⟨gb596, 5, none⟩ = some (.slice A0_5 l0_5.length c0_5) := (blk_cell BK596.out 5).trans rfl
     have hfz46_0 := blk_frozen BK596.out 0; have hfz46_1 := blk_frozen BK596.out 1; have hfz46_2 := blk_frozen BK596.out 2; have hfz46_3 := blk_frozen BK596.out 3; have hfz46_4 := blk_frozen BK596.out 4; have hfz46_5 := blk_frozen BK596.out 5; have hnb47 := NB598_597.out; have hnc47 := NB597_598.out
     have hcz48_0 : wc.cell? ⟨gb598, 0, none⟩ = some (.slice A2 l2.length c2) := (blk_cell BK598.out 0).trans rfl
     have hfz48_0 := blk_frozen BK598.out 0
     go_wp2_with (first | ((with_reducible refine gate_callee (f := 109) rfl ?_); refine goesL_ (some 46) rfl rfl Try.func109 (by kernel_rfl) rfl #[.agg #[.string a0_0, .slice A0_1 l0_1.length c0_1, .slice A0_2 l0_2.length c0_2, .int .i64 a0_3, .int .i64 a0_4, .slice A0_5 l0_5.length c0_5], .slice A2 l2.length c2] rfl av_ ?_; (with_reducible refine (impl_Raga_firstWrong.calls kj3 a0_0 _ _ l0_1 _ _ l0_2 a0_3 a0_4 _ _ l0_5 _ _ l2 t602 t603 _ ?side1 ?side2 ?side3 ?side4 ?side5 ?side6 ?side7 ?side8 A22.out).mono ?_); (case side1 => exact (Kd.C_below HR0_1.out HB.out)); (case side2 => exact HC0_1.out); (case side3 => exact (Kd.C_below HR0_2.out HB.out)); (case side4 => exact HC0_2.out); (case side5 => exact (Kd.C_below HR0_5.out HB.out)); (case side6 => exact HC0_5.out); (case side7 => exact (Kd.C_below HR2.out HB.out)); (case side8 => exact HC2.out); rintro e w49 ⟨rfl, hb⟩; refine ⟨_, rfl, ?_⟩; have n0_ := Aside0.mk (blk_below (g := gb596) (o := .cells #[.string a0_0, .slice A0_1 l0_1.length c0_1, .slice A0_2 l0_2.length c0_2, .int .i64 a0_3, .int .i64 a0_4, .slice A0_5 l0_5.length c0_5] 29 (0, 0)) (by repeat first | exact BK596.out | refine blk_drewN ?_ _ | refine blk_drew ?_ | refine blk_alloc ?_ _) hb); have n1_ := Aside0.mk (blk_below (g := gb597) (o := .cells #[.int .i64 a1_0, .int .i64 a1_1, .int .i64 a1_2, .int .i64 a1_3, .int .i64 a1_4, .slice A1_5 l1_5.length c1_5, .int .i64 a1_6] 62 (0, 0)) (by repeat first | exact BK597.out | refine blk_drewN ?_ _ | refine blk_drew ?_ | refine blk_alloc ?_ _) hb); have n2_ := Aside0.mk (blk_below (g := gb598) (o := .cells #[.slice A2 l2.length c2] 22 (0, 0)) (by repeat first | exact BK598.out | refine blk_drewN ?_ _ | refine blk_drew ?_ | refine blk_alloc ?_ _) hb); have n3_ := Aside0.mk (below_step (bi_ HB.out GE596.out GE597.out GE598.out) hb); clear BK596; clear BK597; clear BK598; clear HB; have BK596 := n0_; have BK597 := n1_; have BK598 := n2_; have HB := n3_; clear n0_ n1_ n2_ n3_; (try clear hb); (try clear hb2); (try clear hk); (try clear hi)))
     go_ret
     exact ⟨by first | rfl | (simp [errW_none, errW_some] <;> rfl) | (simp [*, errW_none, errW_some] <;> rfl), bi_ HB.out GE596.out GE597.out GE598.out⟩
/-! ### impl_pitchOk: function 88 -/
def impl_pitchOk.f (a0 : Int) : Option (Bool) := (impl_within.f a0 (-12) 23).bind fun t270 => (some t270)
set_option maxHeartbeats 8000000 in
set_option maxRecDepth 100000 in
theorem impl_pitchOk.calls (a0 : Int) (r : Bool) (w : World) (h : impl_pitchOk.f a0 = some r) :
  Calls Try.prog 88 #[.int .i64 a0] w fun e w' => e = .returned (.bool r) ∧ Drawn0 w w' := by
 have H : ((impl_within.f a0 (-12) 23).bind fun t270 => (some t270)) = some r := h
 clear h
 replace H := Option.bind_eq_some_iff.mp H
 obtain ⟨t270, A20, H⟩ := H
 replace H : (some t270) = some r := H
 have A2 := Aside0.mk A20
 clear A20
 obtain rfl := Option.some.inj H
 go_enter Try.func88, Try.ntmps88
 go_wp2_with (first | ((with_reducible refine gate_callee (f := 65) rfl ?_); refine goesL_ (some 4) rfl rfl Try.func65 (by kernel_rfl) rfl #[.int .i64 a0, .int .i64 (-12), .int .i64 23] rfl av_ ?_; (with_reducible refine (impl_within.calls a0 (-12) 23 t270 _ A2.out).mono ?_); rintro e w' ⟨rfl, ⟨nd, rfl⟩⟩; refine ⟨_, rfl, ?_⟩))
 go_ret
 exact ⟨sv_, dr_⟩
/-! ### impl_rangeOk: function 64 -/
def impl_rangeOk.f (a0 : Int) (a1 : Int) : Option (Bool) := (impl_pitchOk.f a0).bind fun t271 => (if t271 = true then ((impl_within.f a1 a0 23).bind fun t272 => (some t272)) else (some false))
set_option maxHeartbeats 8000000 in
set_option maxRecDepth 100000 in
theorem impl_rangeOk.calls (a0 : Int) (a1 : Int) (r : Bool) (w : World) (h : impl_rangeOk.f a0 a1 = some r) :
  Calls Try.prog 64 #[.int .i64 a0, .int .i64 a1] w fun e w' => e = .returned (.bool r) ∧ Drawn0 w w' := by
 have H : ((impl_pitchOk.f a0).bind fun t271 => (if t271 = true then ((impl_within.f a1 a0 23).bind fun t272 => (some t272)) else (some false))) = some r := h
 clear h
 replace H := Option.bind_eq_some_iff.mp H
 obtain ⟨t271, A30, H⟩ := H
 replace H : (if t271 = true then ((impl_within.f a1 a0 23).bind fun t272 => (some t272)) else (some false)) = some r := H
 have A3 := Aside0.mk A30
 clear A30
 by_cases c4 : t271 = true
 ·subst c4
  have H1 : ((impl_within.f a1 a0 23).bind fun t272 => (some t272)) = some r := by rw [if_pos rfl] at H; exact H
  clear H
  have H := H1
  clear H1
  replace H := Option.bind_eq_some_iff.mp H
  obtain ⟨t272, A50, H⟩ := H
  replace H : (some t272) = some r := H
  have A5 := Aside0.mk A50
  clear A50
  obtain rfl := Option.some.inj H
  go_enter Try.func64, Try.ntmps64
  go_wp2_with (first | ((with_reducible refine gate_callee (f := 88) rfl ?_); refine goesL_ (some 6) rfl rfl Try.func88 (by kernel_rfl) rfl #[.int .i64 a0] rfl av_ ?_; (with_reducible refine (impl_pitchOk.calls a0 true _ A3.out).mono ?_); rintro e w' ⟨rfl, ⟨nd, rfl⟩⟩; refine ⟨_, rfl, ?_⟩) | (go_at_call 65; (with_reducible refine (impl_within.calls a1 a0 23 t272 _ A5.out).mono ?_); rintro e w' ⟨rfl, ⟨nd, rfl⟩⟩))
  go_ret
  exact ⟨sv_, dr_⟩
 ·replace c4 := Bool.eq_false_iff.mpr c4
  subst c4
  have H1 : (some false) = some r := by rw [if_neg (show ¬ (false = true) by decide)] at H; exact H
  clear H
  have H := H1
  clear H1
  obtain rfl := Option.some.inj H
  go_enter Try.func64, Try.ntmps64
  go_wp2_with (first | ((with_reducible refine gate_callee (f := 88) rfl ?_); refine goesL_ (some 6) rfl rfl Try.func88 (by kernel_rfl) rfl #[.int .i64 a0] rfl av_ ?_; (with_reducible refine (impl_pitchOk.calls a0 false _ A3.out).mono ?_); rintro e w' ⟨rfl, ⟨nd, rfl⟩⟩; refine ⟨_, rfl, ?_⟩))
  go_ret
  exact ⟨sv_, dr_⟩
/-! ### impl_ValidAsk: function 96 -/
mutual
def impl_ValidAsk.j0 : Nat → Bool → Int → Int → Int → Int → Int → List (List Int) → Int → Option (Bool)
 | 0, _, _, _, _, _, _, _, _ => none
 | k + 1, x48, x570000, x570001, x570002, x570003, x570004, x570005, x570006 => if x48 = true then (some false) else (impl_ValidAsk.l0 k x570005 (x570005.length : Int) 0)
def impl_ValidAsk.l0 : Nat → List (List Int) → Int → Int → Option (Bool)
 | 0, _, _, _ => none
 | k + 1, x50, x51, x52 => if x52 < x51 then (if 0 ≤ x52 then (if x52 < (x50.length : Int) then (if ((rd_L1 x50 x52).length : Int) < 1 then (some false) else (if ((rd_L1 x50 x52).length : Int) > 8 then (some false) else ((impl_pitchesOk.f (rd_L1 x50 x52)).bind fun t576 => (if t576 = true then (impl_ValidAsk.l0 k x50 x51 (wrap64 (x52 + 1))) else (some false))))) else (none)) else (none)) else (some true)
end
def impl_ValidAsk.f (k : Nat) (a0_0 : Int) (a0_1 : Int) (a0_2 : Int) (a0_3 : Int) (a0_4 : Int) (l0_5 : List (List Int)) (a0_6 : Int) : Option (Bool) := (impl_within.f a0_0 1 16).bind fun t570 => (if t570 = true then ((impl_rangeOk.f a0_3 a0_4).bind fun t571 => (if t571 = true then ((impl_within.f a0_1 a0_3 a0_4).bind fun t572 => (if t572 = true then ((impl_within.f a0_2 a0_3 a0_4).bind fun t573 => (if t573 = true then (if (l0_5.length : Int) > 4 then (impl_ValidAsk.j0 k true a0_0 a0_1 a0_2 a0_3 a0_4 l0_5 a0_6) else ((impl_within.f a0_6 0 16).bind fun t574 => (impl_ValidAsk.j0 k (!t574) a0_0 a0_1 a0_2 a0_3 a0_4 l0_5 a0_6))) else (impl_ValidAsk.j0 k true a0_0 a0_1 a0_2 a0_3 a0_4 l0_5 a0_6))) else (impl_ValidAsk.j0 k true a0_0 a0_1 a0_2 a0_3 a0_4 l0_5 a0_6))) else (impl_ValidAsk.j0 k true a0_0 a0_1 a0_2 a0_3 a0_4 l0_5 a0_6))) else (impl_ValidAsk.j0 k true a0_0 a0_1 a0_2 a0_3 a0_4 l0_5 a0_6))
set_option maxHeartbeats 8000000 in
set_option maxRecDepth 100000 in
theorem impl_ValidAsk.calls (k : Nat) (a0_0 : Int) (a0_1 : Int) (a0_2 : Int) (a0_3 : Int) (a0_4 : Int) (A0_5 : Option Addr) (c0_5 : Nat) (l0_5 : List (List Int)) (a0_6 : Int) (r : Bool) (w : World) (hr0_5 : Kd.C (Kd.slice 2 (Kd.int .i64)) w A0_5 l0_5.length l0_5) (hc0_5 : l0_5.length ≤ c0_5) (h : impl_ValidAsk.f k a0_0 a0_1 a0_2 a0_3 a0_4 l0_5 a0_6 = some r) :
  Calls Try.prog 96 #[.agg #[.int .i64 a0_0, .int .i64 a0_1, .int .i64 a0_2, .int .i64 a0_3, .int .i64 a0_4, .slice A0_5 l0_5.length c0_5, .int .i64 a0_6]] w fun e w' => e = .returned (.bool r) ∧ Below w.heap.size w w' := by
 have hu62 := Try.underlying62
 have HR0_5 := Aside0.mk hr0_5
 have HC0_5 := Aside0.mk hc0_5
 clear hr0_5 hc0_5
 have HB := Aside0.mk (Below.refl w.heap.size w)
 have H : ((impl_within.f a0_0 1 16).bind fun t570 => (if t570 = true then ((impl_rangeOk.f a0_3 a0_4).bind fun t571 => (if t571 = true then ((impl_within.f a0_1 a0_3 a0_4).bind fun t572 => (if t572 = true then ((impl_within.f a0_2 a0_3 a0_4).bind fun t573 => (if t573 = true then (if (l0_5.length : Int) > 4 then (impl_ValidAsk.j0 k true a0_0 a0_1 a0_2 a0_3 a0_4 l0_5 a0_6) else ((impl_within.f a0_6 0 16).bind fun t574 => (impl_ValidAsk.j0 k (!t574) a0_0 a0_1 a0_2 a0_3 a0_4 l0_5 a0_6))) else (impl_ValidAsk.j0 k true a0_0 a0_1 a0_2 a0_3 a0_4 l0_5 a0_6))) else (impl_ValidAsk.j0 k true a0_0 a0_1 a0_2 a0_3 a0_4 l0_5 a0_6))) else (impl_ValidAsk.j0 k true a0_0 a0_1 a0_2 a0_3 a0_4 l0_5 a0_6))) else (impl_ValidAsk.j0 k true a0_0 a0_1 a0_2 a0_3 a0_4 l0_5 a0_6))) = some r := h
 clear h
 have HC2 := Aside0.mk H
 clear H
 go_enter Try.func96, Try.ntmps96
 go_upto_region 1 with (first | ((with_reducible refine gate_dst (N := 1) rfl ?_); (try (refine gate_guard (by rfl) ?_; dsimp only)); refine box_event ?hg (N := 1) ?hd (cs := #[.int .i64 a0_0, .int .i64 a0_1, .int .i64 a0_2, .int .i64 a0_3, .int .i64 a0_4, .slice A0_5 l0_5.length c0_5, .int .i64 a0_6]) (t := 62) ?hr ?_; (case hd => rfl); (case hg => rfl); (case hr => first | (go_simp; done) | (go_simp; rfl)); intro gb569 hg w3 hbox hb; have n0_ := Aside0.mk (below_step (ba_ HB.out) hb); have n1_ := Aside0.mk (hbox); have n2_ := Aside0.mk ((by rw [hg]; exact (below_size (ba_ HB.out)) : w.heap.size ≤ gb569)); have n3_ := Aside0.mk ((by rw [hg]; exact (below_size (ba_ HB.out)) : w.heap.size ≤ gb569)); clear HB; have HB := n0_; have BK569 := n1_; have GW569 := n2_; have GE569 := n3_; clear n0_ n1_ n2_ n3_; clear hb hbox hg))
 (try simp only [Act.put, List.setIfInBounds_toArray, List.set_cons_zero, List.set_cons_succ])
 go_cut [48] (fun v48 wc => ∃ (kq : Nat) (x48_1 : Bool), v48 = .bool x48_1 ∧ Aside0 (impl_ValidAsk.j0 kq x48_1 a0_0 a0_1 a0_2 a0_3 a0_4 l0_5 a0_6 = some r) ∧ Aside0 (kq ≤ k) ∧ Aside0 (wc.heap[gb569]? = some (.cells #[.int .i64 a0_0, .int .i64 a0_1, .int .i64 a0_2, .int .i64 a0_3, .int .i64 a0_4, (.slice A0_5 l0_5.length c0_5), .int .i64 a0_6] 62 (0, 0))) ∧ Aside0 (Below w.heap.size w wc))
 case first =>
  have H := HC2.out
  clear HC2
  replace H := Option.bind_eq_some_iff.mp H
  obtain ⟨t570, A40, H⟩ := H
  replace H : (if t570 = true then ((impl_rangeOk.f a0_3 a0_4).bind fun t571 => (if t571 = true then ((impl_within.f a0_1 a0_3 a0_4).bind fun t572 => (if t572 = true then ((impl_within.f a0_2 a0_3 a0_4).bind fun t573 => (if t573 = true then (if (l0_5.length : Int) > 4 then (impl_ValidAsk.j0 k true a0_0 a0_1 a0_2 a0_3 a0_4 l0_5 a0_6) else ((impl_within.f a0_6 0 16).bind fun t574 => (impl_ValidAsk.j0 k (!t574) a0_0 a0_1 a0_2 a0_3 a0_4 l0_5 a0_6))) else (impl_ValidAsk.j0 k true a0_0 a0_1 a0_2 a0_3 a0_4 l0_5 a0_6))) else (impl_ValidAsk.j0 k true a0_0 a0_1 a0_2 a0_3 a0_4 l0_5 a0_6))) else (impl_ValidAsk.j0 k true a0_0 a0_1 a0_2 a0_3 a0_4 l0_5 a0_6))) else (impl_ValidAsk.j0 k true a0_0 a0_1 a0_2 a0_3 a0_4 l0_5 a0_6)) = some r := H
  have A4 := Aside0.mk A40
  clear A40
  by_cases c5 : t570 = true
  ·subst c5
   have H1 : ((impl_rangeOk.f a0_3 a0_4).bind fun t571 => (if t571 = true then ((impl_within.f a0_1 a0_3 a0_4).bind fun t572 => (if t572 = true then ((impl_within.f a0_2 a0_3 a0_4).bind fun t573 => (if t573 = true then (if (l0_5.length : Int) > 4 then (impl_ValidAsk.j0 k true a0_0 a0_1 a0_2 a0_3 a0_4 l0_5 a0_6) else ((impl_within.f a0_6 0 16).bind fun t574 => (impl_ValidAsk.j0 k (!t574) a0_0 a0_1 a0_2 a0_3 a0_4 l0_5 a0_6))) else (impl_ValidAsk.j0 k true a0_0 a0_1 a0_2 a0_3 a0_4 l0_5 a0_6))) else (impl_ValidAsk.j0 k true a0_0 a0_1 a0_2 a0_3 a0_4 l0_5 a0_6))) else (impl_ValidAsk.j0 k true a0_0 a0_1 a0_2 a0_3 a0_4 l0_5 a0_6))) = some r := by rw [if_pos rfl] at H; exact H
   clear H
   have H := H1
   clear H1
   replace H := Option.bind_eq_some_iff.mp H
   obtain ⟨t571, A60, H⟩ := H
   replace H : (if t571 = true then ((impl_within.f a0_1 a0_3 a0_4).bind fun t572 => (if t572 = true then ((impl_within.f a0_2 a0_3 a0_4).bind fun t573 => (if t573 = true then (if (l0_5.length : Int) > 4 then (impl_ValidAsk.j0 k true a0_0 a0_1 a0_2 a0_3 a0_4 l0_5 a0_6) else ((impl_within.f a0_6 0 16).bind fun t574 => (impl_ValidAsk.j0 k (!t574) a0_0 a0_1 a0_2 a0_3 a0_4 l0_5 a0_6))) else (impl_ValidAsk.j0 k true a0_0 a0_1 a0_2 a0_3 a0_4 l0_5 a0_6))) else (impl_ValidAsk.j0 k true a0_0 a0_1 a0_2 a0_3 a0_4 l0_5 a0_6))) else (impl_ValidAsk.j0 k true a0_0 a0_1 a0_2 a0_3 a0_4 l0_5 a0_6)) = some r := H
   have A6 := Aside0.mk A60
   clear A60
   by_cases c7 : t571 = true
   ·subst c7
    have H1 : ((impl_within.f a0_1 a0_3 a0_4).bind fun t572 => (if t572 = true then ((impl_within.f a0_2 a0_3 a0_4).bind fun t573 => (if t573 = true then (if (l0_5.length : Int) > 4 then (impl_ValidAsk.j0 k true a0_0 a0_1 a0_2 a0_3 a0_4 l0_5 a0_6) else ((impl_within.f a0_6 0 16).bind fun t574 => (impl_ValidAsk.j0 k (!t574) a0_0 a0_1 a0_2 a0_3 a0_4 l0_5 a0_6))) else (impl_ValidAsk.j0 k true a0_0 a0_1 a0_2 a0_3 a0_4 l0_5 a0_6))) else (impl_ValidAsk.j0 k true a0_0 a0_1 a0_2 a0_3 a0_4 l0_5 a0_6))) = some r := by rw [if_pos rfl] at H; exact H
    clear H
    have H := H1
    clear H1
    replace H := Option.bind_eq_some_iff.mp H
    obtain ⟨t572, A80, H⟩ := H
    replace H : (if t572 = true then ((impl_within.f a0_2 a0_3 a0_4).bind fun t573 => (if t573 = true then (if (l0_5.length : Int) > 4 then (impl_ValidAsk.j0 k true a0_0 a0_1 a0_2 a0_3 a0_4 l0_5 a0_6) else ((impl_within.f a0_6 0 16).bind fun t574 => (impl_ValidAsk.j0 k (!t574) a0_0 a0_1 a0_2 a0_3 a0_4 l0_5 a0_6))) else (impl_ValidAsk.j0 k true a0_0 a0_1 a0_2 a0_3 a0_4 l0_5 a0_6))) else (impl_ValidAsk.j0 k true a0_0 a0_1 a0_2 a0_3 a0_4 l0_5 a0_6)) = some r := H
    have A8 := Aside0.mk A80
    clear A80
    by_cases c9 : t572 = true
    ·subst c9
     have H1 : ((impl_within.f a0_2 a0_3 a0_4).bind fun t573 => (if t573 = true then (if (l0_5.length : Int) > 4 then (impl_ValidAsk.j0 k true a0_0 a0_1 a0_2 a0_3 a0_4 l0_5 a0_6) else ((impl_within.f a0_6 0 16).bind fun t574 => (impl_ValidAsk.j0 k (!t574) a0_0 a0_1 a0_2 a0_3 a0_4 l0_5 a0_6))) else (impl_ValidAsk.j0 k true a0_0 a0_1 a0_2 a0_3 a0_4 l0_5 a0_6))) = some r := by rw [if_pos rfl] at H; exact H
     clear H
     have H := H1
     clear H1
     replace H := Option.bind_eq_some_iff.mp H
     obtain ⟨t573, A100, H⟩ := H
     replace H : (if t573 = true then (if (l0_5.length : Int) > 4 then (impl_ValidAsk.j0 k true a0_0 a0_1 a0_2 a0_3 a0_4 l0_5 a0_6) else ((impl_within.f a0_6 0 16).bind fun t574 => (impl_ValidAsk.j0 k (!t574) a0_0 a0_1 a0_2 a0_3 a0_4 l0_5 a0_6))) else (impl_ValidAsk.j0 k true a0_0 a0_1 a0_2 a0_3 a0_4 l0_5 a0_6)) = some r := H
     have A10 := Aside0.mk A100
     clear A100
     by_cases c11 : t573 = true
     ·subst c11
      have H1 : (if (l0_5.length : Int) > 4 then (impl_ValidAsk.j0 k true a0_0 a0_1 a0_2 a0_3 a0_4 l0_5 a0_6) else ((impl_within.f a0_6 0 16).bind fun t574 => (impl_ValidAsk.j0 k (!t574) a0_0 a0_1 a0_2 a0_3 a0_4 l0_5 a0_6))) = some r := by rw [if_pos rfl] at H; exact H
      clear H
      have H := H1
      clear H1
      by_cases c12 : (l0_5.length : Int) > 4
      ·rw [if_pos c12] at H
       have c12b0 : decide (4 < (l0_5.length : Int)) = true := decide_eq_true c12
       have c12b1 : decide (4 < l0_5.length) = true := decide_eq_true (by omega)
       clear c12
       (first | rw [c12b0] | (simp only [i64_w, i32_w]; rw [c12b0]) | skip)
       have H' := Aside0.mk H
       clear H
       have hcz13_0 : w3.cell? ⟨gb569, 0, none⟩ = some (.int .i64 a0_0) := (blk_cell BK569.out 0).trans rfl
       have hcz13_1 : w3.cell? ⟨gb569, 1, none⟩ = some (.int .i64 a0_1) := (blk_cell BK569.out 1).trans rfl
       have hcz13_2 : w3.cell? ⟨gb569, 2, none⟩ = some (.int .i64 a0_2) := (blk_cell BK569.out 2).trans rfl
       have hcz13_3 : w3.cell? ⟨gb569, 3, none⟩ = some (.int .i64 a0_3) := (blk_cell BK569.out 3).trans rfl
       have hcz13_4 : w3.cell? ⟨gb569, 4, none⟩ = some (.int .i64 a0_4) := (blk_cell BK569.out 4).trans rfl
       have hcz13_5 : w3.cell? ⟨gb569, 5, none⟩ = some (.slice A0_5 l0_5.length c0_5) := (blk_cell BK569.out 5).trans rfl
       have hcz13_6 : w3.cell? ⟨gb569, 6, none⟩ = some (.int .i64 a0_6) := (blk_cell BK569.out 6).trans rfl
       have hfz13_0 := blk_frozen BK569.out 0
       have hfz13_1 := blk_frozen BK569.out 1
       have hfz13_2 := blk_frozen BK569.out 2
       have hfz13_3 := blk_frozen BK569.out 3
       have hfz13_4 := blk_frozen BK569.out 4
       have hfz13_5 := blk_frozen BK569.out 5
       have hfz13_6 := blk_frozen BK569.out 6
       go_wp2_with (first | ((with_reducible refine gate_callee (f := 65) rfl ?_); refine goesL_ (some 7) rfl rfl Try.func65 (by kernel_rfl) rfl #[.int .i64 a0_0, .int .i64 1, .int .i64 16] rfl av_ ?_; (with_reducible refine (impl_within.calls a0_0 1 16 true _ A4.out).mono ?_); rintro e w' ⟨rfl, ⟨nd, rfl⟩⟩; refine ⟨_, rfl, ?_⟩) | (go_at_call 64; (with_reducible refine (impl_rangeOk.calls a0_3 a0_4 true _ A6.out).mono ?_); rintro e w' ⟨rfl, ⟨nd, rfl⟩⟩) | (go_at_call 65; (with_reducible refine (impl_within.calls a0_1 a0_3 a0_4 true _ A8.out).mono ?_); rintro e w' ⟨rfl, ⟨nd, rfl⟩⟩) | (go_at_call 65; (with_reducible refine (impl_within.calls a0_2 a0_3 a0_4 true _ A10.out).mono ?_); rintro e w' ⟨rfl, ⟨nd, rfl⟩⟩))
       go_meet
       case rel => exact ⟨_, (true), sv_, H', ⟨by first | omega | exact Nat.le_refl _⟩, ⟨by (with_reducible repeat (first | refine blk_drewN ?_ _ | refine blk_drew ?_ | refine blk_alloc ?_ _)); exact BK569.out⟩, ⟨bg_ HB.out GE569.out⟩⟩
      ·rw [if_neg c12] at H
       have c12b0 : decide (4 < (l0_5.length : Int)) = false := decide_eq_false c12
       have c12b1 : decide (4 < l0_5.length) = false := decide_eq_false (by omega)
       clear c12
       (first | rw [c12b0] | (simp only [i64_w, i32_w]; rw [c12b0]) | skip)
       replace H := Option.bind_eq_some_iff.mp H
       obtain ⟨t574, A140, H⟩ := H
       replace H : (impl_ValidAsk.j0 k (!t574) a0_0 a0_1 a0_2 a0_3 a0_4 l0_5 a0_6) = some r := H
       have A14 := Aside0.mk A140
       clear A140
       have H' := Aside0.mk H
       clear H
       have hcz15_0 : w3.cell? ⟨gb569, 0, none⟩ = some (.int .i64 a0_0) := (blk_cell BK569.out 0).trans rfl
       have hcz15_1 : w3.cell? ⟨gb569, 1, none⟩ = some (.int .i64 a0_1) := (blk_cell BK569.out 1).trans rfl
       have hcz15_2 : w3.cell? ⟨gb569, 2, none⟩ = some (.int .i64 a0_2) := (blk_cell BK569.out 2).trans rfl
       have hcz15_3 : w3.cell? ⟨gb569, 3, none⟩ = some (.int .i64 a0_3) := (blk_cell BK569.out 3).trans rfl
       have hcz15_4 : w3.cell? ⟨gb569, 4, none⟩ = some (.int .i64 a0_4) := (blk_cell BK569.out 4).trans rfl
       have hcz15_5 : w3.cell? ⟨gb569, 5, none⟩ = some (.slice A0_5 l0_5.length c0_5) := (blk_cell BK569.out 5).trans rfl
       have hcz15_6 : w3.cell? ⟨gb569, 6, none⟩ = some (.int .i64 a0_6) := (blk_cell BK569.out 6).trans rfl
       have hfz15_0 := blk_frozen BK569.out 0
       have hfz15_1 := blk_frozen BK569.out 1
       have hfz15_2 := blk_frozen BK569.out 2
       have hfz15_3 := blk_frozen BK569.out 3
       have hfz15_4 := blk_frozen BK569.out 4
       have hfz15_5 := blk_frozen BK569.out 5
       have hfz15_6 := blk_frozen BK569.out 6
       go_wp2_with (first | ((with_reducible refine gate_callee (f := 65) rfl ?_); refine goesL_ (some 7) rfl rfl Try.func65 (by kernel_rfl) rfl #[.int .i64 a0_0, .int .i64 1, .int .i64 16] rfl av_ ?_; (with_reducible refine (impl_within.calls a0_0 1 16 true _ A4.out).mono ?_); rintro e w' ⟨rfl, ⟨nd, rfl⟩⟩; refine ⟨_, rfl, ?_⟩) | (go_at_call 64; (with_reducible refine (impl_rangeOk.calls a0_3 a0_4 true _ A6.out).mono ?_); rintro e w' ⟨rfl, ⟨nd, rfl⟩⟩) | (go_at_call 65; (with_reducible refine (impl_within.calls a0_1 a0_3 a0_4 true _ A8.out).mono ?_); rintro e w' ⟨rfl, ⟨nd, rfl⟩⟩) | (go_at_call 65; (with_reducible refine (impl_within.calls a0_2 a0_3 a0_4 true _ A10.out).mono ?_); rintro e w' ⟨rfl, ⟨nd, rfl⟩⟩) | (go_at_call 65; (with_reducible refine (impl_within.calls a0_6 0 16 t574 _ A14.out).mono ?_); rintro e w' ⟨rfl, ⟨nd, rfl⟩⟩))
       go_meet
       case rel => exact ⟨_, (!t574), sv_, H', ⟨by first | omega | exact Nat.le_refl _⟩, ⟨by (with_reducible repeat (first | refine blk_drewN ?_ _ | refine blk_drew ?_ | refine blk_alloc ?_ _)); exact BK569.out⟩, ⟨bg_ HB.out GE569.out⟩⟩
     ·replace c11 := Bool.eq_false_iff.mpr c11
      subst c11
      have H1 : (impl_ValidAsk.j0 k true a0_0 a0_1 a0_2 a0_3 a0_4 l0_5 a0_6) = some r := by rw [if_neg (show ¬ (false = true) by decide)] at H; exact H
      clear H
      have H := H1
      clear H1
      have H' := Aside0.mk H
      clear H
      have hcz16_0 : w3.cell? ⟨gb569, 0, none⟩ = some (.int .i64 a0_0) := (blk_cell BK569.out 0).trans rfl
      have hcz16_1 : w3.cell? ⟨gb569, 1, none⟩ = some (.int .i64 a0_1) := (blk_cell BK569.out 1).trans rfl
      have hcz16_2 : w3.cell? ⟨gb569, 2, none⟩ = some (.int .i64 a0_2) := (blk_cell BK569.out 2).trans rfl
      have hcz16_3 : w3.cell? ⟨gb569, 3, none⟩ = some (.int .i64 a0_3) := (blk_cell BK569.out 3).trans rfl
      have hcz16_4 : w3.cell? ⟨gb569, 4, none⟩ = some (.int .i64 a0_4) := (blk_cell BK569.out 4).trans rfl
      have hcz16_5 : w3.cell? ⟨gb569, 5, none⟩ = some (.slice A0_5 l0_5.length c0_5) := (blk_cell BK569.out 5).trans rfl
      have hcz16_6 : w3.cell? ⟨gb569, 6, none⟩ = some (.int .i64 a0_6) := (blk_cell BK569.out 6).trans rfl
      have hfz16_0 := blk_frozen BK569.out 0
      have hfz16_1 := blk_frozen BK569.out 1
      have hfz16_2 := blk_frozen BK569.out 2
      have hfz16_3 := blk_frozen BK569.out 3
      have hfz16_4 := blk_frozen BK569.out 4
      have hfz16_5 := blk_frozen BK569.out 5
      have hfz16_6 := blk_frozen BK569.out 6
      go_wp2_with (first | ((with_reducible refine gate_callee (f := 65) rfl ?_); refine goesL_ (some 7) rfl rfl Try.func65 (by kernel_rfl) rfl #[.int .i64 a0_0, .int .i64 1, .int .i64 16] rfl av_ ?_; (with_reducible refine (impl_within.calls a0_0 1 16 true _ A4.out).mono ?_); rintro e w' ⟨rfl, ⟨nd, rfl⟩⟩; refine ⟨_, rfl, ?_⟩) | (go_at_call 64; (with_reducible refine (impl_rangeOk.calls a0_3 a0_4 true _ A6.out).mono ?_); rintro e w' ⟨rfl, ⟨nd, rfl⟩⟩) | (go_at_call 65; (with_reducible refine (impl_within.calls a0_1 a0_3 a0_4 true _ A8.out).mono ?_); rintro e w' ⟨rfl, ⟨nd, rfl⟩⟩) | (go_at_call 65; (with_reducible refine (impl_within.calls a0_2 a0_3 a0_4 false _ A10.out).mono ?_); rintro e w' ⟨rfl, ⟨nd, rfl⟩⟩))
      go_meet
      case rel => exact ⟨_, (true), sv_, H', ⟨by first | omega | exact Nat.le_refl _⟩, ⟨by (with_reducible repeat (first | refine blk_drewN ?_ _ | refine blk_drew ?_ | refine blk_alloc ?_ _)); exact BK569.out⟩, ⟨bg_ HB.out GE569.out⟩⟩
    ·replace c9 := Bool.eq_false_iff.mpr c9
     subst c9
     have H1 : (impl_ValidAsk.j0 k true a0_0 a0_1 a0_2 a0_3 a0_4 l0_5 a0_6) = some r := by rw [if_neg (show ¬ (false = true) by decide)] at H; exact H
     clear H
     have H := H1
     clear H1
     have H' := Aside0.mk H
     clear H
     have hcz17_0 : w3.cell? ⟨gb569, 0, none⟩ = some (.int .i64 a0_0) := (blk_cell BK569.out 0).trans rfl
     have hcz17_1 : w3.cell? ⟨gb569, 1, none⟩ = some (.int .i64 a0_1) := (blk_cell BK569.out 1).trans rfl
     have hcz17_2 : w3.cell? ⟨gb569, 2, none⟩ = some (.int .i64 a0_2) := (blk_cell BK569.out 2).trans rfl
     have hcz17_3 : w3.cell? ⟨gb569, 3, none⟩ = some (.int .i64 a0_3) := (blk_cell BK569.out 3).trans rfl
     have hcz17_4 : w3.cell? ⟨gb569, 4, none⟩ = some (.int .i64 a0_4) := (blk_cell BK569.out 4).trans rfl
     have hcz17_5 : w3.cell? ⟨gb569, 5, none⟩ = some (.slice A0_5 l0_5.length c0_5) := (blk_cell BK569.out 5).trans rfl
     have hcz17_6 : w3.cell? ⟨gb569, 6, none⟩ = some (.int .i64 a0_6) := (blk_cell BK569.out 6).trans rfl
     have hfz17_0 := blk_frozen BK569.out 0
     have hfz17_1 := blk_frozen BK569.out 1
     have hfz17_2 := blk_frozen BK569.out 2
     have hfz17_3 := blk_frozen BK569.out 3
     have hfz17_4 := blk_frozen BK569.out 4
     have hfz17_5 := blk_frozen BK569.out 5
     have hfz17_6 := blk_frozen BK569.out 6
     go_wp2_with (first | ((with_reducible refine gate_callee (f := 65) rfl ?_); refine goesL_ (some 7) rfl rfl Try.func65 (by kernel_rfl) rfl #[.int .i64 a0_0, .int .i64 1, .int .i64 16] rfl av_ ?_; (with_reducible refine (impl_within.calls a0_0 1 16 true _ A4.out).mono ?_); rintro e w' ⟨rfl, ⟨nd, rfl⟩⟩; refine ⟨_, rfl, ?_⟩) | (go_at_call 64; (with_reducible refine (impl_rangeOk.calls a0_3 a0_4 true _ A6.out).mono ?_); rintro e w' ⟨rfl, ⟨nd, rfl⟩⟩) | (go_at_call 65; (with_reducible refine (impl_within.calls a0_1 a0_3 a0_4 false _ A8.out).mono ?_); rintro e w' ⟨rfl, ⟨nd, rfl⟩⟩))
     go_meet
     case rel => exact ⟨_, (true), sv_, H', ⟨by first | omega | exact Nat.le_refl _⟩, ⟨by (with_reducible repeat (first | refine blk_drewN ?_ _ | refine blk_drew ?_ | refine blk_alloc ?_ _)); exact BK569.out⟩, ⟨bg_ HB.out GE569.out⟩⟩
   ·replace c7 := Bool.eq_false_iff.mpr c7
    subst c7
    have H1 : (impl_ValidAsk.j0 k true a0_0 a0_1 a0_2 a0_3 a0_4 l0_5 a0_6) = some r := by rw [if_neg (show ¬ (false = true) by decide)] at H; exact H
    clear H
    have H := H1
    clear H1
    have H' := Aside0.mk H
    clear H
    have hcz18_0 : w3.cell? ⟨gb569, 0, none⟩ = some (.int .i64 a0_0) := (blk_cell BK569.out 0).trans rfl
    have hcz18_1 : w3.cell? ⟨gb569, 1, none⟩ = some (.int .i64 a0_1) := (blk_cell BK569.out 1).trans rfl
    have hcz18_2 : w3.cell? ⟨gb569, 2, none⟩ = some (.int .i64 a0_2) := (blk_cell BK569.out 2).trans rfl
    have hcz18_3 : w3.cell? ⟨gb569, 3, none⟩ = some (.int .i64 a0_3) := (blk_cell BK569.out 3).trans rfl
    have hcz18_4 : w3.cell? ⟨gb569, 4, none⟩ = some (.int .i64 a0_4) := (blk_cell BK569.out 4).trans rfl
    have hcz18_5 : w3.cell? ⟨gb569, 5, none⟩ = some (.slice A0_5 l0_5.length c0_5) := (blk_cell BK569.out 5).trans rfl
    have hcz18_6 : w3.cell? ⟨gb569, 6, none⟩ = some (.int .i64 a0_6) := (blk_cell BK569.out 6).trans rfl
    have hfz18_0 := blk_frozen BK569.out 0
    have hfz18_1 := blk_frozen BK569.out 1
    have hfz18_2 := blk_frozen BK569.out 2
    have hfz18_3 := blk_frozen BK569.out 3
    have hfz18_4 := blk_frozen BK569.out 4
    have hfz18_5 := blk_frozen BK569.out 5
    have hfz18_6 := blk_frozen BK569.out 6
    go_wp2_with (first | ((with_reducible refine gate_callee (f := 65) rfl ?_); refine goesL_ (some 7) rfl rfl Try.func65 (by kernel_rfl) rfl #[.int .i64 a0_0, .int .i64 1, .int .i64 16] rfl av_ ?_; (with_reducible refine (impl_within.calls a0_0 1 16 true _ A4.out).mono ?_); rintro e w' ⟨rfl, ⟨nd, rfl⟩⟩; refine ⟨_, rfl, ?_⟩) | (go_at_call 64; (with_reducible refine (impl_rangeOk.calls a0_3 a0_4 false _ A6.out).mono ?_); rintro e w' ⟨rfl, ⟨nd, rfl⟩⟩))
    go_meet
    case rel => exact ⟨_, (true), sv_, H', ⟨by first | omega | exact Nat.le_refl _⟩, ⟨by (with_reducible repeat (first | refine blk_drewN ?_ _ | refine blk_drew ?_ | refine blk_alloc ?_ _)); exact BK569.out⟩, ⟨bg_ HB.out GE569.out⟩⟩
  ·replace c5 := Bool.eq_false_iff.mpr c5
   subst c5
   have H1 : (impl_ValidAsk.j0 k true a0_0 a0_1 a0_2 a0_3 a0_4 l0_5 a0_6) = some r := by rw [if_neg (show ¬ (false = true) by decide)] at H; exact H
   clear H
   have H := H1
   clear H1
   have H' := Aside0.mk H
   clear H
   have hcz19_0 : w3.cell? ⟨gb569, 0, none⟩ = some (.int .i64 a0_0) := (blk_cell BK569.out 0).trans rfl
   have hcz19_1 : w3.cell? ⟨gb569, 1, none⟩ = some (.int .i64 a0_1) := (blk_cell BK569.out 1).trans rfl
   have hcz19_2 : w3.cell? ⟨gb569, 2, none⟩ = some (.int .i64 a0_2) := (blk_cell BK569.out 2).trans rfl
   have hcz19_3 : w3.cell? ⟨gb569, 3, none⟩ = some (.int .i64 a0_3) := (blk_cell BK569.out 3).trans rfl
   have hcz19_4 : w3.cell? ⟨gb569, 4, none⟩ = some (.int .i64 a0_4) := (blk_cell BK569.out 4).trans rfl
   have hcz19_5 : w3.cell? ⟨gb569, 5, none⟩ = some (.slice A0_5 l0_5.length c0_5) := (blk_cell BK569.out 5).trans rfl
   have hcz19_6 : w3.cell? ⟨gb569, 6, none⟩ = some (.int .i64 a0_6) := (blk_cell BK569.out 6).trans rfl
   have hfz19_0 := blk_frozen BK569.out 0
   have hfz19_1 := blk_frozen BK569.out 1
   have hfz19_2 := blk_frozen BK569.out 2
   have hfz19_3 := blk_frozen BK569.out 3
   have hfz19_4 := blk_frozen BK569.out 4
   have hfz19_5 := blk_frozen BK569.out 5
   have hfz19_6 := blk_frozen BK569.out 6
   go_wp2_with (first | ((with_reducible refine gate_callee (f := 65) rfl ?_); refine goesL_ (some 7) rfl rfl Try.func65 (by kernel_rfl) rfl #[.int .i64 a0_0, .int .i64 1, .int .i64 16] rfl av_ ?_; (with_reducible refine (impl_within.calls a0_0 1 16 false _ A4.out).mono ?_); rintro e w' ⟨rfl, ⟨nd, rfl⟩⟩; refine ⟨_, rfl, ?_⟩))
   go_meet
   case rel => exact ⟨_, (true), sv_, H', ⟨by first | omega | exact Nat.le_refl _⟩, ⟨by (with_reducible repeat (first | refine blk_drewN ?_ _ | refine blk_drew ?_ | refine blk_alloc ?_ _)); exact BK569.out⟩, ⟨bg_ HB.out GE569.out⟩⟩
 case rest =>
  clear HC2
  (try clear c1); (try clear p2); (try clear c5); (try clear c6); (try clear c7); (try clear c9); (try clear c11); (try clear c12); (try clear c12b0); (try clear c12b1); (try clear hcz13_0); (try clear hcz13_1); (try clear hcz13_2); (try clear hcz13_3); (try clear hcz13_4); (try clear hcz13_5); (try clear hcz13_6); (try clear hcz15_0); (try clear hcz15_1); (try clear hcz15_2); (try clear hcz15_3); (try clear hcz15_4); (try clear hcz15_5); (try clear hcz15_6); (try clear hcz16_0); (try clear hcz16_1); (try clear hcz16_2); (try clear hcz16_3); (try clear hcz16_4); (try clear hcz16_5); (try clear hcz16_6); (try clear hcz17_0); (try clear hcz17_1); (try clear hcz17_2); (try clear hcz17_3); (try clear hcz17_4); (try clear hcz17_5); (try clear hcz17_6); (try clear hcz18_0); (try clear hcz18_1); (try clear hcz18_2); (try clear hcz18_3); (try clear hcz18_4); (try clear hcz18_5); (try clear hcz18_6); (try clear hcz19_0); (try clear hcz19_1); (try clear hcz19_2); (try clear hcz19_3); (try clear hcz19_4); (try clear hcz19_5); (try clear hcz19_6); (try clear hfz13_0); (try clear hfz13_1); (try clear hfz13_2); (try clear hfz13_3); (try clear hfz13_4); (try clear hfz13_5); (try clear hfz13_6); (try clear hfz15_0); (try clear hfz15_1); (try clear hfz15_2); (try clear hfz15_3); (try clear hfz15_4); (try clear hfz15_5); (try clear hfz15_6); (try clear hfz16_0); (try clear hfz16_1); (try clear hfz16_2); (try clear hfz16_3); (try clear hfz16_4); (try clear hfz16_5); (try clear hfz16_6); (try clear hfz17_0); (try clear hfz17_1); (try clear hfz17_2); (try clear hfz17_3); (try clear hfz17_4); (try clear hfz17_5); (try clear hfz17_6); (try clear hfz18_0); (try clear hfz18_1); (try clear hfz18_2); (try clear hfz18_3); (try clear hfz18_4); (try clear hfz18_5); (try clear hfz18_6); (try clear hfz19_0); (try clear hfz19_1); (try clear hfz19_2); (try clear hfz19_3); (try clear hfz19_4); (try clear hfz19_5); (try clear hfz19_6)
  obtain ⟨kq, x48_1, rfl, HA, HJ1, BK569, HB⟩ := hcut
  cases kq with
  | zero => exact absurd HA.out (by simp [impl_ValidAsk.j0])
  | succ kj1 =>
   have H := HA.out
   clear HA
   simp only [impl_ValidAsk.j0] at H
   by_cases c20 : x48_1 = true
   ·subst c20
    have H1 : (some false) = some r := by rw [if_pos rfl] at H; exact H
    clear H
    have H := H1
    clear H1
    obtain rfl := Option.some.inj H
    go_wp2
    go_ret
    exact ⟨by first | rfl | (simp [errW_none, errW_some] <;> rfl) | (simp [*, errW_none, errW_some] <;> rfl), bg_ HB.out GE569.out⟩
   ·replace c20 := Bool.eq_false_iff.mpr c20
    subst c20
    have H1 : (impl_ValidAsk.l0 kj1 l0_5 (l0_5.length : Int) 0) = some r := by rw [if_neg (show ¬ (false = true) by decide)] at H; exact H
    clear H
    have H := H1
    clear H1
    have H' := Aside0.mk H
    clear H
    have hcz21_0 : wc.cell? ⟨gb569, 0, none⟩ = some (.int .i64 a0_0) := (blk_cell BK569.out 0).trans rfl
    have hcz21_1 : wc.cell? ⟨gb569, 1, none⟩ = some (.int .i64 a0_1) := (blk_cell BK569.out 1).trans rfl
    have hcz21_2 : wc.cell? ⟨gb569, 2, none⟩ = some (.int .i64 a0_2) := (blk_cell BK569.out 2).trans rfl
    have hcz21_3 : wc.cell? ⟨gb569, 3, none⟩ = some (.int .i64 a0_3) := (blk_cell BK569.out 3).trans rfl
    have hcz21_4 : wc.cell? ⟨gb569, 4, none⟩ = some (.int .i64 a0_4) := (blk_cell BK569.out 4).trans rfl
    have hcz21_5 : wc.cell? ⟨gb569, 5, none⟩ = some (.slice A0_5 l0_5.length c0_5) := (blk_cell BK569.out 5).trans rfl
    have hcz21_6 : wc.cell? ⟨gb569, 6, none⟩ = some (.int .i64 a0_6) := (blk_cell BK569.out 6).trans rfl
    have hfz21_0 := blk_frozen BK569.out 0
    have hfz21_1 := blk_frozen BK569.out 1
    have hfz21_2 := blk_frozen BK569.out 2
    have hfz21_3 := blk_frozen BK569.out 3
    have hfz21_4 := blk_frozen BK569.out 4
    have hfz21_5 := blk_frozen BK569.out 5
    have hfz21_6 := blk_frozen BK569.out 6
    go_wp2
    go_loopg [52] kj1 (fun kq v52 w' => ∃ (x52_2 : Int), v52 = .int .i64 x52_2 ∧ Aside0 (impl_ValidAsk.l0 kq l0_5 (l0_5.length : Int) x52_2 = some r) ∧ Aside0 (kq ≤ kj1) ∧ Aside0 (w'.heap[gb569]? = some (.cells #[.int .i64 a0_0, .int .i64 a0_1, .int .i64 a0_2, .int .i64 a0_3, .int .i64 a0_4, (.slice A0_5 l0_5.length c0_5), .int .i64 a0_6] 62 (0, 0))) ∧ Aside0 (Below w.heap.size w w'))
    case atStart => exact ⟨(0), sv_, H', ⟨Nat.le_refl _⟩, ⟨by (with_reducible repeat (first | refine blk_drewN ?_ _ | refine blk_drew ?_ | refine blk_alloc ?_ _)); exact BK569.out⟩, ⟨bg_ HB.out GE569.out⟩⟩
    case round =>
     clear H'
     (try clear c1); (try clear c2); (try clear p2); (try clear c5); (try clear c6); (try clear c7); (try clear c9); (try clear c11); (try clear c12); (try clear c12b0); (try clear c12b1); (try clear c20); (try clear hcz13_0); (try clear hcz13_1); (try clear hcz13_2); (try clear hcz13_3); (try clear hcz13_4); (try clear hcz13_5); (try clear hcz13_6); (try clear hcz15_0); (try clear hcz15_1); (try clear hcz15_2); (try clear hcz15_3); (try clear hcz15_4); (try clear hcz15_5); (try clear hcz15_6); (try clear hcz16_0); (try clear hcz16_1); (try clear hcz16_2); (try clear hcz16_3); (try clear hcz16_4); (try clear hcz16_5); (try clear hcz16_6); (try clear hcz17_0); (try clear hcz17_1); (try clear hcz17_2); (try clear hcz17_3); (try clear hcz17_4); (try clear hcz17_5); (try clear hcz17_6); (try clear hcz18_0); (try clear hcz18_1); (try clear hcz18_2); (try clear hcz18_3); (try clear hcz18_4); (try clear hcz18_5); (try clear hcz18_6); (try clear hcz19_0); (try clear hcz19_1); (try clear hcz19_2); (try clear hcz19_3); (try clear hcz19_4); (try clear hcz19_5); (try clear hcz19_6); (try clear hcz21_0); (try clear hcz21_1); (try clear hcz21_2); (try clear hcz21_3); (try clear hcz21_4); (try clear hcz21_5); (try clear hcz21_6); (try clear hfz13_0); (try clear hfz13_1); (try clear hfz13_2); (try clear hfz13_3); (try clear hfz13_4); (try clear hfz13_5); (try clear hfz13_6); (try clear hfz15_0); (try clear hfz15_1); (try clear hfz15_2); (try clear hfz15_3); (try clear hfz15_4); (try clear hfz15_5); (try clear hfz15_6); (try clear hfz16_0); (try clear hfz16_1); (try clear hfz16_2); (try clear hfz16_3); (try clear hfz16_4); (try clear hfz16_5); (try clear hfz16_6); (try clear hfz17_0); (try clear hfz17_1); (try clear hfz17_2); (try clear hfz17_3); (try clear hfz17_4); (try clear hfz17_5); (try clear hfz17_6); (try clear hfz18_0); (try clear hfz18_1); (try clear hfz18_2); (try clear hfz18_3); (try clear hfz18_4); (try clear hfz18_5); (try clear hfz18_6); (try clear hfz19_0); (try clear hfz19_1); (try clear hfz19_2); (try clear hfz19_3); (try clear hfz19_4); (try clear hfz19_5); (try clear hfz19_6); (try clear hfz21_0); (try clear hfz21_1); (try clear hfz21_2); (try clear hfz21_3); (try clear hfz21_4); (try clear hfz21_5); (try clear hfz21_6); (try clear p2)
     obtain ⟨x52_2, rfl, HA, HK2, BK569, HB⟩ := hrel
     cases gk with
     | zero => exact absurd HA.out (by simp [impl_ValidAsk.l0])
     | succ k2 =>
      have H := HA.out
      clear HA
      simp only [impl_ValidAsk.l0] at H
      by_cases c22 : x52_2 < (l0_5.length : Int)
      ·rw [if_pos c22] at H
       have c22b0 : decide (x52_2 < (l0_5.length : Int)) = true := decide_eq_true c22
       clear c22
       by_cases c23 : 0 ≤ x52_2
       ·rw [if_pos c23] at H
        have c23b0 : decide (0 ≤ x52_2) = true := decide_eq_true c23
        clear c23
        by_cases c24 : x52_2 < (l0_5.length : Int)
        ·rw [if_pos c24] at H
         have c24b0 : decide (x52_2 < (l0_5.length : Int)) = true := decide_eq_true c24
         clear c24
         by_cases c25 : ((rd_L1 l0_5 x52_2).length : Int) < 1
         ·rw [if_pos c25] at H
          have c25b0 : decide (((rd_L1 l0_5 x52_2).length : Int) < 1) = true := decide_eq_true c25
          have c25b1 : decide ((rd_L1 l0_5 x52_2).length < 1) = true := decide_eq_true (by omega)
          clear c25
          obtain rfl := Option.some.inj H
          have p575 : 0 ≤ (x52_2 : Int) := da_
          have q575 : x52_2 < (l0_5.length : Int) := da_
          obtain ⟨ad575, A575_0, c575_0, e575, hx575_0, hl575_0, hi575_0⟩ := at_L1 HR0_5.out x52_2 p575 q575
          cases e575
          replace hx575_0 := (wc_ HB.out hx575_0 :)
          have HR575_0 := Aside0.mk hi575_0
          have HC575_0 := Aside0.mk hl575_0
          clear hi575_0 hl575_0
          replace p575 := eq_true p575
          replace q575 := eq_true q575
          go_wp2
          go_ret
          exact ⟨by first | rfl | (simp [errW_none, errW_some] <;> rfl) | (simp [*, errW_none, errW_some] <;> rfl), bg_ HB.out GE569.out⟩
         ·rw [if_neg c25] at H
          have c25b0 : decide (((rd_L1 l0_5 x52_2).length : Int) < 1) = false := decide_eq_false c25
          have c25b1 : decide ((rd_L1 l0_5 x52_2).length < 1) = false := decide_eq_false (by omega)
          clear c25
          by_cases c26 : ((rd_L1 l0_5 x52_2).length : Int) > 8
          ·rw [if_pos c26] at H
           have c26b0 : decide (8 < ((rd_L1 l0_5 x52_2).length : Int)) = true := decide_eq_true c26
           have c26b1 : decide (8 < (rd_L1 l0_5 x52_2).length) = true := decide_eq_true (by omega)
           clear c26
           obtain rfl := Option.some.inj H
           have p575 : 0 ≤ (x52_2 : Int) := da_
           have q575 : x52_2 < (l0_5.length : Int) := da_
           obtain ⟨ad575, A575_0, c575_0, e575, hx575_0, hl575_0, hi575_0⟩ := at_L1 HR0_5.out x52_2 p575 q575
           cases e575
           replace hx575_0 := (wc_ HB.out hx575_0 :)
           have HR575_0 := Aside0.mk hi575_0
           have HC575_0 := Aside0.mk hl575_0
           clear hi575_0 hl575_0
           replace p575 := eq_true p575
           replace q575 := eq_true q575
           go_wp2
           go_ret
           exact ⟨by first | rfl | (simp [errW_none, errW_some] <;> rfl) | (simp [*, errW_none, errW_some] <;> rfl), bg_ HB.out GE569.out⟩
          ·rw [if_neg c26] at H
           have c26b0 : decide (8 < ((rd_L1 l0_5 x52_2).length : Int)) = false := decide_eq_false c26
           have c26b1 : decide (8 < (rd_L1 l0_5 x52_2).length) = false := decide_eq_false (by omega)
           clear c26
           replace H := Option.bind_eq_some_iff.mp H
           obtain ⟨t576, A270, H⟩ := H
           replace H : (if t576 = true then (impl_ValidAsk.l0 k2 l0_5 (l0_5.length : Int) (wrap64 (x52_2 + 1))) else (some false)) = some r := H
           have A27 := Aside0.mk A270
           clear A270
           by_cases c28 : t576 = true
           ·subst c28
            have H1 : (impl_ValidAsk.l0 k2 l0_5 (l0_5.length : Int) (wrap64 (x52_2 + 1))) = some r := by rw [if_pos rfl] at H; exact H
            clear H
            have H := H1
            clear H1
            have H' := Aside0.mk H
            clear H
            have p575 : 0 ≤ (x52_2 : Int) := da_
            have q575 : x52_2 < (l0_5.length : Int) := da_
            obtain ⟨ad575, A575_0, c575_0, e575, hx575_0, hl575_0, hi575_0⟩ := at_L1 HR0_5.out x52_2 p575 q575
            cases e575
            replace hx575_0 := (wc_ HB.out hx575_0 :)
            have HR575_0 := Aside0.mk hi575_0
            have HC575_0 := Aside0.mk hl575_0
            clear hi575_0 hl575_0
            replace p575 := eq_true p575
            replace q575 := eq_true q575
            go_wp2_with (first | (go_at_call 79; (with_reducible refine (impl_pitchesOk.calls _ _ (rd_L1 l0_5 x52_2) true _ ?side1 ?side2 A27.out).mono ?_); (case side1 => exact (Kd.C_below HR575_0.out HB.out)); (case side2 => exact HC575_0.out); rintro e w29 ⟨rfl, hb⟩; have n0_ := Aside0.mk (blk_below (g := gb569) (o := .cells #[.int .i64 a0_0, .int .i64 a0_1, .int .i64 a0_2, .int .i64 a0_3, .int .i64 a0_4, .slice (some ad575) l0_5.length c0_5, .int .i64 a0_6] 62 (0, 0)) (by repeat first | exact BK569.out | refine blk_drewN ?_ _ | refine blk_drew ?_ | refine blk_alloc ?_ _) hb); have n1_ := Aside0.mk (below_step (bg_ HB.out GE569.out) hb); clear BK569; clear HB; have BK569 := n0_; have HB := n1_; clear n0_ n1_; (try clear hb); (try clear hb2); (try clear hk); (try clear hi)))
            go_roundg k2
            case measure => have := HJ1.out; have := HK2.out; omega
            case rel => exact ⟨(wrap64 (x52_2 + 1)), sv_, H', ⟨by have := HJ1.out; have := HK2.out; omega⟩, ⟨by (with_reducible repeat (first | refine blk_drewN ?_ _ | refine blk_drew ?_ | refine blk_alloc ?_ _)); exact BK569.out⟩, ⟨bg_ HB.out GE569.out⟩⟩
           ·replace c28 := Bool.eq_false_iff.mpr c28
            subst c28
            have H1 : (some false) = some r := by rw [if_neg (show ¬ (false = true) by decide)] at H; exact H
            clear H
            have H := H1
            clear H1
            obtain rfl := Option.some.inj H
            have p575 : 0 ≤ (x52_2 : Int) := da_
            have q575 : x52_2 < (l0_5.length : Int) := da_
            obtain ⟨ad575, A575_0, c575_0, e575, hx575_0, hl575_0, hi575_0⟩ := at_L1 HR0_5.out x52_2 p575 q575
            cases e575
            replace hx575_0 := (wc_ HB.out hx575_0 :)
            have HR575_0 := Aside0.mk hi575_0
            have HC575_0 := Aside0.mk hl575_0
            clear hi575_0 hl575_0
            replace p575 := eq_true p575
            replace q575 := eq_true q575
            go_wp2_with (first | (go_at_call 79; (with_reducible refine (impl_pitchesOk.calls _ _ (rd_L1 l0_5 x52_2) false _ ?side1 ?side2 A27.out).mono ?_); (case side1 => exact (Kd.C_below HR575_0.out HB.out)); (case side2 => exact HC575_0.out); rintro e w30 ⟨rfl, hb⟩; have n0_ := Aside0.mk (blk_below (g := gb569) (o := .cells #[.int .i64 a0_0, .int .i64 a0_1, .int .i64 a0_2, .int .i64 a0_3, .int .i64 a0_4, .slice (some ad575) l0_5.length c0_5, .int .i64 a0_6] 62 (0, 0)) (by repeat first | exact BK569.out | refine blk_drewN ?_ _ | refine blk_drew ?_ | refine blk_alloc ?_ _) hb); have n1_ := Aside0.mk (below_step (bg_ HB.out GE569.out) hb); clear BK569; clear HB; have BK569 := n0_; have HB := n1_; clear n0_ n1_; (try clear hb); (try clear hb2); (try clear hk); (try clear hi)))
            go_ret
            exact ⟨by first | rfl | (simp [errW_none, errW_some] <;> rfl) | (simp [*, errW_none, errW_some] <;> rfl), bg_ HB.out GE569.out⟩
        ·rw [if_neg c24] at H
         exact absurd H (by simp)
       ·rw [if_neg c23] at H
        exact absurd H (by simp)
      ·rw [if_neg c22] at H
       have c22b0 : decide (x52_2 < (l0_5.length : Int)) = false := decide_eq_false c22
       clear c22
       obtain rfl := Option.some.inj H
       go_wp2
       go_ret
       exact ⟨by first | rfl | (simp [errW_none, errW_some] <;> rfl) | (simp [*, errW_none, errW_some] <;> rfl), bg_ HB.out GE569.out⟩
end Go.Proofs.Ytinlejhffokbaaa.P
end
