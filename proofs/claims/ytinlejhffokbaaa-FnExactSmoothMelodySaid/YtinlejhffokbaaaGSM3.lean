/- Texts of this seat, merged: QImplRagaFirstwrong, QSlicesEqualInt64Int64, QImplOccurrences, QImplSatisfies1, QImplSatisfiesAny. -/
import Derived.Test.YtinlejhffokbaaaGSM1
import Derived.Test.YtinlejhffokbaaaGSM2
section
namespace Go.Proofs.Ytinlejhffokbaaa.P
open Go.RowKit Go.Proofs.YtinlejhffokbaaaW.PrintWords Go.Proofs.YtinlejhffokbaaaW.PrintLast Go.Proofs.YtinlejhffokbaaaW.PrintMore
attribute [local go_sem] max2_int min2_int max_two min_two max_three min_three max_four min_four
set_option linter.unusedVariables false
set_option linter.unusedSimpArgs false
set_option maxHeartbeats 16000000
set_option maxRecDepth 100000
def impl_Raga_firstWrong.K0 : Array Bool := (bm 10 0)
def impl_Raga_firstWrong.K1 : Array Bool := (bm 10 1)
def impl_Raga_firstWrong.K2 : Array Bool := (bm 10 3)
def impl_Raga_firstWrong.K3 : Array Bool := (bm 10 7)
def impl_Raga_firstWrong.K4 : Array Bool := (bm 10 23)
def impl_Raga_firstWrong.K5 : Array Bool := (bm 10 31)
def impl_Raga_firstWrong.K6 : Array Bool := (bm 10 63)
def impl_Raga_firstWrong.K7 : Array Bool := (bm 10 127)
def impl_Raga_firstWrong.K8 : Array Bool := (bm 10 255)
def impl_Raga_firstWrong.K9 : Array Bool := (bm 10 511)
def impl_Raga_firstWrong.K10 : Array Bool := (bm 10 1023)
def impl_Raga_firstWrong.K11 : Array Bool := (bm 10 15)
def impl_Raga_firstWrong.K12 : Array Bool := (bm 14 0)
def impl_Raga_firstWrong.K13 : Array Bool := (bm 14 1)
def impl_Raga_firstWrong.K14 : Array Bool := (bm 14 3)
def impl_Raga_firstWrong.K15 : Array Bool := (bm 14 7)
def impl_Raga_firstWrong.K16 : Array Bool := (bm 14 23)
def impl_Raga_firstWrong.K17 : Array Bool := (bm 14 55)
def impl_Raga_firstWrong.K18 : Array Bool := (bm 14 119)
def impl_Raga_firstWrong.K19 : Array Bool := (bm 14 247)
def impl_Raga_firstWrong.K20 : Array Bool := (bm 14 759)
def impl_Raga_firstWrong.K21 : Array Bool := (bm 14 767)
def impl_Raga_firstWrong.K22 : Array Bool := (bm 14 1023)
def impl_Raga_firstWrong.K23 : Array Bool := (bm 14 2047)
def impl_Raga_firstWrong.K24 : Array Bool := (bm 14 4095)
def impl_Raga_firstWrong.K25 : Array Bool := (bm 14 8191)
def impl_Raga_firstWrong.K26 : Array Bool := (bm 14 16383)
def impl_Raga_firstWrong.K27 : Array Bool := (bm 11 0)
def impl_Raga_firstWrong.K28 : Array Bool := (bm 11 1)
def impl_Raga_firstWrong.K29 : Array Bool := (bm 11 5)
def impl_Raga_firstWrong.K30 : Array Bool := (bm 11 13)
def impl_Raga_firstWrong.K31 : Array Bool := (bm 11 29)
def impl_Raga_firstWrong.K32 : Array Bool := (bm 11 61)
def impl_Raga_firstWrong.K33 : Array Bool := (bm 11 189)
def impl_Raga_firstWrong.K34 : Array Bool := (bm 11 191)
def impl_Raga_firstWrong.K35 : Array Bool := (bm 11 255)
def impl_Raga_firstWrong.K36 : Array Bool := (bm 11 511)
def impl_Raga_firstWrong.K37 : Array Bool := (bm 11 1023)
def impl_Raga_firstWrong.K38 : Array Bool := (bm 11 2047)
def impl_Raga_firstWrong.K39 : Array Bool := (bm 14 15)
def impl_Raga_firstWrong.K40 : Array Bool := (bm 14 31)
def impl_Raga_firstWrong.K41 : Array Bool := (bm 14 63)
def impl_Raga_firstWrong.K42 : Array Bool := (bm 14 127)
def impl_Raga_firstWrong.K43 : Array Bool := (bm 14 255)
def impl_Raga_firstWrong.K44 : Array Bool := (bm 14 511)
mutual
def impl_Raga_firstWrong.l0 : Nat → List Int → List Int → Int → Int → ByteArray → List Int → List Int → Int → Int → List (List Int) → Option (Int × Int)
 | 0, _, _, _, _, _, _, _, _, _, _ => none
 | k + 1, x1, x8, x9, x10, x578000, x578001, x578002, x578003, x578004, x578005 => if x10 < x9 then (if 0 ≤ x10 then (if x10 < (x8.length : Int) then (if x10 = 0 then ((impl_ToneOf.f (rd x8 x10)).bind fun t579 => ((impl_Raga_hasTone.f k x578000 x578001 x578002 x578003 x578004 x578005 t579).bind fun t580 => (impl_Raga_firstWrong.j1 k x1 x10 (rd x8 x10) x8 x9 x10 (!t580) x578000 x578001 x578002 x578003 x578004 x578005))) else (impl_Raga_firstWrong.j1 k x1 x10 (rd x8 x10) x8 x9 x10 false x578000 x578001 x578002 x578003 x578004 x578005)) else (none)) else (none)) else (some (0, 0))
def impl_Raga_firstWrong.j1 : Nat → List Int → Int → Int → List Int → Int → Int → Bool → ByteArray → List Int → List Int → Int → Int → List (List Int) → Option (Int × Int)
 | 0, _, _, _, _, _, _, _, _, _, _, _, _, _ => none
 | k + 1, x1, x6, x7, x8, x9, x10, x15, x578000, x578001, x578002, x578003, x578004, x578005 => if x15 = true then (some (0, 1)) else (if x6 > 0 then (if 0 ≤ (wrap64 (x6 - 1)) then (if (wrap64 (x6 - 1)) < (x1.length : Int) then ((impl_Raga_reason.f k x578000 x578001 x578002 x578003 x578004 x578005 (rd x1 (wrap64 (x6 - 1))) x7).bind fun t582 => (if t582 = 0 then (impl_Raga_firstWrong.l0 k x1 x8 x9 (wrap64 (x10 + 1)) x578000 x578001 x578002 x578003 x578004 x578005) else ((impl_Raga_reason.f k x578000 x578001 x578002 x578003 x578004 x578005 (rd x1 (wrap64 (x6 - 1))) x7).bind fun t584 => (some (x6, t584))))) else (none)) else (none)) else (impl_Raga_firstWrong.l0 k x1 x8 x9 (wrap64 (x10 + 1)) x578000 x578001 x578002 x578003 x578004 x578005))
end
def impl_Raga_firstWrong.f (k : Nat) (a0_0 : ByteArray) (l0_1 : List Int) (l0_2 : List Int) (a0_3 : Int) (a0_4 : Int) (l0_5 : List (List Int)) (l1 : List Int) : Option (Int × Int) := impl_Raga_firstWrong.l0 k l1 l1 (l1.length : Int) 0 a0_0 l0_1 l0_2 a0_3 a0_4 l0_5
def impl_Raga_firstWrong.T4 : Bool × List (List Nat × List Nat) := (true, [([], []), ([0], [0]), ([1], [1]), ([2], [2]), ([2], [2]), ([4, 2, 2], [2, 4]), ([3, 5, 5, 2], [2, 3, 5]), ([6, 2], [2, 6]), ([2, 7], [2, 7]), ([8, 6], [8])])
def impl_Raga_firstWrong.B4 : List Nat := [0, 1, 3, 7, 7, 23, 63, 127, 255, 511]
theorem impl_Raga_firstWrong.tab4 : rtab .any (opsOf Try.f109 4) = impl_Raga_firstWrong.T4 := by kernel_rfl
theorem impl_Raga_firstWrong.bits4 : waitsOk impl_Raga_firstWrong.T4.2 impl_Raga_firstWrong.B4 = true := by kernel_rfl
def impl_Raga_firstWrong.T6 : Bool × List (List Nat × List Nat) := (true, [([], []), ([0], [0]), ([1], [1]), ([2], [2]), ([2], [2]), ([2], [2]), ([5, 2], [2, 5]), ([4, 6, 2], [2, 4, 6]), ([7, 2], [2, 7]), ([2], [2]), ([3, 8, 9, 2, 2], [2, 3, 8, 9]), ([10, 2], [2, 10]), ([2, 11], [2, 11]), ([12, 10], [12])])
def impl_Raga_firstWrong.B6 : List Nat := [0, 1, 3, 7, 7, 7, 39, 119, 247, 7, 1023, 2047, 4095, 8191]
theorem impl_Raga_firstWrong.tab6 : rtab .any (opsOf Try.f109 6) = impl_Raga_firstWrong.T6 := by kernel_rfl
theorem impl_Raga_firstWrong.bits6 : waitsOk impl_Raga_firstWrong.T6.2 impl_Raga_firstWrong.B6 = true := by kernel_rfl
def impl_Raga_firstWrong.T7 : Bool × List (List Nat × List Nat) := (true, [([], []), ([], []), ([], []), ([], []), ([3], [3]), ([2, 4], [2, 4]), ([5], [5]), ([], []), ([1, 6, 7], [1, 6, 7]), ([0, 8, 0], [0]), ([8, 9, 0, 1, 2, 3, 4, 5, 6, 7, 8, 9], [8])])
def impl_Raga_firstWrong.B7 : List Nat := [0, 0, 0, 0, 8, 28, 60, 0, 254, 511, 1023]
theorem impl_Raga_firstWrong.tab7 : rtab .any (opsOf Try.f109 7) = impl_Raga_firstWrong.T7 := by kernel_rfl
theorem impl_Raga_firstWrong.bits7 : waitsOk impl_Raga_firstWrong.T7.2 impl_Raga_firstWrong.B7 = true := by kernel_rfl
theorem impl_Raga_firstWrong.calls (k : Nat) (a0_0 : ByteArray) (A0_1 : Option Addr) (c0_1 : Nat) (l0_1 : List Int) (A0_2 : Option Addr) (c0_2 : Nat) (l0_2 : List Int) (a0_3 : Int) (a0_4 : Int) (A0_5 : Option Addr) (c0_5 : Nat) (l0_5 : List (List Int)) (A1 : Option Addr) (c1 : Nat) (l1 : List Int) (r1 : Int) (r2 : Int) (w : World) (hr0_1 : Kd.C (Kd.int .i64) w A0_1 l0_1.length l0_1) (hc0_1 : l0_1.length ≤ c0_1) (hr0_2 : Kd.C (Kd.int .i64) w A0_2 l0_2.length l0_2) (hc0_2 : l0_2.length ≤ c0_2) (hr0_5 : Kd.C (Kd.slice 2 (Kd.int .i64)) w A0_5 l0_5.length l0_5) (hc0_5 : l0_5.length ≤ c0_5) (hr1 : Kd.C (Kd.int .i64) w A1 l1.length l1) (hc1 : l1.length ≤ c1) (h : impl_Raga_firstWrong.f k a0_0 l0_1 l0_2 a0_3 a0_4 l0_5 l1 = some (r1, r2)) :
  Calls Try.prog 109 #[.agg #[.string a0_0, .slice A0_1 l0_1.length c0_1, .slice A0_2 l0_2.length c0_2, .int .i64 a0_3, .int .i64 a0_4, .slice A0_5 l0_5.length c0_5], .slice A1 l1.length c1] w fun e w' => e = .returned (.tuple #[.int .i64 r1, .int .i64 r2]) ∧ Below w.heap.size w w' := by
 have hu29 := Try.underlying29; have HR0_1 := Aside0.mk hr0_1; have HC0_1 := Aside0.mk hc0_1; clear hr0_1 hc0_1; have HR0_2 := Aside0.mk hr0_2; have HC0_2 := Aside0.mk hc0_2; clear hr0_2 hc0_2; have HR0_5 := Aside0.mk hr0_5; have HC0_5 := Aside0.mk hc0_5; clear hr0_5 hc0_5; have HR1 := Aside0.mk hr1; have HC1 := Aside0.mk hc1; clear hr1 hc1; have HB := Aside0.mk (Below.refl w.heap.size w); have H : (impl_Raga_firstWrong.l0 k l1 l1 (l1.length : Int) 0 a0_0 l0_1 l0_2 a0_3 a0_4 l0_5) = some (r1, r2) := h; clear h; have H' := Aside0.mk H; clear H; go_enter Try.func109, Try.ntmps109; go_wp2_with (first | ((with_reducible refine gate_dst (N := 2) rfl ?_); refine box_event ?hg (N := 2) ?hd (cs := #[.string a0_0, .slice A0_1 l0_1.length c0_1, .slice A0_2 l0_2.length c0_2, .int .i64 a0_3, .int .i64 a0_4, .slice A0_5 l0_5.length c0_5]) (t := 29) ?hr ?_; (case hd => rfl); (case hg => rfl); (case hr => first | (go_simp; done) | (go_simp; rfl)); intro gb577 hg w3 hbox hb; have n0_ := Aside0.mk (below_step (ba_ HB.out) hb); have n1_ := Aside0.mk (hbox); have n2_ := Aside0.mk ((by rw [hg]; exact (below_size (ba_ HB.out)) : w.heap.size ≤ gb577)); have n3_ := Aside0.mk ((by rw [hg]; exact (below_size (ba_ HB.out)) : w.heap.size ≤ gb577)); clear HB; have HB := n0_; have BK577 := n1_; have GW577 := n2_; have GE577 := n3_; clear n0_ n1_ n2_ n3_; clear hb hbox hg))
 go_loopg [10] k (fun kq v10 w' => ∃ (x10_1 : Int), v10 = .int .i64 x10_1 ∧ Aside0 (impl_Raga_firstWrong.l0 kq l1 l1 (l1.length : Int) x10_1 a0_0 l0_1 l0_2 a0_3 a0_4 l0_5 = some (r1, r2)) ∧ Aside0 (kq ≤ k) ∧ Aside0 (w'.heap[gb577]? = some (.cells #[.string a0_0, (.slice A0_1 l0_1.length c0_1), (.slice A0_2 l0_2.length c0_2), .int .i64 a0_3, .int .i64 a0_4, (.slice A0_5 l0_5.length c0_5)] 29 (0, 0))) ∧ Aside0 (Below w.heap.size w w'))
 case atStart => exact ⟨(0), sv_, H', ⟨Nat.le_refl _⟩, ⟨bk_ BK577.out⟩, ⟨bg_ HB.out GE577.out⟩⟩
 case round =>
  clear H'; (try clear c1); (try clear p2); obtain ⟨x10_1, rfl, HA, HK1, BK577, HB⟩ := hrel
  cases gk with
  | zero => exact absurd HA.out (by simp [impl_Raga_firstWrong.l0])
  | succ k1 =>
   have H := HA.out; clear HA; simp only [impl_Raga_firstWrong.l0] at H
   by_cases c4 : x10_1 < (l1.length : Int)
   ·rw [if_pos c4] at H; have c4b0 : decide (x10_1 < (l1.length : Int)) = true := decide_eq_true c4; clear c4
    by_cases c5 : 0 ≤ x10_1
    ·rw [if_pos c5] at H; have c5b0 : decide (0 ≤ x10_1) = true := decide_eq_true c5; clear c5
     by_cases c6 : x10_1 < (l1.length : Int)
     ·rw [if_pos c6] at H; have c6b0 : decide (x10_1 < (l1.length : Int)) = true := decide_eq_true c6; clear c6; have HC7 := Aside0.mk H; clear H; have p578 : 0 ≤ (x10_1 : Int) := da_; have q578 : x10_1 < (l1.length : Int) := da_; obtain ⟨ad578, e578, hx578_0⟩ := Kd.at_int HR1.out x10_1 p578 q578; cases e578; replace hx578_0 := (wc_ HB.out hx578_0 :); replace p578 := eq_true p578; replace q578 := eq_true q578
      go_upto_region 4 with (fail)
      go_cut [15] (fun v15 wc => ∃ (kq : Nat) (x15_6 : Bool), v15 = .bool x15_6 ∧ Aside0 (impl_Raga_firstWrong.j1 kq l1 x10_1 (rd l1 x10_1) l1 (l1.length : Int) x10_1 x15_6 a0_0 l0_1 l0_2 a0_3 a0_4 l0_5 = some (r1, r2)) ∧ Aside0 (kq ≤ k1) ∧ Aside0 (wc.heap[gb577]? = some (.cells #[.string a0_0, (.slice A0_1 l0_1.length c0_1), (.slice A0_2 l0_2.length c0_2), .int .i64 a0_3, .int .i64 a0_4, (.slice A0_5 l0_5.length c0_5)] 29 (0, 0))) ∧ Aside0 (Below w.heap.size w wc))
      case first =>
       have H := HC7.out; clear HC7
       by_cases c8 : x10_1 = 0
       ·rw [if_pos c8] at H; have c8b0 : (x10_1 == 0) = true := beq_iff_eq.mpr c8; have c8b1 : (x10_1 != 0) = false := bne_eq_false_iff_eq.mpr c8; clear c8; (first | rw [c8b0] | (simp only [i64_w, i32_w]; rw [c8b0]) | skip); replace H := Option.bind_eq_some_iff.mp H; obtain ⟨t579, A90, H⟩ := H; (try dsimp only at H); have A9 := Aside0.mk A90; clear A90; replace H := Option.bind_eq_some_iff.mp H; obtain ⟨t580, A100, H⟩ := H; (try dsimp only at H); have A10 := Aside0.mk A100; clear A100; have H' := Aside0.mk H; clear H
        try go_wp2
        have n0_ := Aside0.mk (blk_drew BK577.out); have n1_ := Aside0.mk (below_drew1 HB.out); clear BK577; clear HB; have BK577 := n0_; have HB := n1_; clear n0_ n1_; refine start_ (n := 10) (S := fun w' => w'.cell? ⟨gb577, 0, none⟩ = some (.string a0_0) ∧ w'.cell? ⟨gb577, 1, none⟩ = some (.slice A0_1 l0_1.length c0_1) ∧ w'.cell? ⟨gb577, 2, none⟩ = some (.slice A0_2 l0_2.length c0_2) ∧ w'.cell? ⟨gb577, 3, none⟩ = some (.int .i64 a0_3) ∧ w'.cell? ⟨gb577, 4, none⟩ = some (.int .i64 a0_4) ∧ w'.cell? ⟨gb577, 5, none⟩ = some (.slice A0_5 l0_5.length c0_5)) (ds := []) impl_Raga_firstWrong.K0 (by kernel_rfl) rfl rfl ⟨(blk_cell BK577.out 0).trans rfl, (blk_cell BK577.out 1).trans rfl, (blk_cell BK577.out 2).trans rfl, (blk_cell BK577.out 3).trans rfl, (blk_cell BK577.out 4).trans rfl, (blk_cell BK577.out 5).trans rfl⟩ (fun hHeld => ?_); refine with_tabW impl_Raga_firstWrong.tab4 impl_Raga_firstWrong.bits4 (fun HT_ HW_ => ?_); generalize wr.drew = w11 at BK577 HB hHeld ⊢; refine pu_ HT_ 0 16 impl_Raga_firstWrong.K1 ?_; refine pu_ HT_ 1 17 impl_Raga_firstWrong.K2 ?_; refine pu_ HT_ 2 18 impl_Raga_firstWrong.K3 ?_; refine pu_ HT_ 4 20 impl_Raga_firstWrong.K4 ?_; refine tk_ HT_ HW_ hHeld 3 19 impl_Raga_firstWrong.K5 ?_; refine one_ (i := 5) (N := some 21) impl_Raga_firstWrong.K6 rfl rfl (one_of HT_.out (by kernel_rfl)) (by decide) (fun K hK => ?_); refine goes_ Try.func70 (by kernel_rfl) rfl #[.int .i64 (rd l1 x10_1)] (by rfl) rfl rfl av_ ?_
        (with_reducible refine (impl_ToneOf.calls (rd l1 x10_1) t579 _ A9.out).mono ?_)
        rintro e w' ⟨rfl, ⟨nd, rfl⟩⟩; refine ⟨_, rfl, ?_⟩; refine hK.out _ _ ⟨(blk_cell BK577.out 0).trans rfl, (blk_cell BK577.out 1).trans rfl, (blk_cell BK577.out 2).trans rfl, (blk_cell BK577.out 3).trans rfl, (blk_cell BK577.out 4).trans rfl, (blk_cell BK577.out 5).trans rfl⟩ (fun hHeld => ?_); clear hK K; refine norm_ (a' := ?_) ?_ ?_; rotate_left
        ·show Act.put _ (some 21) _ = _
         go_simp; rfl
        refine one_ (i := 6) (N := some 22) impl_Raga_firstWrong.K7 rfl rfl (one_of HT_.out (by kernel_rfl)) (by decide) (fun K hK => ?_); refine goes_ Try.func69 (by kernel_rfl) rfl #[.agg #[.string a0_0, .slice A0_1 l0_1.length c0_1, .slice A0_2 l0_2.length c0_2, .int .i64 a0_3, .int .i64 a0_4, .slice A0_5 l0_5.length c0_5], .int .i64 t579] (by rfl) rfl rfl av_ ?_
        (with_reducible refine (impl_Raga_hasTone.calls k1 a0_0 _ _ l0_1 _ _ l0_2 a0_3 a0_4 _ _ l0_5 t579 t580 _ ?side1 ?side2 ?side3 ?side4 ?side5 ?side6 A10.out).mono ?_)
        (case side1 => repeat (first | exact (Kd.C_below HR0_1.out (bg_ HB.out GE577.out)) | (with_reducible refine Kd.C_alloc ?_ _) | (with_reducible refine Kd.C_drewN ?_ _) | (with_reducible refine Kd.C_drew ?_))); (case side2 => exact HC0_1.out); (case side3 => repeat (first | exact (Kd.C_below HR0_2.out (bg_ HB.out GE577.out)) | (with_reducible refine Kd.C_alloc ?_ _) | (with_reducible refine Kd.C_drewN ?_ _) | (with_reducible refine Kd.C_drew ?_))); (case side4 => exact HC0_2.out); (case side5 => repeat (first | exact (Kd.C_below HR0_5.out (bg_ HB.out GE577.out)) | (with_reducible refine Kd.C_alloc ?_ _) | (with_reducible refine Kd.C_drewN ?_ _) | (with_reducible refine Kd.C_drew ?_))); (case side6 => exact HC0_5.out); rintro e w12 ⟨rfl, hb⟩; refine ⟨_, rfl, ?_⟩; have n0_ := Aside0.mk (blk_below (g := gb577) (o := .cells #[.string a0_0, .slice A0_1 l0_1.length c0_1, .slice A0_2 l0_2.length c0_2, .int .i64 a0_3, .int .i64 a0_4, .slice A0_5 l0_5.length c0_5] 29 (0, 0)) (by repeat first | exact BK577.out | refine blk_drewN ?_ _ | refine blk_drew ?_ | refine blk_alloc ?_ _) hb); have n1_ := Aside0.mk (below_step (bg_ HB.out GE577.out) hb); clear BK577; clear HB; have BK577 := n0_; have HB := n1_; clear n0_ n1_; (try clear hb); (try clear hb2); (try clear hk); (try clear hi); refine hK.out _ _ ⟨(blk_cell BK577.out 0).trans rfl, (blk_cell BK577.out 1).trans rfl, (blk_cell BK577.out 2).trans rfl, (blk_cell BK577.out 3).trans rfl, (blk_cell BK577.out 4).trans rfl, (blk_cell BK577.out 5).trans rfl⟩ (fun hHeld => ?_); clear hK K; refine norm_ (a' := ?_) ?_ ?_; rotate_left
        ·show Act.put _ (some 22) _ = _
         go_simp; rfl
        refine pu_ HT_ 7 23 impl_Raga_firstWrong.K8 ?_; refine pu_ HT_ 8 24 impl_Raga_firstWrong.K9 ?_; refine pu_ HT_ 9 15 impl_Raga_firstWrong.K10 ?_; refine done_ (done_of HT_.out (by kernel_rfl)) ?_
        try go_wp2
        go_meet
        case rel => exact ⟨_, (!t580), sv_, H', ⟨by have := HK1.out; first | omega | exact Nat.le_refl _⟩, ⟨bk_ BK577.out⟩, ⟨bg_ HB.out GE577.out⟩⟩
       ·rw [if_neg c8] at H; have c8b0 : (x10_1 == 0) = false := beq_eq_false_iff_ne.mpr c8; have c8b1 : (x10_1 != 0) = true := bne_iff_ne.mpr c8; (first | rw [c8b0] | (simp only [i64_w, i32_w]; rw [c8b0]) | skip); have H' := Aside0.mk H; clear H
        try go_wp2
        have n0_ := Aside0.mk (blk_drew BK577.out); have n1_ := Aside0.mk (below_drew1 HB.out); clear BK577; clear HB; have BK577 := n0_; have HB := n1_; clear n0_ n1_; refine start_ (n := 10) (S := fun w' => True) (ds := []) impl_Raga_firstWrong.K0 (by kernel_rfl) rfl rfl trivial (fun hHeld => ?_); refine with_tabW impl_Raga_firstWrong.tab4 impl_Raga_firstWrong.bits4 (fun HT_ HW_ => ?_); generalize wr.drew = w13 at BK577 HB hHeld ⊢; refine pu_ HT_ 0 16 impl_Raga_firstWrong.K1 ?_; refine pu_ HT_ 1 17 impl_Raga_firstWrong.K2 ?_; refine pu_ HT_ 2 18 impl_Raga_firstWrong.K3 ?_; refine un_ HT_ 3 19 impl_Raga_firstWrong.K11 ?_; refine un_ HT_ 4 20 impl_Raga_firstWrong.K5 ?_; refine un_ HT_ 5 21 impl_Raga_firstWrong.K6 ?_; refine un_ HT_ 6 22 impl_Raga_firstWrong.K7 ?_; refine un_ HT_ 7 23 impl_Raga_firstWrong.K8 ?_; refine pu_ HT_ 8 24 impl_Raga_firstWrong.K9 ?_; refine pu_ HT_ 9 15 impl_Raga_firstWrong.K10 ?_; refine done_ (done_of HT_.out (by kernel_rfl)) ?_
        try go_wp2
        go_meet
        case rel => exact ⟨_, (false), sv_, H', ⟨by have := HK1.out; first | omega | exact Nat.le_refl _⟩, ⟨bk_ BK577.out⟩, ⟨bg_ HB.out GE577.out⟩⟩
      case rest =>
       clear HC7; (try clear c1); (try clear p2); (try clear c4); (try clear c4b0); (try clear c5); (try clear c5b0); (try clear p5); (try clear q5); (try clear hx5); (try clear c6); (try clear c6b0); (try clear c7); (try clear c8); (try clear c8b0); (try clear c8b1); (try clear c10); (try clear hx578_0); (try clear p2); (try clear p578); (try clear q578); obtain ⟨kq, x15_6, rfl, HA, HJ6, BK577, HB⟩ := hcut
       cases kq with
       | zero => exact absurd HA.out (by simp [impl_Raga_firstWrong.j1])
       | succ kj6 =>
        have H := HA.out; clear HA; simp only [impl_Raga_firstWrong.j1] at H
        by_cases c14 : x15_6 = true
        ·subst c14; rw [if_pos rfl] at H; simp only [Option.some.injEq, Prod.mk.injEq] at H; obtain ⟨rfl, rfl⟩ := H; go_wp2
         go_ret2
         exact ⟨by first | rfl | (simp [errW_none, errW_some] <;> rfl) | (simp [*, errW_none, errW_some] <;> rfl), bg_ HB.out GE577.out⟩
        ·replace c14 := Bool.eq_false_iff.mpr c14; subst c14; rw [if_neg (show ¬ (false = true) by decide)] at H
         by_cases c15 : x10_1 > 0
         ·rw [if_pos c15] at H; have c15b0 : decide (0 < x10_1) = true := decide_eq_true c15; clear c15; obtain ⟨ji16, hji16⟩ : ∃ j_ : Int, (wrap64 (x10_1 - 1)) = j_ := ⟨_, rfl⟩
          replace H : (if 0 ≤ (ji16) then (if (ji16) < (l1.length : Int) then ((impl_Raga_reason.f kj6 a0_0 l0_1 l0_2 a0_3 a0_4 l0_5 (rd l1 (ji16)) (rd l1 x10_1)).bind fun t582 => (if t582 = 0 then (impl_Raga_firstWrong.l0 kj6 l1 l1 (l1.length : Int) (wrap64 (x10_1 + 1)) a0_0 l0_1 l0_2 a0_3 a0_4 l0_5) else ((impl_Raga_reason.f kj6 a0_0 l0_1 l0_2 a0_3 a0_4 l0_5 (rd l1 (ji16)) (rd l1 x10_1)).bind fun t584 => (some (x10_1, t584))))) else (none)) else (none)) = some (r1, r2) := by first | (rw [hji16] at H; exact H) | (simp only [hji16] at H ⊢; exact H)
          have hji16w : (IntKind.i64.wrap (x10_1 - 1)) = ji16 := (i64_w _).trans hji16
          by_cases c17 : 0 ≤ (ji16)
          ·rw [if_pos c17] at H; have c17b0 : decide (0 ≤ (ji16)) = true := decide_eq_true c17; clear c17
           by_cases c18 : (ji16) < (l1.length : Int)
           ·rw [if_pos c18] at H; have c18b0 : decide ((ji16) < (l1.length : Int)) = true := decide_eq_true c18; clear c18; replace H := Option.bind_eq_some_iff.mp H; obtain ⟨t582, A190, H⟩ := H; (try dsimp only at H); have A19 := Aside0.mk A190; clear A190
            by_cases c20 : t582 = 0
            ·rw [if_pos c20] at H; have c20b0 : (t582 == 0) = true := beq_iff_eq.mpr c20; have c20b1 : (t582 != 0) = false := bne_eq_false_iff_eq.mpr c20; clear c20; have H' := Aside0.mk H; clear H
             try go_wp2
             have n0_ := Aside0.mk (blk_drew BK577.out); have n1_ := Aside0.mk (below_drew1 HB.out); clear BK577; clear HB; have BK577 := n0_; have HB := n1_; clear n0_ n1_; have p581 : 0 ≤ ((ji16) : Int) := da_; have q581 : (ji16) < (l1.length : Int) := da_; obtain ⟨ad581, e581, hx581_0⟩ := Kd.at_int HR1.out (ji16) p581 q581; have hw581_0 := hx581_0; obtain rfl : ad578 = ad581 := (by injection e581); replace hx581_0 := (wc_ HB.out hx581_0 :); replace p581 := eq_true p581; replace q581 := eq_true q581; refine start_ (n := 14) (S := fun w' => w'.cell? ⟨gb577, 0, none⟩ = some (.string a0_0) ∧ w'.cell? ⟨gb577, 1, none⟩ = some (.slice A0_1 l0_1.length c0_1) ∧ w'.cell? ⟨gb577, 2, none⟩ = some (.slice A0_2 l0_2.length c0_2) ∧ w'.cell? ⟨gb577, 3, none⟩ = some (.int .i64 a0_3) ∧ w'.cell? ⟨gb577, 4, none⟩ = some (.int .i64 a0_4) ∧ w'.cell? ⟨gb577, 5, none⟩ = some (.slice A0_5 l0_5.length c0_5) ∧ w'.cell? (ad578.add ((ji16)).toNat) = some (.int .i64 (rd l1 (ji16)))) (ds := []) impl_Raga_firstWrong.K12 (by kernel_rfl) rfl rfl ⟨(blk_cell BK577.out 0).trans rfl, (blk_cell BK577.out 1).trans rfl, (blk_cell BK577.out 2).trans rfl, (blk_cell BK577.out 3).trans rfl, (blk_cell BK577.out 4).trans rfl, (blk_cell BK577.out 5).trans rfl, (wc_ HB.out hw581_0 :)⟩ (fun hHeld => ?_); refine with_tabW impl_Raga_firstWrong.tab6 impl_Raga_firstWrong.bits6 (fun HT_ HW_ => ?_); generalize wc.drew = w21 at BK577 HB hx581_0 hHeld ⊢; refine pu_ HT_ 0 26 impl_Raga_firstWrong.K13 ?_; refine pu_ HT_ 1 27 impl_Raga_firstWrong.K14 ?_; refine pu_ HT_ 2 28 impl_Raga_firstWrong.K15 ?_; refine pu_ HT_ 4 30 impl_Raga_firstWrong.K16 ?_; refine pu_ HT_ 5 31 impl_Raga_firstWrong.K17 ?_; refine pu_ HT_ 6 32 impl_Raga_firstWrong.K18 ?_; refine pu_ HT_ 7 33 impl_Raga_firstWrong.K19 ?_; refine pu_ HT_ 9 35 impl_Raga_firstWrong.K20 ?_; refine tk_ HT_ HW_ hHeld 3 29 impl_Raga_firstWrong.K21 ?_; refine tk_ HT_ HW_ hHeld 8 34 impl_Raga_firstWrong.K22 ?_; refine one_ (i := 10) (N := some 36) impl_Raga_firstWrong.K23 rfl rfl (one_of HT_.out (by kernel_rfl)) (by decide) (fun K hK => ?_); refine goes_ Try.func120 (by kernel_rfl) rfl #[.agg #[.string a0_0, .slice A0_1 l0_1.length c0_1, .slice A0_2 l0_2.length c0_2, .int .i64 a0_3, .int .i64 a0_4, .slice A0_5 l0_5.length c0_5], .int .i64 (rd l1 (ji16)), .int .i64 (rd l1 x10_1)] (by rfl) rfl rfl (by (try simp only [List.map_toArray, List.map_cons, List.map_nil]); first | done | (simp only [hji16]; rfl) | rfl | (simp only [List.length_drop, List.length_take]; rfl)) ?_
             (with_reducible refine (impl_Raga_reason.calls kj6 a0_0 _ _ l0_1 _ _ l0_2 a0_3 a0_4 _ _ l0_5 (rd l1 (ji16)) (rd l1 x10_1) t582 _ ?side1 ?side2 ?side3 ?side4 ?side5 ?side6 A19.out).mono ?_)
             (case side1 => exact (Kd.C_below HR0_1.out HB.out)); (case side2 => exact HC0_1.out); (case side3 => exact (Kd.C_below HR0_2.out HB.out)); (case side4 => exact HC0_2.out); (case side5 => exact (Kd.C_below HR0_5.out HB.out)); (case side6 => exact HC0_5.out); rintro e w22 ⟨rfl, hb⟩; refine ⟨_, rfl, ?_⟩; have n0_ := Aside0.mk (blk_below (g := gb577) (o := .cells #[.string a0_0, .slice A0_1 l0_1.length c0_1, .slice A0_2 l0_2.length c0_2, .int .i64 a0_3, .int .i64 a0_4, .slice A0_5 l0_5.length c0_5] 29 (0, 0)) (by repeat first | exact BK577.out | refine blk_drewN ?_ _ | refine blk_drew ?_ | refine blk_alloc ?_ _) hb); have n1_ := Aside0.mk (below_step (bg_ HB.out GE577.out) hb); clear BK577; clear HB; have BK577 := n0_; have HB := n1_; clear n0_ n1_; (try clear hb); (try clear hb2); (try clear hk); (try clear hi); refine hK.out _ _ ⟨(blk_cell BK577.out 0).trans rfl, (blk_cell BK577.out 1).trans rfl, (blk_cell BK577.out 2).trans rfl, (blk_cell BK577.out 3).trans rfl, (blk_cell BK577.out 4).trans rfl, (blk_cell BK577.out 5).trans rfl, (wc_ HB.out hw581_0 :)⟩ (fun hHeld => ?_); clear hK K; refine norm_ (a' := ?_) ?_ ?_; rotate_left
             ·show Act.put _ (some 36) _ = _
              go_simp; rfl
             refine pu_ HT_ 11 37 impl_Raga_firstWrong.K24 ?_; refine pu_ HT_ 12 38 impl_Raga_firstWrong.K25 ?_; refine pu_ HT_ 13 25 impl_Raga_firstWrong.K26 ?_; refine done_ (done_of HT_.out (by kernel_rfl)) ?_
             try go_wp2
             go_roundg kj6
             case measure => have := HK1.out; have := HJ6.out; omega
             case rel => exact ⟨(wrap64 (x10_1 + 1)), sv_, H', ⟨by have := HK1.out; have := HJ6.out; omega⟩, ⟨bk_ BK577.out⟩, ⟨bg_ HB.out GE577.out⟩⟩
            ·rw [if_neg c20] at H; have c20b0 : (t582 == 0) = false := beq_eq_false_iff_ne.mpr c20; have c20b1 : (t582 != 0) = true := bne_iff_ne.mpr c20; replace H := Option.bind_eq_some_iff.mp H; obtain ⟨t584, A230, H⟩ := H; (try dsimp only at H); have A23 := Aside0.mk A230; clear A230; simp only [Option.some.injEq, Prod.mk.injEq] at H; obtain ⟨rfl, rfl⟩ := H
             try go_wp2
             have n0_ := Aside0.mk (blk_drew BK577.out); have n1_ := Aside0.mk (below_drew1 HB.out); clear BK577; clear HB; have BK577 := n0_; have HB := n1_; clear n0_ n1_; have p581 : 0 ≤ ((ji16) : Int) := da_; have q581 : (ji16) < (l1.length : Int) := da_; obtain ⟨ad581, e581, hx581_0⟩ := Kd.at_int HR1.out (ji16) p581 q581; have hw581_0 := hx581_0; obtain rfl : ad578 = ad581 := (by injection e581); replace hx581_0 := (wc_ HB.out hx581_0 :); replace p581 := eq_true p581; replace q581 := eq_true q581; refine start_ (n := 14) (S := fun w' => w'.cell? ⟨gb577, 0, none⟩ = some (.string a0_0) ∧ w'.cell? ⟨gb577, 1, none⟩ = some (.slice A0_1 l0_1.length c0_1) ∧ w'.cell? ⟨gb577, 2, none⟩ = some (.slice A0_2 l0_2.length c0_2) ∧ w'.cell? ⟨gb577, 3, none⟩ = some (.int .i64 a0_3) ∧ w'.cell? ⟨gb577, 4, none⟩ = some (.int .i64 a0_4) ∧ w'.cell? ⟨gb577, 5, none⟩ = some (.slice A0_5 l0_5.length c0_5) ∧ w'.cell? (ad578.add ((ji16)).toNat) = some (.int .i64 (rd l1 (ji16)))) (ds := []) impl_Raga_firstWrong.K12 (by kernel_rfl) rfl rfl ⟨(blk_cell BK577.out 0).trans rfl, (blk_cell BK577.out 1).trans rfl, (blk_cell BK577.out 2).trans rfl, (blk_cell BK577.out 3).trans rfl, (blk_cell BK577.out 4).trans rfl, (blk_cell BK577.out 5).trans rfl, (wc_ HB.out hw581_0 :)⟩ (fun hHeld => ?_); refine with_tabW impl_Raga_firstWrong.tab6 impl_Raga_firstWrong.bits6 (fun HT_ HW_ => ?_); generalize wc.drew = w24 at BK577 HB hx581_0 hHeld ⊢; refine pu_ HT_ 0 26 impl_Raga_firstWrong.K13 ?_; refine pu_ HT_ 1 27 impl_Raga_firstWrong.K14 ?_; refine pu_ HT_ 2 28 impl_Raga_firstWrong.K15 ?_; refine pu_ HT_ 4 30 impl_Raga_firstWrong.K16 ?_; refine pu_ HT_ 5 31 impl_Raga_firstWrong.K17 ?_; refine pu_ HT_ 6 32 impl_Raga_firstWrong.K18 ?_; refine pu_ HT_ 7 33 impl_Raga_firstWrong.K19 ?_; refine pu_ HT_ 9 35 impl_Raga_firstWrong.K20 ?_; refine tk_ HT_ HW_ hHeld 3 29 impl_Raga_firstWrong.K21 ?_; refine tk_ HT_ HW_ hHeld 8 34 impl_Raga_firstWrong.K22 ?_; refine one_ (i := 10) (N := some 36) impl_Raga_firstWrong.K23 rfl rfl (one_of HT_.out (by kernel_rfl)) (by decide) (fun K hK => ?_); refine goes_ Try.func120 (by kernel_rfl) rfl #[.agg #[.string a0_0, .slice A0_1 l0_1.length c0_1, .slice A0_2 l0_2.length c0_2, .int .i64 a0_3, .int .i64 a0_4, .slice A0_5 l0_5.length c0_5], .int .i64 (rd l1 (ji16)), .int .i64 (rd l1 x10_1)] (by rfl) rfl rfl (by (try simp only [List.map_toArray, List.map_cons, List.map_nil]); first | done | (simp only [hji16]; rfl) | rfl | (simp only [List.length_drop, List.length_take]; rfl)) ?_
             (with_reducible refine (impl_Raga_reason.calls kj6 a0_0 _ _ l0_1 _ _ l0_2 a0_3 a0_4 _ _ l0_5 (rd l1 (ji16)) (rd l1 x10_1) t582 _ ?side1 ?side2 ?side3 ?side4 ?side5 ?side6 A19.out).mono ?_)
             (case side1 => exact (Kd.C_below HR0_1.out HB.out)); (case side2 => exact HC0_1.out); (case side3 => exact (Kd.C_below HR0_2.out HB.out)); (case side4 => exact HC0_2.out); (case side5 => exact (Kd.C_below HR0_5.out HB.out)); (case side6 => exact HC0_5.out); rintro e w25 ⟨rfl, hb⟩; refine ⟨_, rfl, ?_⟩; have n0_ := Aside0.mk (blk_below (g := gb577) (o := .cells #[.string a0_0, .slice A0_1 l0_1.length c0_1, .slice A0_2 l0_2.length c0_2, .int .i64 a0_3, .int .i64 a0_4, .slice A0_5 l0_5.length c0_5] 29 (0, 0)) (by repeat first | exact BK577.out | refine blk_drewN ?_ _ | refine blk_drew ?_ | refine blk_alloc ?_ _) hb); have n1_ := Aside0.mk (below_step (bg_ HB.out GE577.out) hb); clear BK577; clear HB; have BK577 := n0_; have HB := n1_; clear n0_ n1_; (try clear hb); (try clear hb2); (try clear hk); (try clear hi); refine hK.out _ _ ⟨(blk_cell BK577.out 0).trans rfl, (blk_cell BK577.out 1).trans rfl, (blk_cell BK577.out 2).trans rfl, (blk_cell BK577.out 3).trans rfl, (blk_cell BK577.out 4).trans rfl, (blk_cell BK577.out 5).trans rfl, (wc_ HB.out hw581_0 :)⟩ (fun hHeld => ?_); clear hK K; refine norm_ (a' := ?_) ?_ ?_; rotate_left
             ·show Act.put _ (some 36) _ = _
              go_simp; rfl
             refine pu_ HT_ 11 37 impl_Raga_firstWrong.K24 ?_; refine pu_ HT_ 12 38 impl_Raga_firstWrong.K25 ?_; refine pu_ HT_ 13 25 impl_Raga_firstWrong.K26 ?_; refine done_ (done_of HT_.out (by kernel_rfl)) ?_
             try go_wp2
             have n0_ := Aside0.mk (blk_drew BK577.out); have n1_ := Aside0.mk (below_drew1 HB.out); clear BK577; clear HB; have BK577 := n0_; have HB := n1_; clear n0_ n1_; have p583 : 0 ≤ ((ji16) : Int) := da_; have q583 : (ji16) < (l1.length : Int) := da_; obtain ⟨ad583, e583, hx583_0⟩ := Kd.at_int HR1.out (ji16) p583 q583; have hw583_0 := hx583_0; obtain rfl : ad578 = ad583 := (by injection e583); replace hx583_0 := (wc_ HB.out hx583_0 :); replace p583 := eq_true p583; replace q583 := eq_true q583; refine start_ (n := 11) (S := fun w' => w'.cell? ⟨gb577, 0, none⟩ = some (.string a0_0) ∧ w'.cell? ⟨gb577, 1, none⟩ = some (.slice A0_1 l0_1.length c0_1) ∧ w'.cell? ⟨gb577, 2, none⟩ = some (.slice A0_2 l0_2.length c0_2) ∧ w'.cell? ⟨gb577, 3, none⟩ = some (.int .i64 a0_3) ∧ w'.cell? ⟨gb577, 4, none⟩ = some (.int .i64 a0_4) ∧ w'.cell? ⟨gb577, 5, none⟩ = some (.slice A0_5 l0_5.length c0_5) ∧ w'.cell? (ad578.add ((ji16)).toNat) = some (.int .i64 (rd l1 (ji16)))) (ds := []) impl_Raga_firstWrong.K27 (by kernel_rfl) rfl rfl ⟨(blk_cell BK577.out 0).trans rfl, (blk_cell BK577.out 1).trans rfl, (blk_cell BK577.out 2).trans rfl, (blk_cell BK577.out 3).trans rfl, (blk_cell BK577.out 4).trans rfl, (blk_cell BK577.out 5).trans rfl, (wc_ HB.out hw583_0 :)⟩ (fun hHeld => ?_); refine with_tabW impl_Raga_firstWrong.tab7 impl_Raga_firstWrong.bits7 (fun HT_ HW_ => ?_); generalize w25.drew = w26 at BK577 HB hx583_0 hHeld ⊢; refine pu_ HT_ 0 39 impl_Raga_firstWrong.K28 ?_; refine pu_ HT_ 2 41 impl_Raga_firstWrong.K29 ?_; refine pu_ HT_ 3 42 impl_Raga_firstWrong.K30 ?_; refine pu_ HT_ 4 43 impl_Raga_firstWrong.K31 ?_; refine pu_ HT_ 5 44 impl_Raga_firstWrong.K32 ?_; refine pu_ HT_ 7 46 impl_Raga_firstWrong.K33 ?_; refine tk_ HT_ HW_ hHeld 1 40 impl_Raga_firstWrong.K34 ?_; refine tk_ HT_ HW_ hHeld 6 45 impl_Raga_firstWrong.K35 ?_; refine one_ (i := 8) (N := some 47) impl_Raga_firstWrong.K36 rfl rfl (one_of HT_.out (by kernel_rfl)) (by decide) (fun K hK => ?_); refine goes_ Try.func120 (by kernel_rfl) rfl #[.agg #[.string a0_0, .slice A0_1 l0_1.length c0_1, .slice A0_2 l0_2.length c0_2, .int .i64 a0_3, .int .i64 a0_4, .slice A0_5 l0_5.length c0_5], .int .i64 (rd l1 (ji16)), .int .i64 (rd l1 x10_1)] (by rfl) rfl rfl (by (try simp only [List.map_toArray, List.map_cons, List.map_nil]); first | done | (simp only [hji16]; rfl) | rfl | (simp only [List.length_drop, List.length_take]; rfl)) ?_
             (with_reducible refine (impl_Raga_reason.calls kj6 a0_0 _ _ l0_1 _ _ l0_2 a0_3 a0_4 _ _ l0_5 (rd l1 (ji16)) (rd l1 x10_1) t584 _ ?side1 ?side2 ?side3 ?side4 ?side5 ?side6 A23.out).mono ?_)
             (case side1 => exact (Kd.C_below HR0_1.out HB.out)); (case side2 => exact HC0_1.out); (case side3 => exact (Kd.C_below HR0_2.out HB.out)); (case side4 => exact HC0_2.out); (case side5 => exact (Kd.C_below HR0_5.out HB.out)); (case side6 => exact HC0_5.out); rintro e w27 ⟨rfl, hb⟩; refine ⟨_, rfl, ?_⟩; have n0_ := Aside0.mk (blk_below (g := gb577) (o := .cells #[.string a0_0, .slice A0_1 l0_1.length c0_1, .slice A0_2 l0_2.length c0_2, .int .i64 a0_3, .int .i64 a0_4, .slice A0_5 l0_5.length c0_5] 29 (0, 0)) (by repeat first | exact BK577.out | refine blk_drewN ?_ _ | refine blk_drew ?_ | refine blk_alloc ?_ _) hb); have n1_ := Aside0.mk (below_step (bg_ HB.out GE577.out) hb); clear BK577; clear HB; have BK577 := n0_; have HB := n1_; clear n0_ n1_; (try clear hb); (try clear hb2); (try clear hk); (try clear hi); refine hK.out _ _ ⟨(blk_cell BK577.out 0).trans rfl, (blk_cell BK577.out 1).trans rfl, (blk_cell BK577.out 2).trans rfl, (blk_cell BK577.out 3).trans rfl, (blk_cell BK577.out 4).trans rfl, (blk_cell BK577.out 5).trans rfl, (wc_ HB.out hw583_0 :)⟩ (fun hHeld => ?_); clear hK K; refine norm_ (a' := ?_) ?_ ?_; rotate_left
             ·show Act.put _ (some 47) _ = _
              go_simp; rfl
             refine pu_ HT_ 9 4 impl_Raga_firstWrong.K37 ?_; refine pu_ HT_ 10 5 impl_Raga_firstWrong.K38 ?_; refine done_ (done_of HT_.out (by kernel_rfl)) ?_
             try go_wp2
             go_ret2
             exact ⟨by first | rfl | (simp [errW_none, errW_some] <;> rfl) | (simp only [← hji16]; first | rfl | (simp [errW_none, errW_some] <;> rfl)) | (simp [*, errW_none, errW_some] <;> rfl), bg_ HB.out GE577.out⟩
           ·rw [if_neg c18] at H; exact absurd H (by simp)
          ·rw [if_neg c17] at H; exact absurd H (by simp)
         ·rw [if_neg c15] at H; have c15b0 : decide (0 < x10_1) = false := decide_eq_false c15; clear c15; have H' := Aside0.mk H; clear H
          try go_wp2
          have n0_ := Aside0.mk (blk_drew BK577.out); have n1_ := Aside0.mk (below_drew1 HB.out); clear BK577; clear HB; have BK577 := n0_; have HB := n1_; clear n0_ n1_; refine start_ (n := 14) (S := fun w' => True) (ds := []) impl_Raga_firstWrong.K12 (by kernel_rfl) rfl rfl trivial (fun hHeld => ?_); refine with_tabW impl_Raga_firstWrong.tab6 impl_Raga_firstWrong.bits6 (fun HT_ HW_ => ?_); generalize wc.drew = w28 at BK577 HB hHeld ⊢; refine pu_ HT_ 0 26 impl_Raga_firstWrong.K13 ?_; refine pu_ HT_ 1 27 impl_Raga_firstWrong.K14 ?_; refine pu_ HT_ 2 28 impl_Raga_firstWrong.K15 ?_; refine un_ HT_ 3 29 impl_Raga_firstWrong.K39 ?_; refine un_ HT_ 4 30 impl_Raga_firstWrong.K40 ?_; refine un_ HT_ 5 31 impl_Raga_firstWrong.K41 ?_; refine un_ HT_ 6 32 impl_Raga_firstWrong.K42 ?_; refine un_ HT_ 7 33 impl_Raga_firstWrong.K43 ?_; refine un_ HT_ 8 34 impl_Raga_firstWrong.K44 ?_; refine un_ HT_ 9 35 impl_Raga_firstWrong.K22 ?_; refine un_ HT_ 10 36 impl_Raga_firstWrong.K23 ?_; refine un_ HT_ 11 37 impl_Raga_firstWrong.K24 ?_; refine pu_ HT_ 12 38 impl_Raga_firstWrong.K25 ?_; refine pu_ HT_ 13 25 impl_Raga_firstWrong.K26 ?_; refine done_ (done_of HT_.out (by kernel_rfl)) ?_
          try go_wp2
          go_roundg kj6
          case measure => have := HK1.out; have := HJ6.out; omega
          case rel => exact ⟨(wrap64 (x10_1 + 1)), sv_, H', ⟨by have := HK1.out; have := HJ6.out; omega⟩, ⟨bk_ BK577.out⟩, ⟨bg_ HB.out GE577.out⟩⟩
     ·rw [if_neg c6] at H; exact absurd H (by simp)
    ·rw [if_neg c5] at H; exact absurd H (by simp)
   ·rw [if_neg c4] at H; have c4b0 : decide (x10_1 < (l1.length : Int)) = false := decide_eq_false c4; clear c4; simp only [Option.some.injEq, Prod.mk.injEq] at H; obtain ⟨rfl, rfl⟩ := H; go_wp2
    go_ret2
    exact ⟨by first | rfl | (simp [errW_none, errW_some] <;> rfl) | (simp [*, errW_none, errW_some] <;> rfl), bg_ HB.out GE577.out⟩
def slices_Equal_int64_int64.l0 : Nat → List Int → List Int → Int → Int → Option (Bool)
 | 0, _, _, _, _ => none
 | k + 1, x0, x1, x12, x13 => if x13 < x12 then (if 0 ≤ x13 then (if x13 < (x0.length : Int) then (if x13 < (x1.length : Int) then (if (rd x0 x13) = (rd x1 x13) then (slices_Equal_int64_int64.l0 k x0 x1 x12 (wrap64 (x13 + 1))) else (some false)) else (none)) else (none)) else (none)) else (some true)
def slices_Equal_int64_int64.f (k : Nat) (l0 : List Int) (l1 : List Int) : Option (Bool) := if (l0.length : Int) = (l1.length : Int) then (slices_Equal_int64_int64.l0 k l0 l1 (l0.length : Int) 0) else (some false)
theorem slices_Equal_int64_int64.calls (k : Nat) (A0 : Option Addr) (c0 : Nat) (l0 : List Int) (A1 : Option Addr) (c1 : Nat) (l1 : List Int) (r : Bool) (w : World) (hr0 : Kd.C (Kd.int .i64) w A0 l0.length l0) (hc0 : l0.length ≤ c0) (hr1 : Kd.C (Kd.int .i64) w A1 l1.length l1) (hc1 : l1.length ≤ c1) (h : slices_Equal_int64_int64.f k l0 l1 = some r) :
  Calls Try.prog 93 #[.slice A0 l0.length c0, .slice A1 l1.length c1] w fun e w' => e = .returned (.bool r) ∧ Drawn0 w w' := by
 have HR0 := Aside0.mk hr0; have HC0 := Aside0.mk hc0; clear hr0 hc0; have HR1 := Aside0.mk hr1; have HC1 := Aside0.mk hc1; clear hr1 hc1; have H : (if (l0.length : Int) = (l1.length : Int) then (slices_Equal_int64_int64.l0 k l0 l1 (l0.length : Int) 0) else (some false)) = some r := h; clear h
 by_cases c3 : (l0.length : Int) = (l1.length : Int)
 ·rw [if_pos c3] at H; have c3b0 : ((l0.length : Int) == (l1.length : Int)) = true := beq_iff_eq.mpr c3; have c3b1 : ((l0.length : Int) != (l1.length : Int)) = false := bne_eq_false_iff_eq.mpr c3
  have c3b2 : (l0.length == l1.length) = true := by first | simpa using c3 | (simp at c3 ⊢; omega)
  clear c3; have H' := Aside0.mk H; clear H; go_enter Try.func93, Try.ntmps93; go_wp2
  repeat (go_quiet (fail); try go_wp2)
  go_loopg [13] k (fun kq v13 w' => ∃ (x13_1 : Int), v13 = .int .i64 x13_1 ∧ Aside0 (slices_Equal_int64_int64.l0 kq l0 l1 (l0.length : Int) x13_1 = some r) ∧ Aside0 (kq ≤ k) ∧ Drawn0 w w')
  case atStart => exact ⟨(0), sv_, H', ⟨Nat.le_refl _⟩, dr_⟩
  case round =>
   clear H'; (try clear c1); (try clear p2); (try clear c3); (try clear c3b0); (try clear c3b1); (try clear c3b2); obtain ⟨x13_1, rfl, HA, HK1, ⟨m1, rfl⟩⟩ := hrel
   cases gk with
   | zero => exact absurd HA.out (by simp [slices_Equal_int64_int64.l0])
   | succ k1 =>
    have H := HA.out; clear HA; simp only [slices_Equal_int64_int64.l0] at H
    by_cases c4 : x13_1 < (l0.length : Int)
    ·rw [if_pos c4] at H; have c4b0 : decide (x13_1 < (l0.length : Int)) = true := decide_eq_true c4; clear c4
     by_cases c5 : 0 ≤ x13_1
     ·rw [if_pos c5] at H; have c5b0 : decide (0 ≤ x13_1) = true := decide_eq_true c5; clear c5
      by_cases c6 : x13_1 < (l0.length : Int)
      ·rw [if_pos c6] at H; have c6b0 : decide (x13_1 < (l0.length : Int)) = true := decide_eq_true c6; clear c6
       by_cases c7 : x13_1 < (l1.length : Int)
       ·rw [if_pos c7] at H; have c7b0 : decide (x13_1 < (l1.length : Int)) = true := decide_eq_true c7; clear c7
        by_cases c8 : (rd l0 x13_1) = (rd l1 x13_1)
        ·rw [if_pos c8] at H; have c8b0 : ((rd l0 x13_1) == (rd l1 x13_1)) = true := beq_iff_eq.mpr c8; have c8b1 : ((rd l0 x13_1) != (rd l1 x13_1)) = false := bne_eq_false_iff_eq.mpr c8; clear c8; have H' := Aside0.mk H; clear H; have p516 : 0 ≤ (x13_1 : Int) := da_; have q516 : x13_1 < (l0.length : Int) := da_; obtain ⟨ad516, e516, hx516_0⟩ := Kd.at_int HR0.out x13_1 p516 q516; cases e516; replace p516 := eq_true p516; replace q516 := eq_true q516; have p517 : 0 ≤ (x13_1 : Int) := da_; have q517 : x13_1 < (l1.length : Int) := da_; obtain ⟨ad517, e517, hx517_0⟩ := Kd.at_int HR1.out x13_1 p517 q517; cases e517; replace p517 := eq_true p517; replace q517 := eq_true q517; go_wp2
         repeat (go_quiet (fail); try go_wp2)
         go_roundg k1
         case measure => have := HK1.out; omega
         case rel => exact ⟨(wrap64 (x13_1 + 1)), sv_, H', ⟨by have := HK1.out; omega⟩, dr_⟩
        ·rw [if_neg c8] at H; have c8b0 : ((rd l0 x13_1) == (rd l1 x13_1)) = false := beq_eq_false_iff_ne.mpr c8; have c8b1 : ((rd l0 x13_1) != (rd l1 x13_1)) = true := bne_iff_ne.mpr c8; obtain rfl := Option.some.inj H; have p516 : 0 ≤ (x13_1 : Int) := da_; have q516 : x13_1 < (l0.length : Int) := da_; obtain ⟨ad516, e516, hx516_0⟩ := Kd.at_int HR0.out x13_1 p516 q516; cases e516; replace p516 := eq_true p516; replace q516 := eq_true q516; have p517 : 0 ≤ (x13_1 : Int) := da_; have q517 : x13_1 < (l1.length : Int) := da_; obtain ⟨ad517, e517, hx517_0⟩ := Kd.at_int HR1.out x13_1 p517 q517; cases e517; replace p517 := eq_true p517; replace q517 := eq_true q517; go_wp2
         repeat (go_quiet (fail); try go_wp2)
         go_ret
         exact ⟨sv_, dr_⟩
       ·rw [if_neg c7] at H; exact absurd H (by simp)
      ·rw [if_neg c6] at H; exact absurd H (by simp)
     ·rw [if_neg c5] at H; exact absurd H (by simp)
    ·rw [if_neg c4] at H; have c4b0 : decide (x13_1 < (l0.length : Int)) = false := decide_eq_false c4; clear c4; obtain rfl := Option.some.inj H; go_wp2
     repeat (go_quiet (fail); try go_wp2)
     go_ret
     exact ⟨sv_, dr_⟩
 ·rw [if_neg c3] at H; have c3b0 : ((l0.length : Int) == (l1.length : Int)) = false := beq_eq_false_iff_ne.mpr c3; have c3b1 : ((l0.length : Int) != (l1.length : Int)) = true := bne_iff_ne.mpr c3
  have c3b2 : (l0.length == l1.length) = false := by first | simpa using c3 | (simp at c3 ⊢; omega)
  obtain rfl := Option.some.inj H; go_enter Try.func93, Try.ntmps93; go_wp2
  repeat (go_quiet (fail); try go_wp2)
  go_ret
  exact ⟨sv_, dr_⟩
def impl_occurrences.l0 : Nat → List Int → List Int → List Int → Int → Option (List Int)
 | 0, _, _, _, _ => none
 | k + 1, x0, x1, x5, x6 => if (wrap64 (x6 + (x1.length : Int))) ≤ (x0.length : Int) then (if 0 ≤ x6 then (if x6 ≤ (wrap64 (x6 + (x1.length : Int))) then ((slices_Equal_int64_int64.f k ((x0.take ((wrap64 (x6 + (x1.length : Int))) : Int).toNat).drop (x6 : Int).toNat) x1).bind fun t586 => (if t586 = true then (if x5.length < 17592186044416 then (impl_occurrences.l0 k x0 x1 (x5 ++ [x6]) (wrap64 (x6 + 1))) else (none)) else (impl_occurrences.l0 k x0 x1 x5 (wrap64 (x6 + 1))))) else (none)) else (none)) else (some x5)
def impl_occurrences.f (k : Nat) (l0 : List Int) (l1 : List Int) : Option (List Int) := impl_occurrences.l0 k l0 l1 ([] : List Int) 0
theorem impl_occurrences.calls (k : Nat) (A0 : Option Addr) (c0 : Nat) (l0 : List Int) (A1 : Option Addr) (c1 : Nat) (l1 : List Int) (r : List Int) (w : World) (hr0 : Kd.C (Kd.int .i64) w A0 l0.length l0) (hc0 : l0.length ≤ c0) (hr1 : Kd.C (Kd.int .i64) w A1 l1.length l1) (hc1 : l1.length ≤ c1) (h : impl_occurrences.f k l0 l1 = some r) :
  Calls Try.prog 132 #[.slice A0 l0.length c0, .slice A1 l1.length c1] w fun e w' => ∃ v0_ : Value, e = .returned (v0_) ∧ Kd.R (Kd.int .i64) 2 w' w.heap.size (fun _ => True) v0_ r ∧ Below w.heap.size w w' := by
 have HR0 := Aside0.mk hr0; have HC0 := Aside0.mk hc0; clear hr0 hc0; have HR1 := Aside0.mk hr1; have HC1 := Aside0.mk hc1; clear hr1 hc1; have HB := Aside0.mk (Below.refl w.heap.size w); have H : (impl_occurrences.l0 k l0 l1 ([] : List Int) 0) = some r := h; clear h; have H' := Aside0.mk H; clear H; go_enter Try.func132, Try.ntmps132; go_wp2
 go_loopg [5, 6] k (fun kq v5 v6 w' => ∃ (x5_1 : List Int) (x6_1 : Int), v6 = .int .i64 x6_1 ∧ Aside0 (impl_occurrences.l0 kq l0 l1 x5_1 x6_1 = some r) ∧ Aside0 (kq ≤ k) ∧ Aside0 (Kd.R (Kd.int .i64) 2 w' w.heap.size (fun _ => True) v5 x5_1) ∧ Aside0 (Below w.heap.size w w'))
 case atStart => exact ⟨(([] : List Int)), (0), sv_, H', ⟨Nat.le_refl _⟩, ⟨by first | exact Kd.R_nil _ _ _ _ _ | exact Kd.N_nil _ _ _ _ _ | exact Kd.V_nil _ _ _ _ _ | exact Kd.Q_nil _ _ _ _ _ | exact Kd.S_nil _ _ _ _ _⟩, ⟨bb_ HB.out⟩⟩
 case round =>
  clear H'; (try clear c1); (try clear p2); obtain ⟨x5_1, x6_1, rfl, HA, HK1, HO_5, HB⟩ := hrel
  cases gk with
  | zero => exact absurd HA.out (by simp [impl_occurrences.l0])
  | succ k1 =>
   have H := HA.out; clear HA; simp only [impl_occurrences.l0] at H
   by_cases c3 : (wrap64 (x6_1 + (l1.length : Int))) ≤ (l0.length : Int)
   ·rw [if_pos c3] at H; have c3b0 : decide ((wrap64 (x6_1 + (l1.length : Int))) ≤ (l0.length : Int)) = true := decide_eq_true c3; clear c3
    by_cases c4 : 0 ≤ x6_1
    ·rw [if_pos c4] at H; have c4b0 := eq_true c4; have c4b1 : decide (0 ≤ x6_1) = true := decide_eq_true c4; clear c4
     by_cases c5 : x6_1 ≤ (wrap64 (x6_1 + (l1.length : Int)))
     ·rw [if_pos c5] at H; have c5b0 := eq_true c5; have c5b1 : decide (x6_1 ≤ (wrap64 (x6_1 + (l1.length : Int)))) = true := decide_eq_true c5; have c6b0 := eq_true (da_ : (wrap64 (x6_1 + (l1.length : Int))) ≤ (l0.length : Int)); replace H := Option.bind_eq_some_iff.mp H; obtain ⟨t586, A70, H⟩ := H; (try dsimp only at H); have A7 := Aside0.mk A70; clear A70
      by_cases c8 : t586 = true
      ·subst c8; rw [if_pos rfl] at H
       by_cases c9 : x5_1.length < 17592186044416
       ·rw [if_pos c9] at H; have LMc9 := Aside0.mk c9; clear c9; obtain ⟨y587, hy587⟩ : ∃ y_ : List Int, y_ = (x5_1 ++ [x6_1]) := ⟨_, rfl⟩
        replace H : (impl_occurrences.l0 k1 l0 l1 y587 (wrap64 (x6_1 + 1))) = some r := by first | (rw [hy587]; with_reducible exact H) | (have H2_ := (Option.bind_some _ _).symm.trans H; rw [hy587]; with_reducible exact H2_) | (have H2_ := (Option.bind_some _ _).symm.trans H; with_reducible exact H2_) | with_reducible exact H | (rw [hy587]; exact H) | exact H
        have Ny587 := Aside0.mk hy587; clear hy587; have H' := Aside0.mk H; clear H; obtain ⟨i010, hi010, _, hsz10, _⟩ := info_parts info2; obtain ⟨A10, hcut10, hA10, hC10⟩ := print_mid_of (P := Try.prog) (Value.int .i64) 0 22 2 .i64 .i64 Try.underlying22 hi010 hsz10 A0 c0 l0 x6_1 (wrap64 (x6_1 + (l1.length : Int))) (da_) (by first | omega | exact da_) (da_) HC0.out; have HR585 := Aside0.mk (Kd.C_of_reads (h1 := fun _ => rfl) (hA10 _ (Kd.reads_of_C HR0.out))); have HC585 := Aside0.mk hC10; clear hA10 hC10 hi010 hsz10; go_wp2_with (first | ((with_reducible refine gate_callee (f := 93) rfl ?_); refine goesL_ (some 24) rfl rfl Try.func93 (by kernel_rfl) rfl #[.slice A10 ((l0.take ((wrap64 (x6_1 + (l1.length : Int))) : Int).toNat).drop (x6_1 : Int).toNat).length (c0 - x6_1.toNat), .slice A1 l1.length c1] rfl (by (try simp only [List.map_toArray, List.map_cons, List.map_nil]); first | done | (rw [show ((l0.take ((wrap64 (x6_1 + (l1.length : Int))) : Int).toNat).drop (x6_1 : Int).toNat).length = ((wrap64 (x6_1 + (l1.length : Int))).toNat - x6_1.toNat) from (by rw [List.length_drop, List.length_take]; have h_ : ((wrap64 (x6_1 + (l1.length : Int))) : Int) ≤ (l0.length : Int) := da_; omega)] <;> rfl) | rfl | (simp only [List.length_drop, List.length_take]; rfl)) ?_; (with_reducible refine (slices_Equal_int64_int64.calls k1 _ _ ((l0.take ((wrap64 (x6_1 + (l1.length : Int))) : Int).toNat).drop (x6_1 : Int).toNat) _ _ l1 true _ ?side1 HC585.out ?side3 HC1.out A7.out).mono ?_); (case side1 => exact (Kd.C_below HR585.out HB.out)); (case side3 => exact (Kd.C_below HR1.out HB.out)); rintro e w' ⟨rfl, ⟨nd, rfl⟩⟩; refine ⟨_, rfl, ?_⟩) | ((with_reducible refine gate_builtin (b := .append) (xs := #[.tmp 25, .tmp 27]) rfl ?_); at_builtin; refine Kd.R_append (Kd.int .i64) (w0 := w) w.heap.size rfl (.tmp 25) (.tmp 27) 22 2 (.int .i64 0) 8 rfl Try.underlying22 info2 rfl (by decide) (by omega) u5 x5_1 x6_1 [.int .i64 x6_1] (fun _ => True) (fun _ => False) rfl rfl ?aP (fun _ hk => hk.elim) ?aF ?aO ?aB ?aS ?aL ?_; (case aP => exact rfl); (case aB => exact (bb_ HB.out)); (case aF => exact (fun _ _ => trivial)); (case aO => exact (rr_ HO_5.out)); (case aS => exact (below_size (bb_ HB.out))); (case aL => have := LMc9.out; omega); intro v588 w11 ho hb hg hat; rw [← Ny587.out] at ho; have n0_ := Aside0.mk (hb); have n1_ := Aside0.mk (ho); clear HB; clear HO_5; have HB := n0_; have HO589 := n1_; clear n0_ n1_; clear ho hb hg hat))
        go_roundg k1
        case measure => have := HK1.out; omega
        case rel => exact ⟨(y587), (wrap64 (x6_1 + 1)), sv_, H', ⟨by have := HK1.out; omega⟩, ⟨rr_ HO589.out⟩, ⟨bb_ HB.out⟩⟩
       ·rw [if_neg c9] at H; exact absurd H (by simp)
      ·replace c8 := Bool.eq_false_iff.mpr c8; subst c8; rw [if_neg (show ¬ (false = true) by decide)] at H; have H' := Aside0.mk H; clear H; obtain ⟨i012, hi012, _, hsz12, _⟩ := info_parts info2; obtain ⟨A12, hcut12, hA12, hC12⟩ := print_mid_of (P := Try.prog) (Value.int .i64) 0 22 2 .i64 .i64 Try.underlying22 hi012 hsz12 A0 c0 l0 x6_1 (wrap64 (x6_1 + (l1.length : Int))) (da_) (by first | omega | exact da_) (da_) HC0.out; have HR585 := Aside0.mk (Kd.C_of_reads (h1 := fun _ => rfl) (hA12 _ (Kd.reads_of_C HR0.out))); have HC585 := Aside0.mk hC12; clear hA12 hC12 hi012 hsz12; go_wp2_with (first | ((with_reducible refine gate_callee (f := 93) rfl ?_); refine goesL_ (some 24) rfl rfl Try.func93 (by kernel_rfl) rfl #[.slice A12 ((l0.take ((wrap64 (x6_1 + (l1.length : Int))) : Int).toNat).drop (x6_1 : Int).toNat).length (c0 - x6_1.toNat), .slice A1 l1.length c1] rfl (by (try simp only [List.map_toArray, List.map_cons, List.map_nil]); first | done | (rw [show ((l0.take ((wrap64 (x6_1 + (l1.length : Int))) : Int).toNat).drop (x6_1 : Int).toNat).length = ((wrap64 (x6_1 + (l1.length : Int))).toNat - x6_1.toNat) from (by rw [List.length_drop, List.length_take]; have h_ : ((wrap64 (x6_1 + (l1.length : Int))) : Int) ≤ (l0.length : Int) := da_; omega)] <;> rfl) | rfl | (simp only [List.length_drop, List.length_take]; rfl)) ?_; (with_reducible refine (slices_Equal_int64_int64.calls k1 _ _ ((l0.take ((wrap64 (x6_1 + (l1.length : Int))) : Int).toNat).drop (x6_1 : Int).toNat) _ _ l1 false _ ?side1 HC585.out ?side3 HC1.out A7.out).mono ?_); (case side1 => exact (Kd.C_below HR585.out HB.out)); (case side3 => exact (Kd.C_below HR1.out HB.out)); rintro e w' ⟨rfl, ⟨nd, rfl⟩⟩; refine ⟨_, rfl, ?_⟩))
       go_roundg k1
       case measure => have := HK1.out; omega
       case rel => exact ⟨(x5_1), (wrap64 (x6_1 + 1)), sv_, H', ⟨by have := HK1.out; omega⟩, ⟨rr_ HO_5.out⟩, ⟨bb_ HB.out⟩⟩
     ·rw [if_neg c5] at H; exact absurd H (by simp)
    ·rw [if_neg c4] at H; exact absurd H (by simp)
   ·rw [if_neg c3] at H; have c3b0 : decide ((wrap64 (x6_1 + (l1.length : Int))) ≤ (l0.length : Int)) = false := decide_eq_false c3; clear c3; obtain rfl := Option.some.inj H; go_wp2
    go_ret
    exact ⟨_, by first | rfl | (simp [errW_none, errW_some] <;> rfl) | (simp [*, errW_none, errW_some] <;> rfl), rr_ HO_5.out, bb_ HB.out⟩
def impl_satisfies_1.f (k : Nat) (l0 : List Int) (l1_0 : List Int) : Option (Bool) := (impl_occurrences.f k l1_0 l0).bind fun t591 => (some ((t591.length : Int) == 0))
theorem impl_satisfies_1.calls (k : Nat) (A0 : Option Addr) (c0 : Nat) (l0 : List Int) (g1 : Nat) (A1_0 : Option Addr) (c1_0 : Nat) (l1_0 : List Int) (r : Bool) (w : World) (hr0 : Kd.C (Kd.int .i64) w A0 l0.length l0) (hc0 : l0.length ≤ c0) (hp1 : w.heap[g1]? = some (.cells #[.slice A1_0 l1_0.length c1_0] 22 (0, 0))) (hr1_0 : Kd.C (Kd.int .i64) w A1_0 l1_0.length l1_0) (hc1_0 : l1_0.length ≤ c1_0) (h : impl_satisfies_1.f k l0 l1_0 = some r) :
  Calls Try.prog 131 #[.slice A0 l0.length c0, .pointer (some ⟨g1, 0, none⟩)] w fun e w' => e = .returned (.bool r) ∧ Below w.heap.size w w' := by
 have HR0 := Aside0.mk hr0; have HC0 := Aside0.mk hc0; clear hr0 hc0; have HR1_0 := Aside0.mk hr1_0; have HC1_0 := Aside0.mk hc1_0; clear hr1_0 hc1_0; have HB := Aside0.mk (Below.refl w.heap.size w); have HBX1 := Aside0.mk hp1; have HBP1 := Aside0.mk hp1; clear hp1; have H : ((impl_occurrences.f k l1_0 l0).bind fun t591 => (some ((t591.length : Int) == 0))) = some r := h; clear h; replace H := Option.bind_eq_some_iff.mp H; obtain ⟨t591, A30, H⟩ := H; (try dsimp only at H); have A3 := Aside0.mk A30; clear A30; obtain rfl := Option.some.inj H; have hcz4_0 : w.cell? ⟨g1, 0, none⟩ = some (.slice A1_0 l1_0.length c1_0) := (blk_cell HBP1.out 0).trans rfl; go_enter Try.func131, Try.ntmps131; go_wp2_with (first | ((with_reducible refine gate_callee (f := 132) rfl ?_); refine goesL_ (some 6) rfl rfl Try.func132 (by kernel_rfl) rfl #[.slice A1_0 l1_0.length c1_0, .slice A0 l0.length c0] rfl av_ ?_; (with_reducible refine (impl_occurrences.calls k _ _ l1_0 _ _ l0 t591 _ ?side1 HC1_0.out ?side3 HC0.out A3.out).mono ?_); (case side1 => exact cr_ HR1_0.out); (case side3 => exact cr_ HR0.out); rintro e w5 ⟨v592, rfl, ho0, hb⟩; refine ⟨_, rfl, ?_⟩; have n0_ := Aside0.mk (Kd.R_lower ho0 (below_size (bb_ HB.out))); have n1_ := Aside0.mk (below_step (bb_ HB.out) hb); clear HB; have HO593 := n0_; have HB := n1_; clear n0_ n1_; (try clear hb); (try clear hb2); (try clear hk); (try clear hi); (try clear ho0); obtain ⟨Ao6, co6, eo6⟩ := Kd.R_slice HO593.out; subst eo6))
 go_ret
 exact ⟨by first | rfl | (simp [errW_none, errW_some] <;> rfl) | (simp [*, errW_none, errW_some] <;> rfl), bb_ HB.out⟩
def impl_satisfies_any.f (k : Nat) (l0 : List (List Int)) (a1 : List Int) : Option Bool := if (l0.all fun p => (impl_satisfies_1.f k p a1).isSome) = true then some (l0.any fun p => impl_satisfies_1.f k p a1 == some true) else none
theorem impl_satisfies_any.calls (k : Nat) (A0 : Option Addr) (c0 : Nat) (l0 : List (List Int)) (g1 : Nat) (A1_0 : Option Addr) (c1_0 : Nat) (l1_0 : List Int) (r : Bool) (w : World) (hr0 : Kd.C (Kd.slice 2 (Kd.int .i64)) w A0 l0.length l0) (hc0 : l0.length ≤ c0) (hp1 : w.heap[g1]? = some (.cells #[.slice A1_0 l1_0.length c1_0] 22 (0, 0))) (hr1_0 : Kd.C (Kd.int .i64) w A1_0 l1_0.length l1_0) (hc1_0 : l1_0.length ≤ c1_0) (h : impl_satisfies_any.f k l0 l1_0 = some r) :
    Calls Try.prog 133 #[.slice A0 l0.length c0, .func (.func 131) #[] #[.pointer (some ⟨g1, 0, none⟩)]] w fun e w' => e = .returned (.bool r) ∧ Below w.heap.size w w' := by
  unfold impl_satisfies_any.f at h
  split at h
  · rename_i ha
    have hr := Option.some.inj h
    have hs : ∀ j, j < l0.length → impl_satisfies_1.f k (l0.getD j []) l1_0 = some (impl_satisfies_1.f k (l0.getD j []) l1_0 == some true) := by
      intro j hj
      have h1 := List.all_eq_true.1 ha (l0.getD j []) (by
        rw [List.getD_eq_getElem?_getD, List.getElem?_eq_getElem hj]
        exact List.getElem_mem hj)
      obtain ⟨b, hb⟩ := Option.isSome_iff_exists.1 h1; rw [hb]
      cases b <;> rfl
    have hC := slices_ContainsFunc_int64_int64_133.calls 131 #[.pointer (some ⟨g1, 0, none⟩)] (enters_of Try.func131 (by kernel_rfl) rfl) (fun j => match A0 with | some ad => (w.cell? (ad.add j)).getD (.bool false) | none => .bool false) (fun j => impl_satisfies_1.f k (l0.getD j []) l1_0 == some true) A0 l0.length c0 w hr0.2.1
      (fun h0 => by
        obtain ⟨ad, rfl, _⟩ := hr0.2.2 h0; refine ⟨ad, rfl, fun j hj => ?_⟩; obtain ⟨ad', A1, c1, he, hx, _⟩ := at_L1 hr0 (j : Int) (by omega) (by omega)
        cases he
        simp only [Int.toNat_natCast] at hx
        simp only [hx, Option.getD_some])
      (fun W j hj hb => by
        obtain ⟨ad, A1, c1, he, hx, hl, hC1⟩ := at_L1 hr0 (j : Int) (by omega) (by omega); subst he; simp only [Int.toNat_natCast] at hx; have e : rd_L1 l0 (j : Int) = l0.getD j [] := rfl; rw [e] at hx hl hC1; simp only [hx, Option.getD_some]
        exact (impl_satisfies_1.calls k A1 c1 (l0.getD j []) g1 A1_0 c1_0 l1_0 _ W (Kd.C_below hC1 hb) hl (blk_below hp1 hb) (Kd.C_below hr1_0 hb) hc1_0 (hs j hj)).mono fun e w' ⟨he, hw⟩ => ⟨he, below_step hb hw⟩)
    rw [range_any_list l0 [] (fun p => impl_satisfies_1.f k p l1_0 == some true), hr] at hC; exact hC
  · exact absurd h (by simp)
end Go.Proofs.Ytinlejhffokbaaa.P
end
