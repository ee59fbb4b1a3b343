/- Texts of this seat, merged: QSpecL00Own, QSpecL00Max, QSpecL03Tone, QSpecL05Reason, QSpecL05Next. -/
import Derived.Test.YtinlejhffokbaaaGCA1
import Derived.Test.YtinlejhffokbaaaGCA4
import Derived.Test.YtinlejhffokbaaaGCA19
section
namespace Go.Proofs.Ytinlejhffokbaaa.P
open Go.RowKit Go.Proofs.YtinlejhffokbaaaW.PrintWords Go.Proofs.YtinlejhffokbaaaW.PrintLast Go.Proofs.YtinlejhffokbaaaW.PrintMore
attribute [local go_sem] max2_int min2_int max_two min_two max_three min_three max_four min_four   -- for this text's walks alone
set_option linter.unusedVariables false
set_option linter.unusedSimpArgs false
set_option maxHeartbeats 16000000
set_option maxRecDepth 100000
def spec_l00Own.f (l0 : List Int) : Option (List Int) := (some (([] : List Int) : List Int)).bind fun y612 => (if y612.length + l0.length < 17592186044416 then (some (y612 ++ l0)) else (none))
theorem spec_l00Own.calls (A0 : Option Addr) (c0 : Nat) (l0 : List Int) (r : List Int) (w : World) (hr0 : Kd.C (Kd.int .i64) w A0 l0.length l0) (hc0 : l0.length ≤ c0) (h : spec_l00Own.f l0 = some r) :
  Calls Try.prog 99 #[.slice A0 l0.length c0] w fun e w' => ∃ v0_ : Value, e = .returned (v0_) ∧ Kd.R (Kd.int .i64) 2 w' w.heap.size (fun _ => True) v0_ r ∧ Below w.heap.size w w' := by
 have HR0 := Aside0.mk hr0; have HC0 := Aside0.mk hc0; clear hr0 hc0; have HB := Aside0.mk (Below.refl w.heap.size w); have H : ((some (([] : List Int) : List Int)).bind fun y612 => (if y612.length + l0.length < 17592186044416 then (some (y612 ++ l0)) else (none))) = some r := h; clear h; obtain ⟨y612, hy612⟩ : ∃ y_ : List Int, y_ = (([] : List Int)) := ⟨_, rfl⟩
 replace H : (if y612.length + l0.length < 17592186044416 then (some (y612 ++ l0)) else (none)) = some r := by first | (rw [hy612]; with_reducible exact H) | (have H2_ := (Option.bind_some _ _).symm.trans H; rw [hy612]; with_reducible exact H2_) | (have H2_ := (Option.bind_some _ _).symm.trans H; with_reducible exact H2_) | with_reducible exact H | (rw [hy612]; exact H) | exact H
 have Ny612 := Aside0.mk hy612; clear hy612
 by_cases c2 : y612.length + l0.length < 17592186044416
 ·rw [if_pos c2] at H; have LMc2 := Aside0.mk c2; clear c2; obtain ⟨y615, hy615⟩ : ∃ y_ : List Int, y_ = (y612 ++ l0) := ⟨_, rfl⟩
  replace H : (some y615) = some r := by first | (rw [hy615]; with_reducible exact H) | (have H2_ := (Option.bind_some _ _).symm.trans H; rw [hy615]; with_reducible exact H2_) | (have H2_ := (Option.bind_some _ _).symm.trans H; with_reducible exact H2_) | with_reducible exact H | (rw [hy615]; exact H) | exact H
  have Ny615 := Aside0.mk hy615; clear hy615; obtain rfl := Option.some.inj H; go_enter Try.func99, Try.ntmps99; go_wp2_with (first | ((with_reducible refine gate_dst (N := 3) rfl ?_); refine Kd.R_lit (Kd.int .i64) _ 2 ?hg (N := 3) ?hd (xs := ([] : List Int)) (inner := []) (ok := fun _ => True) (okp := fun _ => True) ?hr ?hp (fun _ hk => hk) trivial (Below.refl _ _) (Nat.le_refl _) (by simp) ?_; (case hd => rfl); (case hg => rfl); (case hr => first | (go_simp; done) | (go_simp; rfl)); (case hp => exact (Reps.none _ _)); intro v613 w3 ho4 hb hg_ hnew_; clear hg_ hnew_; (first | rw [← Ny612.out] at ho4 | (simp only [Int.reduceToNat] at ho4; rw [← Ny612.out] at ho4)); have n0_ := Aside0.mk (Kd.R_lower ho4 (below_size (ba_ HB.out))); have n1_ := Aside0.mk (below_step (ba_ HB.out) hb); clear HB; have HO614 := n0_; have HB := n1_; clear n0_ n1_; clear hb ho4) | ((with_reducible refine gate_builtin (b := .append) (xs := #[.tmp 3, .tmp 4]) rfl ?_); at_builtin; refine Kd.R_append_rows (Kd.int .i64) (w0 := w) w.heap.size rfl (.tmp 3) (.tmp 4) 22 2 (.int .i64 0) 8 rfl Try.underlying22 info2 rfl (by decide) (by omega) v613 y612 l0 _ _ _ (fun _ => True) (fun _ => False) rfl rfl ?aO ?aR (fun _ _ h => h) (fun _ h => h.elim) ?aF ?aB ?aS ?aL ?_; (case aR => exact (Kd.C_below HR0.out HB.out)); (case aB => exact (ba_ HB.out)); (case aF => exact (fun _ _ => trivial)); (case aO => exact (rr_ HO614.out)); (case aS => exact (below_size (ba_ HB.out))); (case aL => have := LMc2.out; omega); intro v616 w5 ho hb hg hat; rw [← Ny615.out] at ho; have n0_ := Aside0.mk (hb); have n1_ := Aside0.mk (ho); clear HB; clear HO614; have HB := n0_; have HO617 := n1_; clear n0_ n1_; clear ho hb hg hat))
  go_ret
  exact ⟨_, by first | rfl | (simp [errW_none, errW_some] <;> rfl) | (simp [*, errW_none, errW_some] <;> rfl), rr_ HO617.out, bb_ HB.out⟩
 ·rw [if_neg c2] at H; exact absurd H (by simp)
def spec_l00Max.f (a0 : Int) (a1 : Int) : Option (Int) := if a0 > a1 then (some a0) else (some a1)
theorem spec_l00Max.calls (a0 : Int) (a1 : Int) (r : Int) (w : World) (h : spec_l00Max.f a0 a1 = some r) :
  Calls Try.prog 140 #[.int .i64 a0, .int .i64 a1] w fun e w' => e = .returned (.int .i64 r) ∧ Drawn0 w w' := by
 have H : (if a0 > a1 then (some a0) else (some a1)) = some r := h; clear h
 by_cases c3 : a0 > a1
 ·rw [if_pos c3] at H; have c3b0 : decide (a1 < a0) = true := decide_eq_true c3; clear c3; obtain rfl := Option.some.inj H; go_enter Try.func140, Try.ntmps140; go_wp2
  go_ret
  exact ⟨sv_, dr_⟩
 ·rw [if_neg c3] at H; have c3b0 : decide (a1 < a0) = false := decide_eq_false c3; clear c3; obtain rfl := Option.some.inj H; go_enter Try.func140, Try.ntmps140; go_wp2
  go_ret
  exact ⟨sv_, dr_⟩
def spec_l03Tone.f (a0 : Int) : Option (Int) := some (Int.tmod (wrap64 ((Int.tmod a0 12) + 12)) 12)
theorem spec_l03Tone.calls (a0 : Int) (r : Int) (w : World) (h : spec_l03Tone.f a0 = some r) :
  Calls Try.prog 60 #[.int .i64 a0] w fun e w' => e = .returned (.int .i64 r) ∧ Drawn0 w w' := by
 have H : (some (Int.tmod (wrap64 ((Int.tmod a0 12) + 12)) 12)) = some r := h; clear h; obtain rfl := Option.some.inj H; go_enter Try.func60, Try.ntmps60; go_wp2
 go_ret
 exact ⟨sv_, dr_⟩
mutual
def spec_l05Reason.j0 : Nat → Int → Int → Int → Int → Bool → ByteArray → List Int → List Int → Int → Int → List (List Int) → Option (Int)
 | 0, _, _, _, _, _, _, _, _, _, _, _ => none
 | k + 1, x1, x2, x7, x8, x23, x166000, x166001, x166002, x166003, x166004, x166005 => if x23 = true then (some 1) else ((spec_l00Max.f (wrap64 (x1 - x2)) (wrap64 (x2 - x1))).bind fun t170 => (if t170 > 12 then (some 2) else (if x2 > x1 then ((spec_l00Has.f k x166001 x8).bind fun t171 => (spec_l05Reason.j1 k x1 x2 x7 x8 (!t171) x166000 x166001 x166002 x166003 x166004 x166005)) else (spec_l05Reason.j1 k x1 x2 x7 x8 false x166000 x166001 x166002 x166003 x166004 x166005))))
def spec_l05Reason.j1 : Nat → Int → Int → Int → Int → Bool → ByteArray → List Int → List Int → Int → Int → List (List Int) → Option (Int)
 | 0, _, _, _, _, _, _, _, _, _, _, _ => none
 | k + 1, x1, x2, x7, x8, x43, x166000, x166001, x166002, x166003, x166004, x166005 => if x43 = true then (some 3) else (if x2 < x1 then ((spec_l00Has.f k x166002 x8).bind fun t172 => (spec_l05Reason.j2 k x7 x8 (!t172) x166000 x166001 x166002 x166003 x166004 x166005)) else (spec_l05Reason.j2 k x7 x8 false x166000 x166001 x166002 x166003 x166004 x166005))
def spec_l05Reason.j2 : Nat → Int → Int → Bool → ByteArray → List Int → List Int → Int → Int → List (List Int) → Option (Int)
 | 0, _, _, _, _, _, _, _, _, _ => none
 | k + 1, x7, x8, x55, x166000, x166001, x166002, x166003, x166004, x166005 => if x55 = true then (some 4) else (spec_l05Reason.l0 k x7 x8 0 x166000 x166001 x166002 x166003 x166004 x166005)
def spec_l05Reason.l0 : Nat → Int → Int → Int → ByteArray → List Int → List Int → Int → Int → List (List Int) → Option (Int)
 | 0, _, _, _, _, _, _, _, _, _ => none
 | k + 1, x7, x8, x9, x166000, x166001, x166002, x166003, x166004, x166005 => if x9 < (x166005.length : Int) then (if 0 ≤ x9 then (if 0 < ((rd_L1 x166005 x9).length : Int) then (if (rd (rd_L1 x166005 x9) 0) = x7 then (if 1 < ((rd_L1 x166005 x9).length : Int) then (if (rd (rd_L1 x166005 x9) 1) = x8 then (some 5) else (spec_l05Reason.l0 k x7 x8 (wrap64 (x9 + 1)) x166000 x166001 x166002 x166003 x166004 x166005)) else (none)) else (spec_l05Reason.l0 k x7 x8 (wrap64 (x9 + 1)) x166000 x166001 x166002 x166003 x166004 x166005)) else (none)) else (none)) else (some 0)
end
def spec_l05Reason.f (k : Nat) (a0_0 : ByteArray) (l0_1 : List Int) (l0_2 : List Int) (a0_3 : Int) (a0_4 : Int) (l0_5 : List (List Int)) (a1 : Int) (a2 : Int) : Option (Int) := (spec_l03Tone.f a1).bind fun t166 => ((spec_l03Tone.f a2).bind fun t167 => ((spec_l05Tone.f k a0_0 l0_1 l0_2 a0_3 a0_4 l0_5 t166).bind fun t168 => (if t168 = true then ((spec_l05Tone.f k a0_0 l0_1 l0_2 a0_3 a0_4 l0_5 t167).bind fun t169 => (spec_l05Reason.j0 k a1 a2 t166 t167 (!t169) a0_0 l0_1 l0_2 a0_3 a0_4 l0_5)) else (spec_l05Reason.j0 k a1 a2 t166 t167 true a0_0 l0_1 l0_2 a0_3 a0_4 l0_5))))
theorem spec_l05Reason.calls (k : Nat) (g0 : Nat) (a0_0 : ByteArray) (A0_1 : Option Addr) (c0_1 : Nat) (l0_1 : List Int) (A0_2 : Option Addr) (c0_2 : Nat) (l0_2 : List Int) (a0_3 : Int) (a0_4 : Int) (A0_5 : Option Addr) (c0_5 : Nat) (l0_5 : List (List Int)) (a1 : Int) (a2 : Int) (r : Int) (w : World) (hp0 : w.heap[g0]? = some (.cells #[.string a0_0, .slice A0_1 l0_1.length c0_1, .slice A0_2 l0_2.length c0_2, .int .i64 a0_3, .int .i64 a0_4, .slice A0_5 l0_5.length c0_5] 29 (0, 0))) (hr0_1 : Kd.C (Kd.int .i64) w A0_1 l0_1.length l0_1) (hc0_1 : l0_1.length ≤ c0_1) (hr0_2 : Kd.C (Kd.int .i64) w A0_2 l0_2.length l0_2) (hc0_2 : l0_2.length ≤ c0_2) (hr0_5 : Kd.C (Kd.slice 2 (Kd.int .i64)) w A0_5 l0_5.length l0_5) (hc0_5 : l0_5.length ≤ c0_5) (h : spec_l05Reason.f k a0_0 l0_1 l0_2 a0_3 a0_4 l0_5 a1 a2 = some r) :
  Calls Try.prog 105 #[.pointer (some ⟨g0, 0, none⟩), .int .i64 a1, .int .i64 a2] w fun e w' => e = .returned (.int .i64 r) ∧ Drawn0 w w' := by
 have HR0_1 := Aside0.mk hr0_1; have HC0_1 := Aside0.mk hc0_1; clear hr0_1 hc0_1; have HR0_2 := Aside0.mk hr0_2; have HC0_2 := Aside0.mk hc0_2; clear hr0_2 hc0_2; have HR0_5 := Aside0.mk hr0_5; have HC0_5 := Aside0.mk hc0_5; clear hr0_5 hc0_5; have HBX0 := Aside0.mk hp0; have HBP0 := Aside0.mk hp0; clear hp0; have H : ((spec_l03Tone.f a1).bind fun t166 => ((spec_l03Tone.f a2).bind fun t167 => ((spec_l05Tone.f k a0_0 l0_1 l0_2 a0_3 a0_4 l0_5 t166).bind fun t168 => (if t168 = true then ((spec_l05Tone.f k a0_0 l0_1 l0_2 a0_3 a0_4 l0_5 t167).bind fun t169 => (spec_l05Reason.j0 k a1 a2 t166 t167 (!t169) a0_0 l0_1 l0_2 a0_3 a0_4 l0_5)) else (spec_l05Reason.j0 k a1 a2 t166 t167 true a0_0 l0_1 l0_2 a0_3 a0_4 l0_5))))) = some r := h; clear h; replace H := Option.bind_eq_some_iff.mp H; obtain ⟨t166, A40, H⟩ := H; (try dsimp only at H); have A4 := Aside0.mk A40; clear A40; replace H := Option.bind_eq_some_iff.mp H; obtain ⟨t167, A50, H⟩ := H; (try dsimp only at H); have A5 := Aside0.mk A50; clear A50; have HC6 := Aside0.mk H; clear H; go_enter Try.func105, Try.ntmps105
 go_upto_region 3 with (first | ((with_reducible refine gate_callee (f := 60) rfl ?_); refine goesL_ (some 11) rfl rfl Try.func60 (by kernel_rfl) rfl #[.int .i64 a1] rfl av_ ?_; (with_reducible refine (spec_l03Tone.calls a1 t166 _ A4.out).mono ?_); rintro e w' ⟨rfl, ⟨nd, rfl⟩⟩; refine ⟨_, rfl, ?_⟩) | ((with_reducible refine gate_callee (f := 60) rfl ?_); refine goesL_ (some 13) rfl rfl Try.func60 (by kernel_rfl) rfl #[.int .i64 a2] rfl av_ ?_; (with_reducible refine (spec_l03Tone.calls a2 t167 _ A5.out).mono ?_); rintro e w' ⟨rfl, ⟨nd, rfl⟩⟩; refine ⟨_, rfl, ?_⟩))
 (try simp only [Act.put, List.setIfInBounds_toArray, List.set_cons_zero, List.set_cons_succ])
 go_cut [23] (fun v23 wc => ∃ (kq : Nat) (x23_5 : Bool), v23 = .bool x23_5 ∧ Aside0 (spec_l05Reason.j0 kq a1 a2 t166 t167 x23_5 a0_0 l0_1 l0_2 a0_3 a0_4 l0_5 = some r) ∧ Aside0 (kq ≤ k) ∧ Aside0 (wc.heap[g0]? = some (.cells #[.string a0_0, (.slice A0_1 l0_1.length c0_1), (.slice A0_2 l0_2.length c0_2), .int .i64 a0_3, .int .i64 a0_4, (.slice A0_5 l0_5.length c0_5)] 29 (0, 0))) ∧ Drawn0 w wc)
 case first =>
  have H := HC6.out; clear HC6; replace H := Option.bind_eq_some_iff.mp H; obtain ⟨t168, A70, H⟩ := H; (try dsimp only at H); have A7 := Aside0.mk A70; clear A70
  by_cases c8 : t168 = true
  ·subst c8; rw [if_pos rfl] at H; replace H := Option.bind_eq_some_iff.mp H; obtain ⟨t169, A90, H⟩ := H; (try dsimp only at H); have A9 := Aside0.mk A90; clear A90; have H' := Aside0.mk H; clear H; go_wp2_with (first | ((with_reducible refine gate_callee (f := 59) rfl ?_); refine goesL_ (some 16) rfl rfl Try.func59 (by kernel_rfl) rfl #[.pointer (some ⟨g0, 0, none⟩), .int .i64 t166] rfl av_ ?_; (with_reducible refine (spec_l05Tone.calls k g0 a0_0 A0_1 c0_1 l0_1 A0_2 c0_2 l0_2 a0_3 a0_4 A0_5 c0_5 l0_5 t166 true _ ?side1 ?side2 HC0_1.out ?side4 HC0_2.out ?side6 HC0_5.out A7.out).mono ?_); (case side1 => exact bk_ HBP0.out); (case side2 => exact cr_ HR0_1.out); (case side4 => exact cr_ HR0_2.out); (case side6 => exact cr_ HR0_5.out); rintro e w' ⟨rfl, ⟨nd, rfl⟩⟩; refine ⟨_, rfl, ?_⟩) | (go_at_call 59; (with_reducible refine (spec_l05Tone.calls k g0 a0_0 A0_1 c0_1 l0_1 A0_2 c0_2 l0_2 a0_3 a0_4 A0_5 c0_5 l0_5 t167 t169 _ ?side1 ?side2 HC0_1.out ?side4 HC0_2.out ?side6 HC0_5.out A9.out).mono ?_); (case side1 => exact bk_ HBP0.out); (case side2 => exact cr_ HR0_1.out); (case side4 => exact cr_ HR0_2.out); (case side6 => exact cr_ HR0_5.out); rintro e w' ⟨rfl, ⟨nd, rfl⟩⟩))
   go_meet
   case rel => exact ⟨_, (!t169), sv_, H', ⟨by first | omega | exact Nat.le_refl _⟩, ⟨by (with_reducible repeat (first | refine blk_drewN ?_ _ | refine blk_drew ?_ | refine blk_alloc ?_ _)); exact HBP0.out⟩, dr_⟩
  ·replace c8 := Bool.eq_false_iff.mpr c8; subst c8; rw [if_neg (show ¬ (false = true) by decide)] at H; have H' := Aside0.mk H; clear H; go_wp2_with (first | ((with_reducible refine gate_callee (f := 59) rfl ?_); refine goesL_ (some 16) rfl rfl Try.func59 (by kernel_rfl) rfl #[.pointer (some ⟨g0, 0, none⟩), .int .i64 t166] rfl av_ ?_; (with_reducible refine (spec_l05Tone.calls k g0 a0_0 A0_1 c0_1 l0_1 A0_2 c0_2 l0_2 a0_3 a0_4 A0_5 c0_5 l0_5 t166 false _ ?side1 ?side2 HC0_1.out ?side4 HC0_2.out ?side6 HC0_5.out A7.out).mono ?_); (case side1 => exact bk_ HBP0.out); (case side2 => exact cr_ HR0_1.out); (case side4 => exact cr_ HR0_2.out); (case side6 => exact cr_ HR0_5.out); rintro e w' ⟨rfl, ⟨nd, rfl⟩⟩; refine ⟨_, rfl, ?_⟩))
   go_meet
   case rel => exact ⟨_, (true), sv_, H', ⟨by first | omega | exact Nat.le_refl _⟩, ⟨by (with_reducible repeat (first | refine blk_drewN ?_ _ | refine blk_drew ?_ | refine blk_alloc ?_ _)); exact HBP0.out⟩, dr_⟩
 case rest =>
  clear HC6; (try clear c1); (try clear p2); (try clear c5); (try clear c6); (try clear c8); obtain ⟨kq, x23_5, rfl, HA, HJ5, HBX0, ⟨mc5, rfl⟩⟩ := hcut
  cases kq with
  | zero => exact absurd HA.out (by simp [spec_l05Reason.j0])
  | succ kj5 =>
   have H := HA.out; clear HA; simp only [spec_l05Reason.j0] at H
   by_cases c10 : x23_5 = true
   ·subst c10; rw [if_pos rfl] at H; obtain rfl := Option.some.inj H; go_wp2
    go_ret
    exact ⟨sv_, dr_⟩
   ·replace c10 := Bool.eq_false_iff.mpr c10; subst c10; rw [if_neg (show ¬ (false = true) by decide)] at H; replace H := Option.bind_eq_some_iff.mp H; obtain ⟨t170, A110, H⟩ := H; (try dsimp only at H); have A11 := Aside0.mk A110; clear A110
    by_cases c12 : t170 > 12
    ·rw [if_pos c12] at H; have c12b0 : decide (12 < t170) = true := decide_eq_true c12; clear c12; obtain rfl := Option.some.inj H; go_wp2_with (first | ((with_reducible refine gate_callee (f := 140) rfl ?_); refine goesL_ (some 30) rfl rfl Try.func140 (by kernel_rfl) rfl #[.int .i64 (wrap64 (a1 - a2)), .int .i64 (wrap64 (a2 - a1))] rfl av_ ?_; (with_reducible refine (spec_l00Max.calls (wrap64 (a1 - a2)) (wrap64 (a2 - a1)) t170 _ A11.out).mono ?_); rintro e w' ⟨rfl, ⟨nd, rfl⟩⟩; refine ⟨_, rfl, ?_⟩))
     go_ret
     exact ⟨sv_, dr_⟩
    ·rw [if_neg c12] at H; have c12b0 : decide (12 < t170) = false := decide_eq_false c12; clear c12; have HC13 := Aside0.mk H; clear H
     go_upto_region 7 with (first | ((with_reducible refine gate_callee (f := 140) rfl ?_); refine goesL_ (some 30) rfl rfl Try.func140 (by kernel_rfl) rfl #[.int .i64 (wrap64 (a1 - a2)), .int .i64 (wrap64 (a2 - a1))] rfl av_ ?_; (with_reducible refine (spec_l00Max.calls (wrap64 (a1 - a2)) (wrap64 (a2 - a1)) t170 _ A11.out).mono ?_); rintro e w' ⟨rfl, ⟨nd, rfl⟩⟩; refine ⟨_, rfl, ?_⟩))
     (try simp only [Act.put, List.setIfInBounds_toArray, List.set_cons_zero, List.set_cons_succ])
     go_cut [43] (fun v43 wc => ∃ (kq : Nat) (x43_12 : Bool), v43 = .bool x43_12 ∧ Aside0 (spec_l05Reason.j1 kq a1 a2 t166 t167 x43_12 a0_0 l0_1 l0_2 a0_3 a0_4 l0_5 = some r) ∧ Aside0 (kq ≤ kj5) ∧ Aside0 (wc.heap[g0]? = some (.cells #[.string a0_0, (.slice A0_1 l0_1.length c0_1), (.slice A0_2 l0_2.length c0_2), .int .i64 a0_3, .int .i64 a0_4, (.slice A0_5 l0_5.length c0_5)] 29 (0, 0))) ∧ Drawn0 w wc)
     case first =>
      have H := HC13.out; clear HC13
      by_cases c14 : a2 > a1
      ·rw [if_pos c14] at H; have c14b0 : decide (a1 < a2) = true := decide_eq_true c14; clear c14; (first | rw [c14b0] | (simp only [i64_w, i32_w]; rw [c14b0]) | skip); replace H := Option.bind_eq_some_iff.mp H; obtain ⟨t171, A150, H⟩ := H; (try dsimp only at H); have A15 := Aside0.mk A150; clear A150; have H' := Aside0.mk H; clear H; obtain ⟨hcz16_0, hcz16_1, hcz16_2, hcz16_3, hcz16_4, hcz16_5, -⟩ := bx6_ (w := w) HBP0.out; go_wp2_with (first | (go_at_call 110; (with_reducible refine (spec_l00Has.calls kj5 _ _ l0_1 t167 t171 _ ?side1 HC0_1.out A15.out).mono ?_); (case side1 => exact cr_ HR0_1.out); rintro e w' ⟨rfl, ⟨nd, rfl⟩⟩))
       go_meet
       case rel => exact ⟨_, (!t171), sv_, H', ⟨by have := HJ5.out; first | omega | exact Nat.le_refl _⟩, ⟨by (with_reducible repeat (first | refine blk_drewN ?_ _ | refine blk_drew ?_ | refine blk_alloc ?_ _)); exact HBP0.out⟩, dr_⟩
      ·rw [if_neg c14] at H; have c14b0 : decide (a1 < a2) = false := decide_eq_false c14; clear c14; (first | rw [c14b0] | (simp only [i64_w, i32_w]; rw [c14b0]) | skip); have H' := Aside0.mk H; clear H; go_wp2
       go_meet
       case rel => exact ⟨_, (false), sv_, H', ⟨by have := HJ5.out; first | omega | exact Nat.le_refl _⟩, ⟨by (with_reducible repeat (first | refine blk_drewN ?_ _ | refine blk_drew ?_ | refine blk_alloc ?_ _)); exact HBP0.out⟩, dr_⟩
     case rest =>
      clear HC13; (try clear c1); (try clear p2); (try clear c5); (try clear c6); (try clear p6); (try clear c8); (try clear c10); (try clear c12); (try clear c12b0); (try clear c14); (try clear c14b0); (try clear hcz16_0 hcz16_1 hcz16_2 hcz16_3 hcz16_4 hcz16_5); (try clear p2); obtain ⟨kq, x43_12, rfl, HA, HJ12, HBX0, ⟨mc12, rfl⟩⟩ := hcut
      cases kq with
      | zero => exact absurd HA.out (by simp [spec_l05Reason.j1])
      | succ kj12 =>
       have H := HA.out; clear HA; simp only [spec_l05Reason.j1] at H
       by_cases c17 : x43_12 = true
       ·subst c17; rw [if_pos rfl] at H; obtain rfl := Option.some.inj H; go_wp2
        go_ret
        exact ⟨sv_, dr_⟩
       ·replace c17 := Bool.eq_false_iff.mpr c17; subst c17; rw [if_neg (show ¬ (false = true) by decide)] at H; have HC18 := Aside0.mk H; clear H
        go_upto_region 9 with (fail)
        go_cut [55] (fun v55 wc => ∃ (kq : Nat) (x55_17 : Bool), v55 = .bool x55_17 ∧ Aside0 (spec_l05Reason.j2 kq t166 t167 x55_17 a0_0 l0_1 l0_2 a0_3 a0_4 l0_5 = some r) ∧ Aside0 (kq ≤ kj12) ∧ Aside0 (wc.heap[g0]? = some (.cells #[.string a0_0, (.slice A0_1 l0_1.length c0_1), (.slice A0_2 l0_2.length c0_2), .int .i64 a0_3, .int .i64 a0_4, (.slice A0_5 l0_5.length c0_5)] 29 (0, 0))) ∧ Drawn0 w wc)
        case first =>
         have H := HC18.out; clear HC18
         by_cases c19 : a2 < a1
         ·rw [if_pos c19] at H; have c19b0 : decide (a2 < a1) = true := decide_eq_true c19; clear c19; (first | rw [c19b0] | (simp only [i64_w, i32_w]; rw [c19b0]) | skip); replace H := Option.bind_eq_some_iff.mp H; obtain ⟨t172, A200, H⟩ := H; (try dsimp only at H); have A20 := Aside0.mk A200; clear A200; have H' := Aside0.mk H; clear H; obtain ⟨hcz21_0, hcz21_1, hcz21_2, hcz21_3, hcz21_4, hcz21_5, -⟩ := bx6_ (w := w) HBP0.out; go_wp2_with (first | (go_at_call 110; (with_reducible refine (spec_l00Has.calls kj12 _ _ l0_2 t167 t172 _ ?side1 HC0_2.out A20.out).mono ?_); (case side1 => exact cr_ HR0_2.out); rintro e w' ⟨rfl, ⟨nd, rfl⟩⟩))
          go_meet
          case rel => exact ⟨_, (!t172), sv_, H', ⟨by have := HJ5.out; have := HJ12.out; first | omega | exact Nat.le_refl _⟩, ⟨by (with_reducible repeat (first | refine blk_drewN ?_ _ | refine blk_drew ?_ | refine blk_alloc ?_ _)); exact HBP0.out⟩, dr_⟩
         ·rw [if_neg c19] at H; have c19b0 : decide (a2 < a1) = false := decide_eq_false c19; clear c19; (first | rw [c19b0] | (simp only [i64_w, i32_w]; rw [c19b0]) | skip); have H' := Aside0.mk H; clear H; go_wp2
          go_meet
          case rel => exact ⟨_, (false), sv_, H', ⟨by have := HJ5.out; have := HJ12.out; first | omega | exact Nat.le_refl _⟩, ⟨by (with_reducible repeat (first | refine blk_drewN ?_ _ | refine blk_drew ?_ | refine blk_alloc ?_ _)); exact HBP0.out⟩, dr_⟩
        case rest =>
         clear HC18; (try clear c1); (try clear p2); (try clear c5); (try clear c6); (try clear p6); (try clear c8); (try clear c10); (try clear c12); (try clear c12b0); (try clear c14); (try clear c14b0); (try clear c17); (try clear c19); (try clear c19b0); (try clear hcz16_0 hcz16_1 hcz16_2 hcz16_3 hcz16_4 hcz16_5 hcz21_0 hcz21_1 hcz21_2 hcz21_3 hcz21_4 hcz21_5); (try clear p2); (try clear p6); obtain ⟨kq, x55_17, rfl, HA, HJ17, HBX0, ⟨mc17, rfl⟩⟩ := hcut
         cases kq with
         | zero => exact absurd HA.out (by simp [spec_l05Reason.j2])
         | succ kj17 =>
          have H := HA.out; clear HA; simp only [spec_l05Reason.j2] at H
          by_cases c22 : x55_17 = true
          ·subst c22; rw [if_pos rfl] at H; obtain rfl := Option.some.inj H; go_wp2
           go_ret
           exact ⟨sv_, dr_⟩
          ·replace c22 := Bool.eq_false_iff.mpr c22; subst c22; rw [if_neg (show ¬ (false = true) by decide)] at H; have H' := Aside0.mk H; clear H; go_wp2
           go_loopg [9] kj17 (fun kq v9 w' => ∃ (x9_4 : Int), v9 = .int .i64 x9_4 ∧ Aside0 (spec_l05Reason.l0 kq t166 t167 x9_4 a0_0 l0_1 l0_2 a0_3 a0_4 l0_5 = some r) ∧ Aside0 (kq ≤ kj17) ∧ Aside0 (w'.heap[g0]? = some (.cells #[.string a0_0, (.slice A0_1 l0_1.length c0_1), (.slice A0_2 l0_2.length c0_2), .int .i64 a0_3, .int .i64 a0_4, (.slice A0_5 l0_5.length c0_5)] 29 (0, 0))) ∧ Drawn0 w w')
           case atStart => exact ⟨(0), sv_, H', ⟨Nat.le_refl _⟩, ⟨by (with_reducible repeat (first | refine blk_drewN ?_ _ | refine blk_drew ?_ | refine blk_alloc ?_ _)); exact HBP0.out⟩, dr_⟩
           case round =>
            clear H'; (try clear c1); (try clear c2); (try clear p2); (try clear c5); (try clear c6); (try clear p6); (try clear c8); (try clear c10); (try clear c12); (try clear c12b0); (try clear c14); (try clear c14b0); (try clear c17); (try clear c19); (try clear c19b0); (try clear c22); (try clear hcz16_0 hcz16_1 hcz16_2 hcz16_3 hcz16_4 hcz16_5 hcz21_0 hcz21_1 hcz21_2 hcz21_3 hcz21_4 hcz21_5); (try clear p2); (try clear p6); obtain ⟨x9_4, rfl, HA, HK4, HBX0, ⟨m4, rfl⟩⟩ := hrel
            cases gk with
            | zero => exact absurd HA.out (by simp [spec_l05Reason.l0])
            | succ k4 =>
             have H := HA.out; clear HA; simp only [spec_l05Reason.l0] at H
             by_cases c23 : x9_4 < (l0_5.length : Int)
             ·rw [if_pos c23] at H; have c23b0 : decide (x9_4 < (l0_5.length : Int)) = true := decide_eq_true c23; clear c23
              by_cases c24 : 0 ≤ x9_4
              ·rw [if_pos c24] at H; have c24b0 : decide (0 ≤ x9_4) = true := decide_eq_true c24; clear c24
               by_cases c25 : 0 < ((rd_L1 l0_5 x9_4).length : Int)
               ·rw [if_pos c25] at H; have c25b0 : decide (0 < ((rd_L1 l0_5 x9_4).length : Int)) = true := decide_eq_true c25; have c25b1 : decide (0 < (rd_L1 l0_5 x9_4).length) = true := decide_eq_true (by omega); clear c25
                by_cases c26 : (rd (rd_L1 l0_5 x9_4) 0) = t166
                ·rw [if_pos c26] at H; have c26b0 : ((rd (rd_L1 l0_5 x9_4) 0) == t166) = true := beq_iff_eq.mpr c26; have c26b1 : ((rd (rd_L1 l0_5 x9_4) 0) != t166) = false := bne_eq_false_iff_eq.mpr c26; clear c26
                 by_cases c27 : 1 < ((rd_L1 l0_5 x9_4).length : Int)
                 ·rw [if_pos c27] at H; have c27b0 : decide (1 < ((rd_L1 l0_5 x9_4).length : Int)) = true := decide_eq_true c27; have c27b1 : decide (1 < (rd_L1 l0_5 x9_4).length) = true := decide_eq_true (by omega); clear c27
                  by_cases c28 : (rd (rd_L1 l0_5 x9_4) 1) = t167
                  ·rw [if_pos c28] at H; have c28b0 : ((rd (rd_L1 l0_5 x9_4) 1) == t167) = true := beq_iff_eq.mpr c28; have c28b1 : ((rd (rd_L1 l0_5 x9_4) 1) != t167) = false := bne_eq_false_iff_eq.mpr c28; clear c28; obtain rfl := Option.some.inj H; obtain ⟨hcz29_0, hcz29_1, hcz29_2, hcz29_3, hcz29_4, hcz29_5, -⟩ := bx6_ (w := w) HBP0.out; have p173 : 0 ≤ (x9_4 : Int) := da_; have q173 : x9_4 < (l0_5.length : Int) := da_; obtain ⟨ad173, A173_0, c173_0, e173, hx173_0, hl173_0, hi173_0⟩ := at_L1 HR0_5.out x9_4 p173 q173; cases e173; have HR173_0 := Aside0.mk hi173_0; have HC173_0 := Aside0.mk hl173_0; clear hi173_0 hl173_0; replace p173 := eq_true p173; replace q173 := eq_true q173; have p174 : 0 ≤ (0 : Int) := (by omega); have q174 : 0 < ((rd_L1 l0_5 x9_4).length : Int) := da_; obtain ⟨ad174, e174, hx174_0⟩ := Kd.at_int HR173_0.out 0 p174 q174; cases e174; have qi174 : (0 < (rd_L1 l0_5 x9_4).length) = True := eq_true (by omega); (try rw [ti0_] at hx174_0); (try rw [Addr.add_zero'] at hx174_0); replace p174 := eq_true p174; replace q174 := eq_true q174; have p175 : 0 ≤ (x9_4 : Int) := da_; have q175 : x9_4 < (l0_5.length : Int) := da_; obtain ⟨ad175, A175_0, c175_0, e175, hx175_0, hl175_0, hi175_0⟩ := at_L1 HR0_5.out x9_4 p175 q175; obtain rfl : ad173 = ad175 := (by injection e175); have HR175_0 := Aside0.mk hi175_0; have HC175_0 := Aside0.mk hl175_0; clear hi175_0 hl175_0; replace p175 := eq_true p175; replace q175 := eq_true q175; have ea_ := Option.some.inj (hx173_0.symm.trans hx175_0)
                   injection ea_ with ea_ en_ ec_
                   subst ea_; subst ec_; clear en_; have p176 : 0 ≤ (1 : Int) := (by omega); have q176 : 1 < ((rd_L1 l0_5 x9_4).length : Int) := da_; obtain ⟨ad176, e176, hx176_0⟩ := Kd.at_int HR175_0.out 1 p176 q176; cases e176; (try simp only [ti1_, Nat.reduceMul, Nat.reduceEqDiff, Go.Addr.add, ↓reduceIte] at hx176_0); have qi176 : (1 < (rd_L1 l0_5 x9_4).length) = True := eq_true (by omega); (try rw [ti1_] at hx176_0); replace p176 := eq_true p176; replace q176 := eq_true q176; go_wp2
                   go_ret
                   exact ⟨sv_, dr_⟩
                  ·rw [if_neg c28] at H; have c28b0 : ((rd (rd_L1 l0_5 x9_4) 1) == t167) = false := beq_eq_false_iff_ne.mpr c28; have c28b1 : ((rd (rd_L1 l0_5 x9_4) 1) != t167) = true := bne_iff_ne.mpr c28; have H' := Aside0.mk H; clear H; obtain ⟨hcz30_0, hcz30_1, hcz30_2, hcz30_3, hcz30_4, hcz30_5, -⟩ := bx6_ (w := w) HBP0.out; have p173 : 0 ≤ (x9_4 : Int) := da_; have q173 : x9_4 < (l0_5.length : Int) := da_; obtain ⟨ad173, A173_0, c173_0, e173, hx173_0, hl173_0, hi173_0⟩ := at_L1 HR0_5.out x9_4 p173 q173; cases e173; have HR173_0 := Aside0.mk hi173_0; have HC173_0 := Aside0.mk hl173_0; clear hi173_0 hl173_0; replace p173 := eq_true p173; replace q173 := eq_true q173; have p174 : 0 ≤ (0 : Int) := (by omega); have q174 : 0 < ((rd_L1 l0_5 x9_4).length : Int) := da_; obtain ⟨ad174, e174, hx174_0⟩ := Kd.at_int HR173_0.out 0 p174 q174; cases e174; have qi174 : (0 < (rd_L1 l0_5 x9_4).length) = True := eq_true (by omega); (try rw [ti0_] at hx174_0); (try rw [Addr.add_zero'] at hx174_0); replace p174 := eq_true p174; replace q174 := eq_true q174; have p175 : 0 ≤ (x9_4 : Int) := da_; have q175 : x9_4 < (l0_5.length : Int) := da_; obtain ⟨ad175, A175_0, c175_0, e175, hx175_0, hl175_0, hi175_0⟩ := at_L1 HR0_5.out x9_4 p175 q175; obtain rfl : ad173 = ad175 := (by injection e175); have HR175_0 := Aside0.mk hi175_0; have HC175_0 := Aside0.mk hl175_0; clear hi175_0 hl175_0; replace p175 := eq_true p175; replace q175 := eq_true q175; have ea_ := Option.some.inj (hx173_0.symm.trans hx175_0)
                   injection ea_ with ea_ en_ ec_
                   subst ea_; subst ec_; clear en_; have p176 : 0 ≤ (1 : Int) := (by omega); have q176 : 1 < ((rd_L1 l0_5 x9_4).length : Int) := da_; obtain ⟨ad176, e176, hx176_0⟩ := Kd.at_int HR175_0.out 1 p176 q176; cases e176; (try simp only [ti1_, Nat.reduceMul, Nat.reduceEqDiff, Go.Addr.add, ↓reduceIte] at hx176_0); have qi176 : (1 < (rd_L1 l0_5 x9_4).length) = True := eq_true (by omega); (try rw [ti1_] at hx176_0); replace p176 := eq_true p176; replace q176 := eq_true q176; go_wp2
                   go_roundg k4
                   case measure => have := HJ5.out; have := HJ12.out; have := HJ17.out; have := HK4.out; omega
                   case rel => exact ⟨(wrap64 (x9_4 + 1)), sv_, H', ⟨by have := HJ5.out; have := HJ12.out; have := HJ17.out; have := HK4.out; omega⟩, ⟨by (with_reducible repeat (first | refine blk_drewN ?_ _ | refine blk_drew ?_ | refine blk_alloc ?_ _)); exact HBP0.out⟩, dr_⟩
                 ·rw [if_neg c27] at H; exact absurd H (by simp)
                ·rw [if_neg c26] at H; have c26b0 : ((rd (rd_L1 l0_5 x9_4) 0) == t166) = false := beq_eq_false_iff_ne.mpr c26; have c26b1 : ((rd (rd_L1 l0_5 x9_4) 0) != t166) = true := bne_iff_ne.mpr c26; have H' := Aside0.mk H; clear H; obtain ⟨hcz31_0, hcz31_1, hcz31_2, hcz31_3, hcz31_4, hcz31_5, -⟩ := bx6_ (w := w) HBP0.out; have p173 : 0 ≤ (x9_4 : Int) := da_; have q173 : x9_4 < (l0_5.length : Int) := da_; obtain ⟨ad173, A173_0, c173_0, e173, hx173_0, hl173_0, hi173_0⟩ := at_L1 HR0_5.out x9_4 p173 q173; cases e173; have HR173_0 := Aside0.mk hi173_0; have HC173_0 := Aside0.mk hl173_0; clear hi173_0 hl173_0; replace p173 := eq_true p173; replace q173 := eq_true q173; have p174 : 0 ≤ (0 : Int) := (by omega); have q174 : 0 < ((rd_L1 l0_5 x9_4).length : Int) := da_; obtain ⟨ad174, e174, hx174_0⟩ := Kd.at_int HR173_0.out 0 p174 q174; cases e174; have qi174 : (0 < (rd_L1 l0_5 x9_4).length) = True := eq_true (by omega); (try rw [ti0_] at hx174_0); (try rw [Addr.add_zero'] at hx174_0); replace p174 := eq_true p174; replace q174 := eq_true q174; go_wp2
                 go_roundg k4
                 case measure => have := HJ5.out; have := HJ12.out; have := HJ17.out; have := HK4.out; omega
                 case rel => exact ⟨(wrap64 (x9_4 + 1)), sv_, H', ⟨by have := HJ5.out; have := HJ12.out; have := HJ17.out; have := HK4.out; omega⟩, ⟨by (with_reducible repeat (first | refine blk_drewN ?_ _ | refine blk_drew ?_ | refine blk_alloc ?_ _)); exact HBP0.out⟩, dr_⟩
               ·rw [if_neg c25] at H; exact absurd H (by simp)
              ·rw [if_neg c24] at H; exact absurd H (by simp)
             ·rw [if_neg c23] at H; have c23b0 : decide (x9_4 < (l0_5.length : Int)) = false := decide_eq_false c23; clear c23; obtain rfl := Option.some.inj H; obtain ⟨hcz32_0, hcz32_1, hcz32_2, hcz32_3, hcz32_4, hcz32_5, -⟩ := bx6_ (w := w) HBP0.out; go_wp2
              go_ret
              exact ⟨sv_, dr_⟩
def spec_l05Next.l0 : Nat → Int → List Int → Int → ByteArray → List Int → List Int → Int → Int → List (List Int) → Option (List Int)
 | 0, _, _, _, _, _, _, _, _, _ => none
 | k + 1, x1, x5, x6, x178000, x178001, x178002, x178003, x178004, x178005 => if x6 ≤ 23 then ((spec_l05Reason.f k x178000 x178001 x178002 x178003 x178004 x178005 x1 x6).bind fun t181 => (if t181 = 0 then (if x5.length < 17592186044416 then (spec_l05Next.l0 k x1 (x5 ++ [x6]) (wrap64 (x6 + 1)) x178000 x178001 x178002 x178003 x178004 x178005) else (none)) else (spec_l05Next.l0 k x1 x5 (wrap64 (x6 + 1)) x178000 x178001 x178002 x178003 x178004 x178005))) else (some x5)
def spec_l05Next.f (k : Nat) (a0_0 : ByteArray) (l0_1 : List Int) (l0_2 : List Int) (a0_3 : Int) (a0_4 : Int) (l0_5 : List (List Int)) (a1 : Int) : Option (List Int) := spec_l05Next.l0 k a1 (([] : List Int)) (-12) a0_0 l0_1 l0_2 a0_3 a0_4 l0_5
theorem spec_l05Next.calls (k : Nat) (g0 : Nat) (a0_0 : ByteArray) (A0_1 : Option Addr) (c0_1 : Nat) (l0_1 : List Int) (A0_2 : Option Addr) (c0_2 : Nat) (l0_2 : List Int) (a0_3 : Int) (a0_4 : Int) (A0_5 : Option Addr) (c0_5 : Nat) (l0_5 : List (List Int)) (a1 : Int) (r : List Int) (w : World) (hp0 : w.heap[g0]? = some (.cells #[.string a0_0, .slice A0_1 l0_1.length c0_1, .slice A0_2 l0_2.length c0_2, .int .i64 a0_3, .int .i64 a0_4, .slice A0_5 l0_5.length c0_5] 29 (0, 0))) (hr0_1 : Kd.C (Kd.int .i64) w A0_1 l0_1.length l0_1) (hc0_1 : l0_1.length ≤ c0_1) (hr0_2 : Kd.C (Kd.int .i64) w A0_2 l0_2.length l0_2) (hc0_2 : l0_2.length ≤ c0_2) (hr0_5 : Kd.C (Kd.slice 2 (Kd.int .i64)) w A0_5 l0_5.length l0_5) (hc0_5 : l0_5.length ≤ c0_5) (h : spec_l05Next.f k a0_0 l0_1 l0_2 a0_3 a0_4 l0_5 a1 = some r) :
  Calls Try.prog 112 #[.pointer (some ⟨g0, 0, none⟩), .int .i64 a1] w fun e w' => ∃ v0_ : Value, e = .returned (v0_) ∧ Kd.R (Kd.int .i64) 2 w' w.heap.size (fun _ => True) v0_ r ∧ Below w.heap.size w w' := by
 have HR0_1 := Aside0.mk hr0_1; have HC0_1 := Aside0.mk hc0_1; clear hr0_1 hc0_1; have HR0_2 := Aside0.mk hr0_2; have HC0_2 := Aside0.mk hc0_2; clear hr0_2 hc0_2; have HR0_5 := Aside0.mk hr0_5; have HC0_5 := Aside0.mk hc0_5; clear hr0_5 hc0_5; have HB := Aside0.mk (Below.refl w.heap.size w); have HBX0 := Aside0.mk hp0; have HBP0 := Aside0.mk hp0; clear hp0; have H : (spec_l05Next.l0 k a1 (([] : List Int)) (-12) a0_0 l0_1 l0_2 a0_3 a0_4 l0_5) = some r := h; clear h; obtain ⟨y178, hy178⟩ : ∃ y_ : List Int, y_ = (([] : List Int)) := ⟨_, rfl⟩
 replace H : (spec_l05Next.l0 k a1 y178 (-12) a0_0 l0_1 l0_2 a0_3 a0_4 l0_5) = some r := by first | (rw [hy178]; with_reducible exact H) | (have H2_ := (Option.bind_some _ _).symm.trans H; rw [hy178]; with_reducible exact H2_) | (have H2_ := (Option.bind_some _ _).symm.trans H; with_reducible exact H2_) | with_reducible exact H | (rw [hy178]; exact H) | exact H
 have Ny178 := Aside0.mk hy178; clear hy178; have H' := Aside0.mk H; clear H; go_enter Try.func112, Try.ntmps112; go_wp2_with (first | ((with_reducible refine gate_dst (N := 7) rfl ?_); refine Kd.R_lit (Kd.int .i64) _ 2 ?hg (N := 7) ?hd (xs := ([] : List Int)) (inner := []) (ok := fun _ => True) (okp := fun _ => True) ?hr ?hp (fun _ hk => hk) trivial (Below.refl _ _) (Nat.le_refl _) (by simp) ?_; (case hd => rfl); (case hg => rfl); (case hr => first | (go_simp; done) | (go_simp; rfl)); (case hp => exact (Reps.none _ _)); intro v179 w3 ho4 hb hg_ hnew_; clear hg_ hnew_; (first | rw [← Ny178.out] at ho4 | (simp only [Int.reduceToNat] at ho4; rw [← Ny178.out] at ho4)); have n0_ := Aside0.mk (Kd.R_lower ho4 (below_size (bb_ HB.out))); have n1_ := Aside0.mk (below_step (bb_ HB.out) hb); clear HB; have HO180 := n0_; have HB := n1_; clear n0_ n1_; clear hb ho4))
 go_loopg [5, 6] k (fun kq v5 v6 w' => ∃ (x5_1 : List Int) (x6_1 : Int), v6 = .int .i64 x6_1 ∧ Aside0 (spec_l05Next.l0 kq a1 x5_1 x6_1 a0_0 l0_1 l0_2 a0_3 a0_4 l0_5 = some r) ∧ Aside0 (kq ≤ k) ∧ Aside0 (Kd.R (Kd.int .i64) 2 w' w.heap.size (fun _ => True) v5 x5_1) ∧ Aside0 (w'.heap[g0]? = some (.cells #[.string a0_0, (.slice A0_1 l0_1.length c0_1), (.slice A0_2 l0_2.length c0_2), .int .i64 a0_3, .int .i64 a0_4, (.slice A0_5 l0_5.length c0_5)] 29 (0, 0))) ∧ Aside0 (Below w.heap.size w w'))
 case atStart => exact ⟨(y178), ((-12)), sv_, H', ⟨Nat.le_refl _⟩, ⟨rr_ HO180.out⟩, ⟨by exact blk_below HBP0.out (bb_ HB.out)⟩, ⟨bb_ HB.out⟩⟩
 case round =>
  clear H'; (try clear c1); (try clear p2); obtain ⟨x5_1, x6_1, rfl, HA, HK1, HO_5, HBX0, HB⟩ := hrel
  cases gk with
  | zero => exact absurd HA.out (by simp [spec_l05Next.l0])
  | succ k1 =>
   have H := HA.out; clear HA; simp only [spec_l05Next.l0] at H
   by_cases c5 : x6_1 ≤ 23
   ·rw [if_pos c5] at H; have c5b0 : decide (x6_1 ≤ 23) = true := decide_eq_true c5; clear c5; replace H := Option.bind_eq_some_iff.mp H; obtain ⟨t181, A60, H⟩ := H; (try dsimp only at H); have A6 := Aside0.mk A60; clear A60
    by_cases c7 : t181 = 0
    ·rw [if_pos c7] at H; have c7b0 : (t181 == 0) = true := beq_iff_eq.mpr c7; have c7b1 : (t181 != 0) = false := bne_eq_false_iff_eq.mpr c7; clear c7
     by_cases c8 : x5_1.length < 17592186044416
     ·rw [if_pos c8] at H; have LMc8 := Aside0.mk c8; clear c8; obtain ⟨y182, hy182⟩ : ∃ y_ : List Int, y_ = (x5_1 ++ [x6_1]) := ⟨_, rfl⟩
      replace H : (spec_l05Next.l0 k1 a1 y182 (wrap64 (x6_1 + 1)) a0_0 l0_1 l0_2 a0_3 a0_4 l0_5) = some r := by first | (rw [hy182]; with_reducible exact H) | (have H2_ := (Option.bind_some _ _).symm.trans H; rw [hy182]; with_reducible exact H2_) | (have H2_ := (Option.bind_some _ _).symm.trans H; with_reducible exact H2_) | with_reducible exact H | (rw [hy182]; exact H) | exact H
      have Ny182 := Aside0.mk hy182; clear hy182; have H' := Aside0.mk H; clear H; go_wp2_with (first | ((with_reducible refine gate_callee (f := 105) rfl ?_); refine goesL_ (some 15) rfl rfl Try.func105 (by kernel_rfl) rfl #[.pointer (some ⟨g0, 0, none⟩), .int .i64 a1, .int .i64 x6_1] rfl av_ ?_; (with_reducible refine (spec_l05Reason.calls k1 g0 a0_0 A0_1 c0_1 l0_1 A0_2 c0_2 l0_2 a0_3 a0_4 A0_5 c0_5 l0_5 a1 x6_1 t181 _ ?side1 ?side2 HC0_1.out ?side4 HC0_2.out ?side6 HC0_5.out A6.out).mono ?_); (case side1 => exact blk_below HBP0.out (bb_ HB.out)); (case side2 => exact (Kd.C_below HR0_1.out HB.out)); (case side4 => exact (Kd.C_below HR0_2.out HB.out)); (case side6 => exact (Kd.C_below HR0_5.out HB.out)); rintro e w' ⟨rfl, ⟨nd, rfl⟩⟩; refine ⟨_, rfl, ?_⟩) | ((with_reducible refine gate_builtin (b := .append) (xs := #[.tmp 17, .tmp 19]) rfl ?_); at_builtin; refine Kd.R_append (Kd.int .i64) (w0 := w) w.heap.size rfl (.tmp 17) (.tmp 19) 22 2 (.int .i64 0) 8 rfl Try.underlying22 info2 rfl (by decide) (by omega) u5 x5_1 x6_1 [.int .i64 x6_1] (fun _ => True) (fun _ => False) rfl rfl ?aP (fun _ hk => hk.elim) ?aF ?aO ?aB ?aS ?aL ?_; (case aP => exact rfl); (case aB => exact (bb_ HB.out)); (case aF => exact (fun _ _ => trivial)); (case aO => exact (rr_ HO_5.out)); (case aS => exact (below_size (bb_ HB.out))); (case aL => have := LMc8.out; omega); intro v183 w9 ho hb hg hat; rw [← Ny182.out] at ho; have n0_ := Aside0.mk (hb); have n1_ := Aside0.mk (ho); clear HB; clear HO_5; have HB := n0_; have HO184 := n1_; clear n0_ n1_; clear ho hb hg hat))
      go_roundg k1
      case measure => have := HK1.out; omega
      case rel => exact ⟨(y182), (wrap64 (x6_1 + 1)), sv_, H', ⟨by have := HK1.out; omega⟩, ⟨rr_ HO184.out⟩, ⟨by exact blk_below HBP0.out (bb_ HB.out)⟩, ⟨bb_ HB.out⟩⟩
     ·rw [if_neg c8] at H; exact absurd H (by simp)
    ·rw [if_neg c7] at H; have c7b0 : (t181 == 0) = false := beq_eq_false_iff_ne.mpr c7; have c7b1 : (t181 != 0) = true := bne_iff_ne.mpr c7; have H' := Aside0.mk H; clear H; go_wp2_with (first | ((with_reducible refine gate_callee (f := 105) rfl ?_); refine goesL_ (some 15) rfl rfl Try.func105 (by kernel_rfl) rfl #[.pointer (some ⟨g0, 0, none⟩), .int .i64 a1, .int .i64 x6_1] rfl av_ ?_; (with_reducible refine (spec_l05Reason.calls k1 g0 a0_0 A0_1 c0_1 l0_1 A0_2 c0_2 l0_2 a0_3 a0_4 A0_5 c0_5 l0_5 a1 x6_1 t181 _ ?side1 ?side2 HC0_1.out ?side4 HC0_2.out ?side6 HC0_5.out A6.out).mono ?_); (case side1 => exact blk_below HBP0.out (bb_ HB.out)); (case side2 => exact (Kd.C_below HR0_1.out HB.out)); (case side4 => exact (Kd.C_below HR0_2.out HB.out)); (case side6 => exact (Kd.C_below HR0_5.out HB.out)); rintro e w' ⟨rfl, ⟨nd, rfl⟩⟩; refine ⟨_, rfl, ?_⟩))
     go_roundg k1
     case measure => have := HK1.out; omega
     case rel => exact ⟨(x5_1), (wrap64 (x6_1 + 1)), sv_, H', ⟨by have := HK1.out; omega⟩, ⟨rr_ HO_5.out⟩, ⟨by exact blk_below HBP0.out (bb_ HB.out)⟩, ⟨bb_ HB.out⟩⟩
   ·rw [if_neg c5] at H; have c5b0 : decide (x6_1 ≤ 23) = false := decide_eq_false c5; clear c5; obtain rfl := Option.some.inj H; go_wp2
    go_ret
    exact ⟨_, by first | rfl | (simp [errW_none, errW_some] <;> rfl) | (simp [*, errW_none, errW_some] <;> rfl), rr_ HO_5.out, bb_ HB.out⟩
end Go.Proofs.Ytinlejhffokbaaa.P
end
