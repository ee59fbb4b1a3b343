/- Texts of this seat, merged: QSpecL05Reason, QSpecL05Wrong, QSpecL00Same, QSpecL15Has, QSpecL15Parts, QSpecL15Repeats, QSpecL15Is. -/
import Derived.Test.YtinlejhffokbaaaGSAT1
import Derived.Test.YtinlejhffokbaaaGSAT5
section
namespace Go.Proofs.Ytinlejhffokbaaa.P
open Go.RowKit Go.Proofs.YtinlejhffokbaaaW.PrintWords Go.Proofs.YtinlejhffokbaaaW.PrintLast Go.Proofs.YtinlejhffokbaaaW.PrintMore
attribute [local go_sem] max2_int min2_int max_two min_two max_three min_three max_four min_four   -- for this text's walks alone
set_option linter.unusedVariables false
set_option linter.unusedSimpArgs false
/-! ### spec_l05Reason: function 105 -/
mutual
def spec_l05Reason.j0 : Nat → Int → Int → Int → Int → Bool → ByteArray → List Int → List Int → Int → Int → List (List Int) → Option (Int)
 | 0, _, _, _, _, _, _, _, _, _, _, _ => none
 | k + 1, x1, x2, x7, x8, x23, x166000, x166001, x166002, x166003, x166004, x166005 => if x23 = true then (some 1) else ((spec_l00Max.f (wrap64 (x1 - x2)) (wrap64 (x2 - x1))).bind fun t170 => (if t170 > 12 then (some 2) else (if x2 > x1 then ((spec_l00Has.f k x166001 x8).bind fun t171 => (spec_l05Reason.j1 k x1 x2 x7 x8 (!t171) x166000 x166001 x166002 x166003 x166004 x166005)) else (spec_l05Reason.j1 k x1 x2 x7 x8 false x166000 x166001 x166002 x166003 x166004 x166005))))
def spec_l05Reason.j1 : Nat → Int → Int → Int → Int → Bool → ByteArray → List Int → List Int → Int → Int → List (List Int) → Option (Int)
 | 0, _, _, _, _, _, _, _, _, _, _, _ => none
 | k + 1, x1, x2, x7, x8, x43, x166000, x166001, x166002, x166003, x166004, x166005 => if x43 = true then (some 3) else (if x2 < x1 then ((spec_l00Has.f k x166002 x8).bind fun t172 => (spec_l05Reason.j2 k x7 x8 (!t172) x166000 x166001 x166002 x166003 x166004 x166005)) else (spec_l05Reason.j2 k x7 x8 false x166000 x166001 x166002 x166003 x166004 x166005))
def spec_l05Reason.j2 : Nat → Int → Int → Bool → ByteArray → List Int → List Int → Int → Int → List (List Int) → Option (Int)
 | 0, _, _, _, _, _, _, _, _, _ => none
 | k + 1, x7, x8, x55, x166000, x166001, x166002, x166003, x166004, x166005 => if x55 = true then (some 4) else (spec_l05Reason.l0 k x7 x8 0 x166000 x166001 x166002 x166003 x166004 x166005)
def spec_l05Reason.l0 : Nat → Int → Int → Int → ByteArray → List Int → List Int → Int → Int → List (List Int) → Option (Int)
 | 0, _, _, _, _, _, _, _, _, _ => none
 | k + 1, x7, x8, x9, x166000, x166001, x166002, x166003, x166004, x166005 => if x9 < (x166005.length : Int) then (if 0 ≤ x9 then (if 0 < ((rd_L1 x166005 x9).length : Int) then (if (rd (rd_L1 x166005 x9) 0) = x7 then (if 1 < ((rd_L1 x166005 x9).length : Int) then (if (rd (rd_L1 x166005 x9) 1) = x8 then (some 5) else (spec_l05Reason.l0 k x7 x8 (wrap64 (x9 + 1)) x166000 x166001 x166002 x166003 x166004 x166005)) else (none)) else (spec_l05Reason.l0 k x7 x8 (wrap64 (x9 + 1)) x166000 x166001 x166002 x166003 x166004 x166005)) else (none)) else (none)) else (some 0)
end
def spec_l05Reason.f (k : Nat) (a0_0 : ByteArray) (l0_1 : List Int) (l0_2 : List Int) (a0_3 : Int) (a0_4 : Int) (l0_5 : List (List Int)) (a1 : Int) (a2 : Int) : Option (Int) := (spec_l03Tone.f a1).bind fun t166 => ((spec_l03Tone.f a2).bind fun t167 => ((spec_l05Tone.f k a0_0 l0_1 l0_2 a0_3 a0_4 l0_5 t166).bind fun t168 => (if t168 = true then ((spec_l05Tone.f k a0_0 l0_1 l0_2 a0_3 a0_4 l0_5 t167).bind fun t169 => (spec_l05Reason.j0 k a1 a2 t166 t167 (!t169) a0_0 l0_1 l0_2 a0_3 a0_4 l0_5)) else (spec_l05Reason.j0 k a1 a2 t166 t167 true a0_0 l0_1 l0_2 a0_3 a0_4 l0_5))))
set_option maxHeartbeats 8000000 in
set_option maxRecDepth 100000 in
theorem spec_l05Reason.calls (k : Nat) (g0 : Nat) (a0_0 : ByteArray) (A0_1 : Option Addr) (c0_1 : Nat) (l0_1 : List Int) (A0_2 : Option Addr) (c0_2 : Nat) (l0_2 : List Int) (a0_3 : Int) (a0_4 : Int) (A0_5 : Option Addr) (c0_5 : Nat) (l0_5 : List (List Int)) (a1 : Int) (a2 : Int) (r : Int) (w : World) (hp0 : w.heap[g0]? = some (.cells #[.string a0_0, .slice A0_1 l0_1.length c0_1, .slice A0_2 l0_2.length c0_2, .int .i64 a0_3, .int .i64 a0_4, .slice A0_5 l0_5.length c0_5] 29 (0, 0))) (hr0_1 : Kd.C (Kd.int .i64) w A0_1 l0_1.length l0_1) (hc0_1 : l0_1.length ≤ c0_1) (hr0_2 : Kd.C (Kd.int .i64) w A0_2 l0_2.length l0_2) (hc0_2 : l0_2.length ≤ c0_2) (hr0_5 : Kd.C (Kd.slice 2 (Kd.int .i64)) w A0_5 l0_5.length l0_5) (hc0_5 : l0_5.length ≤ c0_5) (h : spec_l05Reason.f k a0_0 l0_1 l0_2 a0_3 a0_4 l0_5 a1 a2 = some r) :
  Calls Try.prog 105 #[.pointer (some ⟨g0, 0, none⟩), .int .i64 a1, .int .i64 a2] w fun e w' => e = .returned (.int .i64 r) ∧ Drawn0 w w' := by
 have HR0_1 := Aside0.mk hr0_1
 have HC0_1 := Aside0.mk hc0_1
 clear hr0_1 hc0_1
 have HR0_2 := Aside0.mk hr0_2
 have HC0_2 := Aside0.mk hc0_2
 clear hr0_2 hc0_2
 have HR0_5 := Aside0.mk hr0_5
 have HC0_5 := Aside0.mk hc0_5
 clear hr0_5 hc0_5
 have HBX0 := Aside0.mk hp0
 have HBP0 := Aside0.mk hp0
 clear hp0
 have H : ((spec_l03Tone.f a1).bind fun t166 => ((spec_l03Tone.f a2).bind fun t167 => ((spec_l05Tone.f k a0_0 l0_1 l0_2 a0_3 a0_4 l0_5 t166).bind fun t168 => (if t168 = true then ((spec_l05Tone.f k a0_0 l0_1 l0_2 a0_3 a0_4 l0_5 t167).bind fun t169 => (spec_l05Reason.j0 k a1 a2 t166 t167 (!t169) a0_0 l0_1 l0_2 a0_3 a0_4 l0_5)) else (spec_l05Reason.j0 k a1 a2 t166 t167 true a0_0 l0_1 l0_2 a0_3 a0_4 l0_5))))) = some r := h
 clear h
 replace H := Option.bind_eq_some_iff.mp H
 obtain ⟨t166, A40, H⟩ := H
 replace H : ((spec_l03Tone.f a2).bind fun t167 => ((spec_l05Tone.f k a0_0 l0_1 l0_2 a0_3 a0_4 l0_5 t166).bind fun t168 => (if t168 = true then ((spec_l05Tone.f k a0_0 l0_1 l0_2 a0_3 a0_4 l0_5 t167).bind fun t169 => (spec_l05Reason.j0 k a1 a2 t166 t167 (!t169) a0_0 l0_1 l0_2 a0_3 a0_4 l0_5)) else (spec_l05Reason.j0 k a1 a2 t166 t167 true a0_0 l0_1 l0_2 a0_3 a0_4 l0_5)))) = some r := H
 have A4 := Aside0.mk A40
 clear A40
 replace H := Option.bind_eq_some_iff.mp H
 obtain ⟨t167, A50, H⟩ := H
 replace H : ((spec_l05Tone.f k a0_0 l0_1 l0_2 a0_3 a0_4 l0_5 t166).bind fun t168 => (if t168 = true then ((spec_l05Tone.f k a0_0 l0_1 l0_2 a0_3 a0_4 l0_5 t167).bind fun t169 => (spec_l05Reason.j0 k a1 a2 t166 t167 (!t169) a0_0 l0_1 l0_2 a0_3 a0_4 l0_5)) else (spec_l05Reason.j0 k a1 a2 t166 t167 true a0_0 l0_1 l0_2 a0_3 a0_4 l0_5))) = some r := H
 have A5 := Aside0.mk A50
 clear A50
 have HC6 := Aside0.mk H
 clear H
 go_enter Try.func105, Try.ntmps105
 go_upto_region 3 with (first | ((with_reducible refine gate_callee (f := 60) rfl ?_); refine goesL_ (some 11) rfl rfl Try.func60 (by kernel_rfl) rfl #[.int .i64 a1] rfl av_ ?_; (with_reducible refine (spec_l03Tone.calls a1 t166 _ A4.out).mono ?_); rintro e w' ⟨rfl, ⟨nd, rfl⟩⟩; refine ⟨_, rfl, ?_⟩) | ((with_reducible refine gate_callee (f := 60) rfl ?_); refine goesL_ (some 13) rfl rfl Try.func60 (by kernel_rfl) rfl #[.int .i64 a2] rfl av_ ?_; (with_reducible refine (spec_l03Tone.calls a2 t167 _ A5.out).mono ?_); rintro e w' ⟨rfl, ⟨nd, rfl⟩⟩; refine ⟨_, rfl, ?_⟩))
 (try simp only [Act.put, List.setIfInBounds_toArray, List.set_cons_zero, List.set_cons_succ])
 go_cut [23] (fun v23 wc => ∃ (kq : Nat) (x23_5 : Bool), v23 = .bool x23_5 ∧ Aside0 (spec_l05Reason.j0 kq a1 a2 t166 t167 x23_5 a0_0 l0_1 l0_2 a0_3 a0_4 l0_5 = some r) ∧ Aside0 (kq ≤ k) ∧ Aside0 (wc.heap[g0]? = some (.cells #[.string a0_0, (.slice A0_1 l0_1.length c0_1), (.slice A0_2 l0_2.length c0_2), .int .i64 a0_3, .int .i64 a0_4, (.slice A0_5 l0_5.length c0_5)] 29 (0, 0))) ∧ Drawn0 w wc)
 case first =>
  have H := HC6.out
  clear HC6
  replace H := Option.bind_eq_some_iff.mp H
  obtain ⟨t168, A70, H⟩ := H
  replace H : (if t168 = true then ((spec_l05Tone.f k a0_0 l0_1 l0_2 a0_3 a0_4 l0_5 t167).bind fun t169 => (spec_l05Reason.j0 k a1 a2 t166 t167 (!t169) a0_0 l0_1 l0_2 a0_3 a0_4 l0_5)) else (spec_l05Reason.j0 k a1 a2 t166 t167 true a0_0 l0_1 l0_2 a0_3 a0_4 l0_5)) = some r := H
  have A7 := Aside0.mk A70
  clear A70
  by_cases c8 : t168 = true
  ·subst c8
   have H1 : ((spec_l05Tone.f k a0_0 l0_1 l0_2 a0_3 a0_4 l0_5 t167).bind fun t169 => (spec_l05Reason.j0 k a1 a2 t166 t167 (!t169) a0_0 l0_1 l0_2 a0_3 a0_4 l0_5)) = some r := by rw [if_pos rfl] at H; exact H
   clear H
   have H := H1
   clear H1
   replace H := Option.bind_eq_some_iff.mp H
   obtain ⟨t169, A90, H⟩ := H
   replace H : (spec_l05Reason.j0 k a1 a2 t166 t167 (!t169) a0_0 l0_1 l0_2 a0_3 a0_4 l0_5) = some r := H
   have A9 := Aside0.mk A90
   clear A90
   have H' := Aside0.mk H
   clear H
   go_wp2_with (first | ((with_reducible refine gate_callee (f := 59) rfl ?_); refine goesL_ (some 16) rfl rfl Try.func59 (by kernel_rfl) rfl #[.pointer (some ⟨g0, 0, none⟩), .int .i64 t166] rfl av_ ?_; (with_reducible refine (spec_l05Tone.calls k g0 a0_0 A0_1 c0_1 l0_1 A0_2 c0_2 l0_2 a0_3 a0_4 A0_5 c0_5 l0_5 t166 true _ ?side1 ?side2 ?side3 ?side4 ?side5 ?side6 ?side7 A7.out).mono ?_); (case side1 => exact bk_ HBP0.out); (case side2 => exact cr_ HR0_1.out); (case side3 => exact HC0_1.out); (case side4 => exact cr_ HR0_2.out); (case side5 => exact HC0_2.out); (case side6 => exact cr_ HR0_5.out); (case side7 => exact HC0_5.out); rintro e w' ⟨rfl, ⟨nd, rfl⟩⟩; refine ⟨_, rfl, ?_⟩) | (go_at_call 59; (with_reducible refine (spec_l05Tone.calls k g0 a0_0 A0_1 c0_1 l0_1 A0_2 c0_2 l0_2 a0_3 a0_4 A0_5 c0_5 l0_5 t167 t169 _ ?side1 ?side2 ?side3 ?side4 ?side5 ?side6 ?side7 A9.out).mono ?_); (case side1 => exact bk_ HBP0.out); (case side2 => exact cr_ HR0_1.out); (case side3 => exact HC0_1.out); (case side4 => exact cr_ HR0_2.out); (case side5 => exact HC0_2.out); (case side6 => exact cr_ HR0_5.out); (case side7 => exact HC0_5.out); rintro e w' ⟨rfl, ⟨nd, rfl⟩⟩))
   go_meet
   case rel => exact ⟨_, (!t169), sv_, H', ⟨by first | omega | exact Nat.le_refl _⟩, ⟨by (with_reducible repeat (first | refine blk_drewN ?_ _ | refine blk_drew ?_ | refine blk_alloc ?_ _)); exact HBP0.out⟩, dr_⟩
  ·replace c8 := Bool.eq_false_iff.mpr c8
   subst c8
   have H1 : (spec_l05Reason.j0 k a1 a2 t166 t167 true a0_0 l0_1 l0_2 a0_3 a0_4 l0_5) = some r := by rw [if_neg (show ¬ (false = true) by decide)] at H; exact H
   clear H
   have H := H1
   clear H1
   have H' := Aside0.mk H
   clear H
   go_wp2_with (first | ((with_reducible refine gate_callee (f := 59) rfl ?_); refine goesL_ (some 16) rfl rfl Try.func59 (by kernel_rfl) rfl #[.pointer (some ⟨g0, 0, none⟩), .int .i64 t166] rfl av_ ?_; (with_reducible refine (spec_l05Tone.calls k g0 a0_0 A0_1 c0_1 l0_1 A0_2 c0_2 l0_2 a0_3 a0_4 A0_5 c0_5 l0_5 t166 false _ ?side1 ?side2 ?side3 ?side4 ?side5 ?side6 ?side7 A7.out).mono ?_); (case side1 => exact bk_ HBP0.out); (case side2 => exact cr_ HR0_1.out); (case side3 => exact HC0_1.out); (case side4 => exact cr_ HR0_2.out); (case side5 => exact HC0_2.out); (case side6 => exact cr_ HR0_5.out); (case side7 => exact HC0_5.out); rintro e w' ⟨rfl, ⟨nd, rfl⟩⟩; refine ⟨_, rfl, ?_⟩))
   go_meet
   case rel => exact ⟨_, (true), sv_, H', ⟨by first | omega | exact Nat.le_refl _⟩, ⟨by (with_reducible repeat (first | refine blk_drewN ?_ _ | refine blk_drew ?_ | refine blk_alloc ?_ _)); exact HBP0.out⟩, dr_⟩
 case rest =>
  clear HC6
  (try clear c1); (try clear p2); (try clear c5); (try clear c6); (try clear c8)
  obtain ⟨kq, x23_5, rfl, HA, HJ5, HBX0, ⟨mc5, rfl⟩⟩ := hcut
  cases kq with
  | zero => exact absurd HA.out (by simp [spec_l05Reason.j0])
  | succ kj5 =>
   have H := HA.out
   clear HA
   simp only [spec_l05Reason.j0] at H
   by_cases c10 : x23_5 = true
   ·subst c10
    have H1 : (some 1) = some r := by rw [if_pos rfl] at H; exact H
    clear H
    have H := H1
    clear H1
    obtain rfl := Option.some.inj H
    go_wp2
    go_ret
    exact ⟨sv_, dr_⟩
   ·replace c10 := Bool.eq_false_iff.mpr c10
    subst c10
    have H1 : ((spec_l00Max.f (wrap64 (a1 - a2)) (wrap64 (a2 - a1))).bind fun t170 => (if t170 > 12 then (some 2) else (if a2 > a1 then ((spec_l00Has.f kj5 l0_1 t167).bind fun t171 => (spec_l05Reason.j1 kj5 a1 a2 t166 t167 (!t171) a0_0 l0_1 l0_2 a0_3 a0_4 l0_5)) else (spec_l05Reason.j1 kj5 a1 a2 t166 t167 false a0_0 l0_1 l0_2 a0_3 a0_4 l0_5)))) = some r := by rw [if_neg (show ¬ (false = true) by decide)] at H; exact H
    clear H
    have H := H1
    clear H1
    replace H := Option.bind_eq_some_iff.mp H
    obtain ⟨t170, A110, H⟩ := H
    replace H : (if t170 > 12 then (some 2) else (if a2 > a1 then ((spec_l00Has.f kj5 l0_1 t167).bind fun t171 => (spec_l05Reason.j1 kj5 a1 a2 t166 t167 (!t171) a0_0 l0_1 l0_2 a0_3 a0_4 l0_5)) else (spec_l05Reason.j1 kj5 a1 a2 t166 t167 false a0_0 l0_1 l0_2 a0_3 a0_4 l0_5))) = some r := H
    have A11 := Aside0.mk A110
    clear A110
    by_cases c12 : t170 > 12
    ·rw [if_pos c12] at H
     have c12b0 : decide (12 < t170) = true := decide_eq_true c12
     clear c12
     obtain rfl := Option.some.inj H
     go_wp2_with (first | ((with_reducible refine gate_callee (f := 140) rfl ?_); refine goesL_ (some 30) rfl rfl Try.func140 (by kernel_rfl) rfl #[.int .i64 (wrap64 (a1 - a2)), .int .i64 (wrap64 (a2 - a1))] rfl av_ ?_; (with_reducible refine (spec_l00Max.calls (wrap64 (a1 - a2)) (wrap64 (a2 - a1)) t170 _ A11.out).mono ?_); rintro e w' ⟨rfl, ⟨nd, rfl⟩⟩; refine ⟨_, rfl, ?_⟩))
     go_ret
     exact ⟨sv_, dr_⟩
    ·rw [if_neg c12] at H
     have c12b0 : decide (12 < t170) = false := decide_eq_false c12
     clear c12
     have HC13 := Aside0.mk H
     clear H
     go_upto_region 7 with (first | ((with_reducible refine gate_callee (f := 140) rfl ?_); refine goesL_ (some 30) rfl rfl Try.func140 (by kernel_rfl) rfl #[.int .i64 (wrap64 (a1 - a2)), .int .i64 (wrap64 (a2 - a1))] rfl av_ ?_; (with_reducible refine (spec_l00Max.calls (wrap64 (a1 - a2)) (wrap64 (a2 - a1)) t170 _ A11.out).mono ?_); rintro e w' ⟨rfl, ⟨nd, rfl⟩⟩; refine ⟨_, rfl, ?_⟩))
     (try simp only [Act.put, List.setIfInBounds_toArray, List.set_cons_zero, List.set_cons_succ])
     go_cut [43] (fun v43 wc => ∃ (kq : Nat) (x43_12 : Bool), v43 = .bool x43_12 ∧ Aside0 (spec_l05Reason.j1 kq a1 a2 t166 t167 x43_12 a0_0 l0_1 l0_2 a0_3 a0_4 l0_5 = some r) ∧ Aside0 (kq ≤ kj5) ∧ Aside0 (wc.heap[g0]? = some (.cells #[.string a0_0, (.slice A0_1 l0_1.length c0_1), (.slice A0_2 l0_2.length c0_2), .int .i64 a0_3, .int .i64 a0_4, (.slice A0_5 l0_5.length c0_5)] 29 (0, 0))) ∧ Drawn0 w wc)
     case first =>
      have H := HC13.out
      clear HC13
      by_cases c14 : a2 > a1
      ·rw [if_pos c14] at H
       have c14b0 : decide (a1 < a2) = true := decide_eq_true c14
       clear c14
       (first | rw [c14b0] | (simp only [i64_w, i32_w]; rw [c14b0]) | skip)
       replace H := Option.bind_eq_some_iff.mp H
       obtain ⟨t171, A150, H⟩ := H
       replace H : (spec_l05Reason.j1 kj5 a1 a2 t166 t167 (!t171) a0_0 l0_1 l0_2 a0_3 a0_4 l0_5) = some r := H
       have A15 := Aside0.mk A150
       clear A150
       have H' := Aside0.mk H
       clear H
       have hcz16_0 : w.cell? ⟨g0, 0, none⟩ = some (.string a0_0) := (blk_cell HBP0.out 0).trans rfl
       have hcz16_1 : w.cell? ⟨g0, 1, none⟩ = some (.slice A0_1 l0_1.length c0_1) := (blk_cell HBP0.out 1).trans rfl
       have hcz16_2 : w.cell? ⟨g0, 2, none⟩ = some (.slice A0_2 l0_2.length c0_2) := (blk_cell HBP0.out 2).trans rfl
       have hcz16_3 : w.cell? ⟨g0, 3, none⟩ = some (.int .i64 a0_3) := (blk_cell HBP0.out 3).trans rfl
       have hcz16_4 : w.cell? ⟨g0, 4, none⟩ = some (.int .i64 a0_4) := (blk_cell HBP0.out 4).trans rfl
       have hcz16_5 : w.cell? ⟨g0, 5, none⟩ = some (.slice A0_5 l0_5.length c0_5) := (blk_cell HBP0.out 5).trans rfl
       go_wp2_with (first | (go_at_call 110; (with_reducible refine (spec_l00Has.calls kj5 _ _ l0_1 t167 t171 _ ?side1 ?side2 A15.out).mono ?_); (case side1 => exact cr_ HR0_1.out); (case side2 => exact HC0_1.out); rintro e w' ⟨rfl, ⟨nd, rfl⟩⟩))
       go_meet
       case rel => exact ⟨_, (!t171), sv_, H', ⟨by have := HJ5.out; first | omega | exact Nat.le_refl _⟩, ⟨by (with_reducible repeat (first | refine blk_drewN ?_ _ | refine blk_drew ?_ | refine blk_alloc ?_ _)); exact HBP0.out⟩, dr_⟩
      ·rw [if_neg c14] at H
       have c14b0 : decide (a1 < a2) = false := decide_eq_false c14
       clear c14
       (first | rw [c14b0] | (simp only [i64_w, i32_w]; rw [c14b0]) | skip)
       have H' := Aside0.mk H
       clear H
       go_wp2
       go_meet
       case rel => exact ⟨_, (false), sv_, H', ⟨by have := HJ5.out; first | omega | exact Nat.le_refl _⟩, ⟨by (with_reducible repeat (first | refine blk_drewN ?_ _ | refine blk_drew ?_ | refine blk_alloc ?_ _)); exact HBP0.out⟩, dr_⟩
     case rest =>
      clear HC13
      (try clear c1); (try clear p2); (try clear c5); (try clear c6); (try clear p6); (try clear c8); (try clear c10); (try clear c12); (try clear c12b0); (try clear c14); (try clear c14b0); (try clear hcz16_0); (try clear hcz16_1); (try clear hcz16_2); (try clear hcz16_3); (try clear hcz16_4); (try clear hcz16_5); (try clear p2)
      obtain ⟨kq, x43_12, rfl, HA, HJ12, HBX0, ⟨mc12, rfl⟩⟩ := hcut
      cases kq with
      | zero => exact absurd HA.out (by simp [spec_l05Reason.j1])
      | succ kj12 =>
       have H := HA.out
       clear HA
       simp only [spec_l05Reason.j1] at H
       by_cases c17 : x43_12 = true
       ·subst c17
        have H1 : (some 3) = some r := by rw [if_pos rfl] at H; exact H
        clear H
        have H := H1
        clear H1
        obtain rfl := Option.some.inj H
        go_wp2
        go_ret
        exact ⟨sv_, dr_⟩
       ·replace c17 := Bool.eq_false_iff.mpr c17
        subst c17
        have H1 : (if a2 < a1 then ((spec_l00Has.f kj12 l0_2 t167).bind fun t172 => (spec_l05Reason.j2 kj12 t166 t167 (!t172) a0_0 l0_1 l0_2 a0_3 a0_4 l0_5)) else (spec_l05Reason.j2 kj12 t166 t167 false a0_0 l0_1 l0_2 a0_3 a0_4 l0_5)) = some r := by rw [if_neg (show ¬ (false = true) by decide)] at H; exact H
        clear H
        have H := H1
        clear H1
        have HC18 := Aside0.mk H
        clear H
        go_upto_region 9 with (fail)
        go_cut [55] (fun v55 wc => ∃ (kq : Nat) (x55_17 : Bool), v55 = .bool x55_17 ∧ Aside0 (spec_l05Reason.j2 kq t166 t167 x55_17 a0_0 l0_1 l0_2 a0_3 a0_4 l0_5 = some r) ∧ Aside0 (kq ≤ kj12) ∧ Aside0 (wc.heap[g0]? = some (.cells #[.string a0_0, (.slice A0_1 l0_1.length c0_1), (.slice A0_2 l0_2.length c0_2), .int .i64 a0_3, .int .i64 a0_4, (.slice A0_5 l0_5.length c0_5)] 29 (0, 0))) ∧ Drawn0 w wc)
        case first =>
         have H := HC18.out
         clear HC18
         by_cases c19 : a2 < a1
         ·rw [if_pos c19] at H
          have c19b0 : decide (a2 < a1) = true := decide_eq_true c19
          clear c19
          (first | rw [c19b0] | (simp only [i64_w, i32_w]; rw [c19b0]) | skip)
          replace H := Option.bind_eq_some_iff.mp H
          obtain ⟨t172, A200, H⟩ := H
          replace H : (spec_l05Reason.j2 kj12 t166 t167 (!t172) a0_0 l0_1 l0_2 a0_3 a0_4 l0_5) = some r := H
          have A20 := Aside0.mk A200
          clear A200
          have H' := Aside0.mk H
          clear H
          have hcz21_0 : w.cell? ⟨g0, 0, none⟩ = some (.string a0_0) := (blk_cell HBP0.out 0).trans rfl
          have hcz21_1 : w.cell? ⟨g0, 1, none⟩ = some (.slice A0_1 l0_1.length c0_1) := (blk_cell HBP0.out 1).trans rfl
          have hcz21_2 : w.cell? ⟨g0, 2, none⟩ = some (.slice A0_2 l0_2.length c0_2) := (blk_cell HBP0.out 2).trans rfl
          have hcz21_3 : w.cell? ⟨g0, 3, none⟩ = some (.int .i64 a0_3) := (blk_cell HBP0.out 3).trans rfl
          have hcz21_4 : w.cell? ⟨g0, 4, none⟩ = some (.int .i64 a0_4) := (blk_cell HBP0.out 4).trans rfl
          have hcz21_5 : w.cell? ⟨g0, 5, none⟩ = some (.slice A0_5 l0_5.length c0_5) := (blk_cell HBP0.out 5).trans rfl
          go_wp2_with (first | (go_at_call 110; (with_reducible refine (spec_l00Has.calls kj12 _ _ l0_2 t167 t172 _ ?side1 ?side2 A20.out).mono ?_); (case side1 => exact cr_ HR0_2.out); (case side2 => exact HC0_2.out); rintro e w' ⟨rfl, ⟨nd, rfl⟩⟩))
          go_meet
          case rel => exact ⟨_, (!t172), sv_, H', ⟨by have := HJ5.out; have := HJ12.out; first | omega | exact Nat.le_refl _⟩, ⟨by (with_reducible repeat (first | refine blk_drewN ?_ _ | refine blk_drew ?_ | refine blk_alloc ?_ _)); exact HBP0.out⟩, dr_⟩
         ·rw [if_neg c19] at H
          have c19b0 : decide (a2 < a1) = false := decide_eq_false c19
          clear c19
          (first | rw [c19b0] | (simp only [i64_w, i32_w]; rw [c19b0]) | skip)
          have H' := Aside0.mk H
          clear H
          go_wp2
          go_meet
          case rel => exact ⟨_, (false), sv_, H', ⟨by have := HJ5.out; have := HJ12.out; first | omega | exact Nat.le_refl _⟩, ⟨by (with_reducible repeat (first | refine blk_drewN ?_ _ | refine blk_drew ?_ | refine blk_alloc ?_ _)); exact HBP0.out⟩, dr_⟩
        case rest =>
         clear HC18
         (try clear c1); (try clear p2); (try clear c5); (try clear c6); (try clear p6); (try clear c8); (try clear c10); (try clear c12); (try clear c12b0); (try clear c14); (try clear c14b0); (try clear c17); (try clear c19); (try clear c19b0); (try clear hcz16_0); (try clear hcz16_1); (try clear hcz16_2); (try clear hcz16_3); (try clear hcz16_4); (try clear hcz16_5); (try clear hcz21_0); (try clear hcz21_1); (try clear hcz21_2); (try clear hcz21_3); (try clear hcz21_4); (try clear hcz21_5); (try clear p2); (try clear p6)
         obtain ⟨kq, x55_17, rfl, HA, HJ17, HBX0, ⟨mc17, rfl⟩⟩ := hcut
         cases kq with
         | zero => exact absurd HA.out (by simp [spec_l05Reason.j2])
         | succ kj17 =>
          have H := HA.out
          clear HA
          simp only [spec_l05Reason.j2] at H
          by_cases c22 : x55_17 = true
          ·subst c22
           have H1 : (some 4) = some r := by rw [if_pos rfl] at H; exact H
           clear H
           have H := H1
           clear H1
           obtain rfl := Option.some.inj H
           go_wp2
           go_ret
           exact ⟨sv_, dr_⟩
          ·replace c22 := Bool.eq_false_iff.mpr c22
           subst c22
           have H1 : (spec_l05Reason.l0 kj17 t166 t167 0 a0_0 l0_1 l0_2 a0_3 a0_4 l0_5) = some r := by rw [if_neg (show ¬ (false = true) by decide)] at H; exact H
           clear H
           have H := H1
           clear H1
           have H' := Aside0.mk H
           clear H
           go_wp2
           go_loopg [9] kj17 (fun kq v9 w' => ∃ (x9_4 : Int), v9 = .int .i64 x9_4 ∧ Aside0 (spec_l05Reason.l0 kq t166 t167 x9_4 a0_0 l0_1 l0_2 a0_3 a0_4 l0_5 = some r) ∧ Aside0 (kq ≤ kj17) ∧ Aside0 (w'.heap[g0]? = some (.cells #[.string a0_0, (.slice A0_1 l0_1.length c0_1), (.slice A0_2 l0_2.length c0_2), .int .i64 a0_3, .int .i64 a0_4, (.slice A0_5 l0_5.length c0_5)] 29 (0, 0))) ∧ Drawn0 w w')
           case atStart => exact ⟨(0), sv_, H', ⟨Nat.le_refl _⟩, ⟨by (with_reducible repeat (first | refine blk_drewN ?_ _ | refine blk_drew ?_ | refine blk_alloc ?_ _)); exact HBP0.out⟩, dr_⟩
           case round =>
            clear H'
            (try clear c1); (try clear c2); (try clear p2); (try clear c5); (try clear c6); (try clear p6); (try clear c8); (try clear c10); (try clear c12); (try clear c12b0); (try clear c14); (try clear c14b0); (try clear c17); (try clear c19); (try clear c19b0); (try clear c22); (try clear hcz16_0); (try clear hcz16_1); (try clear hcz16_2); (try clear hcz16_3); (try clear hcz16_4); (try clear hcz16_5); (try clear hcz21_0); (try clear hcz21_1); (try clear hcz21_2); (try clear hcz21_3); (try clear hcz21_4); (try clear hcz21_5); (try clear p2); (try clear p6)
            obtain ⟨x9_4, rfl, HA, HK4, HBX0, ⟨m4, rfl⟩⟩ := hrel
            cases gk with
            | zero => exact absurd HA.out (by simp [spec_l05Reason.l0])
            | succ k4 =>
             have H := HA.out
             clear HA
             simp only [spec_l05Reason.l0] at H
             by_cases c23 : x9_4 < (l0_5.length : Int)
             ·rw [if_pos c23] at H
              have c23b0 : decide (x9_4 < (l0_5.length : Int)) = true := decide_eq_true c23
              clear c23
              by_cases c24 : 0 ≤ x9_4
              ·rw [if_pos c24] at H
               have c24b0 : decide (0 ≤ x9_4) = true := decide_eq_true c24
               clear c24
               by_cases c25 : 0 < ((rd_L1 l0_5 x9_4).length : Int)
               ·rw [if_pos c25] at H
                have c25b0 : decide (0 < ((rd_L1 l0_5 x9_4).length : Int)) = true := decide_eq_true c25
                have c25b1 : decide (0 < (rd_L1 l0_5 x9_4).length) = true := decide_eq_true (by omega)
                clear c25
                by_cases c26 : (rd (rd_L1 l0_5 x9_4) 0) = t166
                ·rw [if_pos c26] at H
                 have c26b0 : ((rd (rd_L1 l0_5 x9_4) 0) == t166) = true := beq_iff_eq.mpr c26
                 have c26b1 : ((rd (rd_L1 l0_5 x9_4) 0) != t166) = false := bne_eq_false_iff_eq.mpr c26
                 clear c26
                 by_cases c27 : 1 < ((rd_L1 l0_5 x9_4).length : Int)
                 ·rw [if_pos c27] at H
                  have c27b0 : decide (1 < ((rd_L1 l0_5 x9_4).length : Int)) = true := decide_eq_true c27
                  have c27b1 : decide (1 < (rd_L1 l0_5 x9_4).length) = true := decide_eq_true (by omega)
                  clear c27
                  by_cases c28 : (rd (rd_L1 l0_5 x9_4) 1) = t167
                  ·rw [if_pos c28] at H
                   have c28b0 : ((rd (rd_L1 l0_5 x9_4) 1) == t167) = true := beq_iff_eq.mpr c28
                   have c28b1 : ((rd (rd_L1 l0_5 x9_4) 1) != t167) = false := bne_eq_false_iff_eq.mpr c28
                   clear c28
                   obtain rfl := Option.some.inj H
                   have hcz29_0 : w.cell? ⟨g0, 0, none⟩ = some (.string a0_0) := (blk_cell HBP0.out 0).trans rfl
                   have hcz29_1 : w.cell? ⟨g0, 1, none⟩ = some (.slice A0_1 l0_1.length c0_1) := (blk_cell HBP0.out 1).trans rfl
                   have hcz29_2 : w.cell? ⟨g0, 2, none⟩ = some (.slice A0_2 l0_2.length c0_2) := (blk_cell HBP0.out 2).trans rfl
                   have hcz29_3 : w.cell? ⟨g0, 3, none⟩ = some (.int .i64 a0_3) := (blk_cell HBP0.out 3).trans rfl
                   have hcz29_4 : w.cell? ⟨g0, 4, none⟩ = some (.int .i64 a0_4) := (blk_cell HBP0.out 4).trans rfl
                   have hcz29_5 : w.cell? ⟨g0, 5, none⟩ = some (.slice A0_5 l0_5.length c0_5) := (blk_cell HBP0.out 5).trans rfl
                   have p173 : 0 ≤ (x9_4 : Int) := da_
                   have q173 : x9_4 < (l0_5.length : Int) := da_
                   obtain ⟨ad173, A173_0, c173_0, e173, hx173_0, hl173_0, hi173_0⟩ := at_L1 HR0_5.out x9_4 p173 q173
                   cases e173
                   have HR173_0 := Aside0.mk hi173_0
                   have HC173_0 := Aside0.mk hl173_0
                   clear hi173_0 hl173_0
                   replace p173 := eq_true p173
                   replace q173 := eq_true q173
                   have p174 : 0 ≤ (0 : Int) := (by omega)
                   have q174 : 0 < ((rd_L1 l0_5 x9_4).length : Int) := da_
                   obtain ⟨ad174, e174, hx174_0⟩ := Kd.at_int HR173_0.out 0 p174 q174
                   cases e174
                   have qi174 : (0 < (rd_L1 l0_5 x9_4).length) = True := eq_true (by omega)
                   (try rw [show ((0 : Int)).toNat = 0 from rfl] at hx174_0)
                   (try rw [Addr.add_zero'] at hx174_0)
                   replace p174 := eq_true p174
                   replace q174 := eq_true q174
                   have p175 : 0 ≤ (x9_4 : Int) := da_
                   have q175 : x9_4 < (l0_5.length : Int) := da_
                   obtain ⟨ad175, A175_0, c175_0, e175, hx175_0, hl175_0, hi175_0⟩ := at_L1 HR0_5.out x9_4 p175 q175
                   obtain rfl : ad173 = ad175 := (by injection e175)
                   have HR175_0 := Aside0.mk hi175_0
                   have HC175_0 := Aside0.mk hl175_0
                   clear hi175_0 hl175_0
                   replace p175 := eq_true p175
                   replace q175 := eq_true q175
                   have ea_ := Option.some.inj (hx173_0.symm.trans hx175_0)
                   injection ea_ with ea_ en_ ec_
                   subst ea_
                   subst ec_
                   clear en_
                   have p176 : 0 ≤ (1 : Int) := (by omega)
                   have q176 : 1 < ((rd_L1 l0_5 x9_4).length : Int) := da_
                   obtain ⟨ad176, e176, hx176_0⟩ := Kd.at_int HR175_0.out 1 p176 q176
                   cases e176
                   (try simp only [show (1 : Int).toNat = 1 from rfl, Nat.reduceMul, Nat.reduceEqDiff, Go.Addr.add, ↓reduceIte] at hx176_0)
                   have qi176 : (1 < (rd_L1 l0_5 x9_4).length) = True := eq_true (by omega)
                   (try rw [show ((1 : Int)).toNat = 1 from rfl] at hx176_0)
                   replace p176 := eq_true p176
                   replace q176 := eq_true q176
                   go_wp2
                   go_ret
                   exact ⟨sv_, dr_⟩
                  ·rw [if_neg c28] at H
                   have c28b0 : ((rd (rd_L1 l0_5 x9_4) 1) == t167) = false := beq_eq_false_iff_ne.mpr c28
                   have c28b1 : ((rd (rd_L1 l0_5 x9_4) 1) != t167) = true := bne_iff_ne.mpr c28
                   have H' := Aside0.mk H
                   clear H
                   have hcz30_0 : w.cell? ⟨g0, 0, none⟩ = some (.string a0_0) := (blk_cell HBP0.out 0).trans rfl
                   have hcz30_1 : w.cell? ⟨g0, 1, none⟩ = some (.slice A0_1 l0_1.length c0_1) := (blk_cell HBP0.out 1).trans rfl
                   have hcz30_2 : w.cell? ⟨g0, 2, none⟩ = some (.slice A0_2 l0_2.length c0_2) := (blk_cell HBP0.out 2).trans rfl
                   have hcz30_3 : w.cell? ⟨g0, 3, none⟩ = some (.int .i64 a0_3) := (blk_cell HBP0.out 3).trans rfl
                   have hcz30_4 : w.cell? ⟨g0, 4, none⟩ = some (.int .i64 a0_4) := (blk_cell HBP0.out 4).trans rfl
                   have hcz30_5 : w.cell? ⟨g0, 5, none⟩ = some (.slice A0_5 l0_5.length c0_5) := (blk_cell HBP0.out 5).trans rfl
                   have p173 : 0 ≤ (x9_4 : Int) := da_
                   have q173 : x9_4 < (l0_5.length : Int) := da_
                   obtain ⟨ad173, A173_0, c173_0, e173, hx173_0, hl173_0, hi173_0⟩ := at_L1 HR0_5.out x9_4 p173 q173
                   cases e173
                   have HR173_0 := Aside0.mk hi173_0
                   have HC173_0 := Aside0.mk hl173_0
                   clear hi173_0 hl173_0
                   replace p173 := eq_true p173
                   replace q173 := eq_true q173
                   have p174 : 0 ≤ (0 : Int) := (by omega)
                   have q174 : 0 < ((rd_L1 l0_5 x9_4).length : Int) := da_
                   obtain ⟨ad174, e174, hx174_0⟩ := Kd.at_int HR173_0.out 0 p174 q174
                   cases e174
                   have qi174 : (0 < (rd_L1 l0_5 x9_4).length) = True := eq_true (by omega)
                   (try rw [show ((0 : Int)).toNat = 0 from rfl] at hx174_0)
                   (try rw [Addr.add_zero'] at hx174_0)
                   replace p174 := eq_true p174
                   replace q174 := eq_true q174
                   have p175 : 0 ≤ (x9_4 : Int) := da_
                   have q175 : x9_4 < (l0_5.length : Int) := da_
                   obtain ⟨ad175, A175_0, c175_0, e175, hx175_0, hl175_0, hi175_0⟩ := at_L1 HR0_5.out x9_4 p175 q175
                   obtain rfl : ad173 = ad175 := (by injection e175)
                   have HR175_0 := Aside0.mk hi175_0
                   have HC175_0 := Aside0.mk hl175_0
                   clear hi175_0 hl175_0
                   replace p175 := eq_true p175
                   replace q175 := eq_true q175
                   have ea_ := Option.some.inj (hx173_0.symm.trans hx175_0)
                   injection ea_ with ea_ en_ ec_
                   subst ea_
                   subst ec_
                   clear en_
                   have p176 : 0 ≤ (1 : Int) := (by omega)
                   have q176 : 1 < ((rd_L1 l0_5 x9_4).length : Int) := da_
                   obtain ⟨ad176, e176, hx176_0⟩ := Kd.at_int HR175_0.out 1 p176 q176
                   cases e176
                   (try simp only [show (1 : Int).toNat = 1 from rfl, Nat.reduceMul, Nat.reduceEqDiff, Go.Addr.add, ↓reduceIte] at hx176_0)
                   have qi176 : (1 < (rd_L1 l0_5 x9_4).length) = True := eq_true (by omega)
                   (try rw [show ((1 : Int)).toNat = 1 from rfl] at hx176_0)
                   replace p176 := eq_true p176
                   replace q176 := eq_true q176
                   go_wp2
                   go_roundg k4
                   case measure => have := HJ5.out; have := HJ12.out; have := HJ17.out; have := HK4.out; omega
                   case rel => exact ⟨(wrap64 (x9_4 + 1)), sv_, H', ⟨by have := HJ5.out; have := HJ12.out; have := HJ17.out; have := HK4.out; omega⟩, ⟨by (with_reducible repeat (first | refine blk_drewN ?_ _ | refine blk_drew ?_ | refine blk_alloc ?_ _)); exact HBP0.out⟩, dr_⟩
                 ·rw [if_neg c27] at H
                  exact absurd H (by simp)
                ·rw [if_neg c26] at H
                 have c26b0 : ((rd (rd_L1 l0_5 x9_4) 0) == t166) = false := beq_eq_false_iff_ne.mpr c26
                 have c26b1 : ((rd (rd_L1 l0_5 x9_4) 0) != t166) = true := bne_iff_ne.mpr c26
                 have H' := Aside0.mk H
                 clear H
                 have hcz31_0 : w.cell? ⟨g0, 0, none⟩ = some (.string a0_0) := (blk_cell HBP0.out 0).trans rfl
                 have hcz31_1 : w.cell? ⟨g0, 1, none⟩ = some (.slice A0_1 l0_1.length c0_1) := (blk_cell HBP0.out 1).trans rfl
                 have hcz31_2 : w.cell? ⟨g0, 2, none⟩ = some (.slice A0_2 l0_2.length c0_2) := (blk_cell HBP0.out 2).trans rfl
                 have hcz31_3 : w.cell? ⟨g0, 3, none⟩ = some (.int .i64 a0_3) := (blk_cell HBP0.out 3).trans rfl
                 have hcz31_4 : w.cell? ⟨g0, 4, none⟩ = some (.int .i64 a0_4) := (blk_cell HBP0.out 4).trans rfl
                 have hcz31_5 : w.cell? ⟨g0, 5, none⟩ = some (.slice A0_5 l0_5.length c0_5) := (blk_cell HBP0.out 5).trans rfl
                 have p173 : 0 ≤ (x9_4 : Int) := da_
                 have q173 : x9_4 < (l0_5.length : Int) := da_
                 obtain ⟨ad173, A173_0, c173_0, e173, hx173_0, hl173_0, hi173_0⟩ := at_L1 HR0_5.out x9_4 p173 q173
                 cases e173
                 have HR173_0 := Aside0.mk hi173_0
                 have HC173_0 := Aside0.mk hl173_0
                 clear hi173_0 hl173_0
                 replace p173 := eq_true p173
                 replace q173 := eq_true q173
                 have p174 : 0 ≤ (0 : Int) := (by omega)
                 have q174 : 0 < ((rd_L1 l0_5 x9_4).length : Int) := da_
                 obtain ⟨ad174, e174, hx174_0⟩ := Kd.at_int HR173_0.out 0 p174 q174
                 cases e174
                 have qi174 : (0 < (rd_L1 l0_5 x9_4).length) = True := eq_true (by omega)
                 (try rw [show ((0 : Int)).toNat = 0 from rfl] at hx174_0)
                 (try rw [Addr.add_zero'] at hx174_0)
                 replace p174 := eq_true p174
                 replace q174 := eq_true q174
                 go_wp2
                 go_roundg k4
                 case measure => have := HJ5.out; have := HJ12.out; have := HJ17.out; have := HK4.out; omega
                 case rel => exact ⟨(wrap64 (x9_4 + 1)), sv_, H', ⟨by have := HJ5.out; have := HJ12.out; have := HJ17.out; have := HK4.out; omega⟩, ⟨by (with_reducible repeat (first | refine blk_drewN ?_ _ | refine blk_drew ?_ | refine blk_alloc ?_ _)); exact HBP0.out⟩, dr_⟩
               ·rw [if_neg c25] at H
                exact absurd H (by simp)
              ·rw [if_neg c24] at H
               exact absurd H (by simp)
             ·rw [if_neg c23] at H
              have c23b0 : decide (x9_4 < (l0_5.length : Int)) = false := decide_eq_false c23
              clear c23
              obtain rfl := Option.some.inj H
              have hcz32_0 : w.cell? ⟨g0, 0, none⟩ = some (.string a0_0) := (blk_cell HBP0.out 0).trans rfl
              have hcz32_1 : w.cell? ⟨g0, 1, none⟩ = some (.slice A0_1 l0_1.length c0_1) := (blk_cell HBP0.out 1).trans rfl
              have hcz32_2 : w.cell? ⟨g0, 2, none⟩ = some (.slice A0_2 l0_2.length c0_2) := (blk_cell HBP0.out 2).trans rfl
              have hcz32_3 : w.cell? ⟨g0, 3, none⟩ = some (.int .i64 a0_3) := (blk_cell HBP0.out 3).trans rfl
              have hcz32_4 : w.cell? ⟨g0, 4, none⟩ = some (.int .i64 a0_4) := (blk_cell HBP0.out 4).trans rfl
              have hcz32_5 : w.cell? ⟨g0, 5, none⟩ = some (.slice A0_5 l0_5.length c0_5) := (blk_cell HBP0.out 5).trans rfl
              go_wp2
              go_ret
              exact ⟨sv_, dr_⟩
/-! ### spec_l05Wrong: function 128 -/
def spec_l05Wrong.l0 : Nat → List Int → Int → ByteArray → List Int → List Int → Int → Int → List (List Int) → Option (Int × Int)
  | 0, _, _, _, _, _, _, _, _ => none
  | k + 1, x1, x6, x532000, x532001, x532002, x532003, x532004, x532005 => if x6 < (x1.length : Int) then (if x6 > 0 then (if 0 ≤ (wrap64 (x6 - 1)) then (if (wrap64 (x6 - 1)) < (x1.length : Int) then (if 0 ≤ x6 then ((spec_l05Reason.f k x532000 x532001 x532002 x532003 x532004 x532005 (rd x1 (wrap64 (x6 - 1))) (rd x1 x6)).bind fun t534 => (if t534 > 0 then (some (x6, t534)) else (spec_l05Wrong.l0 k x1 (wrap64 (x6 + 1)) x532000 x532001 x532002 x532003 x532004 x532005))) else (none)) else (none)) else (none)) else (if 0 < (x1.length : Int) then ((spec_l03Tone.f (rd x1 0)).bind fun t536 => ((spec_l05Tone.f k x532000 x532001 x532002 x532003 x532004 x532005 t536).bind fun t537 => (if t537 = true then (if 0 > 0 then (some (x6, 0)) else (spec_l05Wrong.l0 k x1 (wrap64 (x6 + 1)) x532000 x532001 x532002 x532003 x532004 x532005)) else (if 1 > 0 then (some (x6, 1)) else (spec_l05Wrong.l0 k x1 (wrap64 (x6 + 1)) x532000 x532001 x532002 x532003 x532004 x532005))))) else (none))) else (some ((-1), 0))
def spec_l05Wrong.f (k : Nat) (a0_0 : ByteArray) (l0_1 : List Int) (l0_2 : List Int) (a0_3 : Int) (a0_4 : Int) (l0_5 : List (List Int)) (l1 : List Int) : Option (Int × Int) := spec_l05Wrong.l0 k l1 0 a0_0 l0_1 l0_2 a0_3 a0_4 l0_5
set_option maxHeartbeats 8000000 in
set_option maxRecDepth 100000 in
theorem spec_l05Wrong.calls (k : Nat) (g0 : Nat) (a0_0 : ByteArray) (A0_1 : Option Addr) (c0_1 : Nat) (l0_1 : List Int) (A0_2 : Option Addr) (c0_2 : Nat) (l0_2 : List Int) (a0_3 : Int) (a0_4 : Int) (A0_5 : Option Addr) (c0_5 : Nat) (l0_5 : List (List Int)) (A1 : Option Addr) (c1 : Nat) (l1 : List Int) (r1 : Int) (r2 : Int) (w : World) (hp0 : w.heap[g0]? = some (.cells #[.string a0_0, .slice A0_1 l0_1.length c0_1, .slice A0_2 l0_2.length c0_2, .int .i64 a0_3, .int .i64 a0_4, .slice A0_5 l0_5.length c0_5] 29 (0, 0))) (hr0_1 : Kd.C (Kd.int .i64) w A0_1 l0_1.length l0_1) (hc0_1 : l0_1.length ≤ c0_1) (hr0_2 : Kd.C (Kd.int .i64) w A0_2 l0_2.length l0_2) (hc0_2 : l0_2.length ≤ c0_2) (hr0_5 : Kd.C (Kd.slice 2 (Kd.int .i64)) w A0_5 l0_5.length l0_5) (hc0_5 : l0_5.length ≤ c0_5) (hr1 : Kd.C (Kd.int .i64) w A1 l1.length l1) (hc1 : l1.length ≤ c1) (h : spec_l05Wrong.f k a0_0 l0_1 l0_2 a0_3 a0_4 l0_5 l1 = some (r1, r2)) :
    Calls Try.prog 128 #[.pointer (some ⟨g0, 0, none⟩), .slice A1 l1.length c1] w fun e w' => e = .returned (.tuple #[.int .i64 r1, .int .i64 r2]) ∧ Drawn0 w w' := by
  have HR0_1 := Aside0.mk hr0_1
  have HC0_1 := Aside0.mk hc0_1
  clear hr0_1 hc0_1
  have HR0_2 := Aside0.mk hr0_2
  have HC0_2 := Aside0.mk hc0_2
  clear hr0_2 hc0_2
  have HR0_5 := Aside0.mk hr0_5
  have HC0_5 := Aside0.mk hc0_5
  clear hr0_5 hc0_5
  have HR1 := Aside0.mk hr1
  have HC1 := Aside0.mk hc1
  clear hr1 hc1
  have HBX0 := Aside0.mk hp0
  have HBP0 := Aside0.mk hp0
  clear hp0
  have H : (spec_l05Wrong.l0 k l1 0 a0_0 l0_1 l0_2 a0_3 a0_4 l0_5) = some (r1, r2) := h
  clear h
  have H' := Aside0.mk H
  clear H
  go_enter Try.func128, Try.ntmps128
  go_wp2
  repeat (go_quiet (fail); try go_wp2)
  go_loopg [6] k (fun kq v6 w' => ∃ (x6_1 : Int), v6 = .int .i64 x6_1 ∧ Aside0 (spec_l05Wrong.l0 kq l1 x6_1 a0_0 l0_1 l0_2 a0_3 a0_4 l0_5 = some (r1, r2)) ∧ Aside0 (kq ≤ k) ∧ Aside0 (w'.heap[g0]? = some (.cells #[.string a0_0, (.slice A0_1 l0_1.length c0_1), (.slice A0_2 l0_2.length c0_2), .int .i64 a0_3, .int .i64 a0_4, (.slice A0_5 l0_5.length c0_5)] 29 (0, 0))) ∧ Drawn0 w w')
  case atStart => exact ⟨(0), sv_, H', ⟨Nat.le_refl _⟩, ⟨by (with_reducible repeat (first | refine blk_drewN ?_ _ | refine blk_drew ?_ | refine blk_alloc ?_ _)); exact HBP0.out⟩, dr_⟩
  case round =>
    clear H'
    (try clear c1); (try clear p2)
    obtain ⟨x6_1, rfl, HA, HK1, HBX0, ⟨m1, rfl⟩⟩ := hrel
    cases gk with
    | zero => exact absurd HA.out (by simp [spec_l05Wrong.l0])
    | succ k1 =>
      have H := HA.out
      clear HA
      simp only [spec_l05Wrong.l0] at H
      by_cases c3 : x6_1 < (l1.length : Int)
      · rw [if_pos c3] at H
        have c3b0 : decide (x6_1 < (l1.length : Int)) = true := decide_eq_true c3
        clear c3
        by_cases c4 : x6_1 > 0
        · rw [if_pos c4] at H
          have c4b0 : decide (0 < x6_1) = true := decide_eq_true c4
          clear c4
          obtain ⟨ji5, hji5⟩ : ∃ j_ : Int, (wrap64 (x6_1 - 1)) = j_ := ⟨_, rfl⟩
          replace H : (if 0 ≤ (ji5) then (if (ji5) < (l1.length : Int) then (if 0 ≤ x6_1 then ((spec_l05Reason.f k1 a0_0 l0_1 l0_2 a0_3 a0_4 l0_5 (rd l1 (ji5)) (rd l1 x6_1)).bind fun t534 => (if t534 > 0 then (some (x6_1, t534)) else (spec_l05Wrong.l0 k1 l1 (wrap64 (x6_1 + 1)) a0_0 l0_1 l0_2 a0_3 a0_4 l0_5))) else (none)) else (none)) else (none)) = some (r1, r2) := by first | (rw [hji5] at H; exact H) | (simp only [hji5] at H ⊢; exact H)
          have hji5w : (IntKind.i64.wrap (x6_1 - 1)) = ji5 := (i64_w _).trans hji5
          by_cases c6 : 0 ≤ (ji5)
          · rw [if_pos c6] at H
            have c6b0 : decide (0 ≤ (ji5)) = true := decide_eq_true c6
            clear c6
            by_cases c7 : (ji5) < (l1.length : Int)
            · rw [if_pos c7] at H
              have c7b0 : decide ((ji5) < (l1.length : Int)) = true := decide_eq_true c7
              clear c7
              by_cases c8 : 0 ≤ x6_1
              · rw [if_pos c8] at H
                have c8b0 : decide (0 ≤ x6_1) = true := decide_eq_true c8
                clear c8
                replace H := Option.bind_eq_some_iff.mp H
                obtain ⟨t534, A90, H⟩ := H
                replace H : (if t534 > 0 then (some (x6_1, t534)) else (spec_l05Wrong.l0 k1 l1 (wrap64 (x6_1 + 1)) a0_0 l0_1 l0_2 a0_3 a0_4 l0_5)) = some (r1, r2) := H
                have A9 := Aside0.mk A90
                clear A90
                by_cases c10 : t534 > 0
                · rw [if_pos c10] at H
                  have c10b0 : decide (0 < t534) = true := decide_eq_true c10
                  clear c10
                  simp only [Option.some.injEq, Prod.mk.injEq] at H
                  obtain ⟨rfl, rfl⟩ := H
                  have p532 : 0 ≤ ((ji5) : Int) := of_decide_eq_true (by first | (with_reducible assumption) | assumption)
                  have q532 : (ji5) < (l1.length : Int) := of_decide_eq_true (by first | (with_reducible assumption) | assumption)
                  obtain ⟨ad532, e532, hx532_0⟩ := Kd.at_int HR1.out (ji5) p532 q532
                  cases e532
                  replace p532 := eq_true p532
                  replace q532 := eq_true q532
                  have p533 : 0 ≤ (x6_1 : Int) := of_decide_eq_true (by first | (with_reducible assumption) | assumption)
                  have q533 : x6_1 < (l1.length : Int) := of_decide_eq_true (by first | (with_reducible assumption) | assumption)
                  obtain ⟨ad533, e533, hx533_0⟩ := Kd.at_int HR1.out x6_1 p533 q533
                  obtain rfl : ad532 = ad533 := (by injection e533)
                  replace p533 := eq_true p533
                  replace q533 := eq_true q533
                  go_wp2_with (first | (go_at_call 105; (with_reducible refine (spec_l05Reason.calls k1 g0 a0_0 A0_1 c0_1 l0_1 A0_2 c0_2 l0_2 a0_3 a0_4 A0_5 c0_5 l0_5 (rd l1 (ji5)) (rd l1 x6_1) t534 _ ?side1 ?side2 ?side3 ?side4 ?side5 ?side6 ?side7 A9.out).mono ?_); (case side1 => exact bk_ HBP0.out); (case side2 => exact cs_ HR0_1.out); (case side3 => exact HC0_1.out); (case side4 => exact cs_ HR0_2.out); (case side5 => exact HC0_2.out); (case side6 => exact cs_ HR0_5.out); (case side7 => exact HC0_5.out); rintro e w' ⟨rfl, ⟨nd, rfl⟩⟩; (try first | exact ⟨rfl, _, World.drewN_drewN _ _ _⟩ | exact ⟨rfl, _, Eq.trans (World.drewN_drewN _ _ _) (congrArg (World.drewN _) (Nat.add_assoc _ _ _))⟩)))
                  repeat (go_quiet (first | (go_at_call 105; (with_reducible refine (spec_l05Reason.calls k1 g0 a0_0 A0_1 c0_1 l0_1 A0_2 c0_2 l0_2 a0_3 a0_4 A0_5 c0_5 l0_5 (rd l1 (ji5)) (rd l1 x6_1) t534 _ ?side1 ?side2 ?side3 ?side4 ?side5 ?side6 ?side7 A9.out).mono ?_); (case side1 => exact bk_ HBP0.out); (case side2 => exact cs_ HR0_1.out); (case side3 => exact HC0_1.out); (case side4 => exact cs_ HR0_2.out); (case side5 => exact HC0_2.out); (case side6 => exact cs_ HR0_5.out); (case side7 => exact HC0_5.out); rintro e w' ⟨rfl, ⟨nd, rfl⟩⟩; (try first | exact ⟨rfl, _, World.drewN_drewN _ _ _⟩ | exact ⟨rfl, _, Eq.trans (World.drewN_drewN _ _ _) (congrArg (World.drewN _) (Nat.add_assoc _ _ _))⟩))); try go_wp2_with (first | (go_at_call 105; (with_reducible refine (spec_l05Reason.calls k1 g0 a0_0 A0_1 c0_1 l0_1 A0_2 c0_2 l0_2 a0_3 a0_4 A0_5 c0_5 l0_5 (rd l1 (ji5)) (rd l1 x6_1) t534 _ ?side1 ?side2 ?side3 ?side4 ?side5 ?side6 ?side7 A9.out).mono ?_); (case side1 => exact bk_ HBP0.out); (case side2 => exact cs_ HR0_1.out); (case side3 => exact HC0_1.out); (case side4 => exact cs_ HR0_2.out); (case side5 => exact HC0_2.out); (case side6 => exact cs_ HR0_5.out); (case side7 => exact HC0_5.out); rintro e w' ⟨rfl, ⟨nd, rfl⟩⟩; (try first | exact ⟨rfl, _, World.drewN_drewN _ _ _⟩ | exact ⟨rfl, _, Eq.trans (World.drewN_drewN _ _ _) (congrArg (World.drewN _) (Nat.add_assoc _ _ _))⟩))))
                  go_ret2
                  exact ⟨by first | rfl | (simp; done) | (simp only [← hji5] <;> (first | rfl | simp)) | (simp [*]; done), dr_⟩
                · rw [if_neg c10] at H
                  have c10b0 : decide (0 < t534) = false := decide_eq_false c10
                  clear c10
                  have H' := Aside0.mk H
                  clear H
                  have p532 : 0 ≤ ((ji5) : Int) := of_decide_eq_true (by first | (with_reducible assumption) | assumption)
                  have q532 : (ji5) < (l1.length : Int) := of_decide_eq_true (by first | (with_reducible assumption) | assumption)
                  obtain ⟨ad532, e532, hx532_0⟩ := Kd.at_int HR1.out (ji5) p532 q532
                  cases e532
                  replace p532 := eq_true p532
                  replace q532 := eq_true q532
                  have p533 : 0 ≤ (x6_1 : Int) := of_decide_eq_true (by first | (with_reducible assumption) | assumption)
                  have q533 : x6_1 < (l1.length : Int) := of_decide_eq_true (by first | (with_reducible assumption) | assumption)
                  obtain ⟨ad533, e533, hx533_0⟩ := Kd.at_int HR1.out x6_1 p533 q533
                  obtain rfl : ad532 = ad533 := (by injection e533)
                  replace p533 := eq_true p533
                  replace q533 := eq_true q533
                  go_wp2_with (first | (go_at_call 105; (with_reducible refine (spec_l05Reason.calls k1 g0 a0_0 A0_1 c0_1 l0_1 A0_2 c0_2 l0_2 a0_3 a0_4 A0_5 c0_5 l0_5 (rd l1 (ji5)) (rd l1 x6_1) t534 _ ?side1 ?side2 ?side3 ?side4 ?side5 ?side6 ?side7 A9.out).mono ?_); (case side1 => exact bk_ HBP0.out); (case side2 => exact cs_ HR0_1.out); (case side3 => exact HC0_1.out); (case side4 => exact cs_ HR0_2.out); (case side5 => exact HC0_2.out); (case side6 => exact cs_ HR0_5.out); (case side7 => exact HC0_5.out); rintro e w' ⟨rfl, ⟨nd, rfl⟩⟩; (try first | exact ⟨rfl, _, World.drewN_drewN _ _ _⟩ | exact ⟨rfl, _, Eq.trans (World.drewN_drewN _ _ _) (congrArg (World.drewN _) (Nat.add_assoc _ _ _))⟩)))
                  repeat (go_quiet (first | (go_at_call 105; (with_reducible refine (spec_l05Reason.calls k1 g0 a0_0 A0_1 c0_1 l0_1 A0_2 c0_2 l0_2 a0_3 a0_4 A0_5 c0_5 l0_5 (rd l1 (ji5)) (rd l1 x6_1) t534 _ ?side1 ?side2 ?side3 ?side4 ?side5 ?side6 ?side7 A9.out).mono ?_); (case side1 => exact bk_ HBP0.out); (case side2 => exact cs_ HR0_1.out); (case side3 => exact HC0_1.out); (case side4 => exact cs_ HR0_2.out); (case side5 => exact HC0_2.out); (case side6 => exact cs_ HR0_5.out); (case side7 => exact HC0_5.out); rintro e w' ⟨rfl, ⟨nd, rfl⟩⟩; (try first | exact ⟨rfl, _, World.drewN_drewN _ _ _⟩ | exact ⟨rfl, _, Eq.trans (World.drewN_drewN _ _ _) (congrArg (World.drewN _) (Nat.add_assoc _ _ _))⟩))); try go_wp2_with (first | (go_at_call 105; (with_reducible refine (spec_l05Reason.calls k1 g0 a0_0 A0_1 c0_1 l0_1 A0_2 c0_2 l0_2 a0_3 a0_4 A0_5 c0_5 l0_5 (rd l1 (ji5)) (rd l1 x6_1) t534 _ ?side1 ?side2 ?side3 ?side4 ?side5 ?side6 ?side7 A9.out).mono ?_); (case side1 => exact bk_ HBP0.out); (case side2 => exact cs_ HR0_1.out); (case side3 => exact HC0_1.out); (case side4 => exact cs_ HR0_2.out); (case side5 => exact HC0_2.out); (case side6 => exact cs_ HR0_5.out); (case side7 => exact HC0_5.out); rintro e w' ⟨rfl, ⟨nd, rfl⟩⟩; (try first | exact ⟨rfl, _, World.drewN_drewN _ _ _⟩ | exact ⟨rfl, _, Eq.trans (World.drewN_drewN _ _ _) (congrArg (World.drewN _) (Nat.add_assoc _ _ _))⟩))))
                  go_roundg k1
                  case measure => have := HK1.out; omega
                  case rel => exact ⟨(wrap64 (x6_1 + 1)), sv_, H', ⟨by have := HK1.out; omega⟩, ⟨by (with_reducible repeat (first | refine blk_drewN ?_ _ | refine blk_drew ?_ | refine blk_alloc ?_ _)); exact HBP0.out⟩, dr_⟩
              · rw [if_neg c8] at H
                exact absurd H (by simp)
            · rw [if_neg c7] at H
              exact absurd H (by simp)
          · rw [if_neg c6] at H
            exact absurd H (by simp)
        · rw [if_neg c4] at H
          have c4b0 : decide (0 < x6_1) = false := decide_eq_false c4
          clear c4
          by_cases c11 : 0 < (l1.length : Int)
          · rw [if_pos c11] at H
            have c11b0 : decide (0 < (l1.length : Int)) = true := decide_eq_true c11
            have c11b1 : decide (0 < l1.length) = true := decide_eq_true (by omega)
            clear c11
            replace H := Option.bind_eq_some_iff.mp H
            obtain ⟨t536, A120, H⟩ := H
            replace H : ((spec_l05Tone.f k1 a0_0 l0_1 l0_2 a0_3 a0_4 l0_5 t536).bind fun t537 => (if t537 = true then (if 0 > 0 then (some (x6_1, 0)) else (spec_l05Wrong.l0 k1 l1 (wrap64 (x6_1 + 1)) a0_0 l0_1 l0_2 a0_3 a0_4 l0_5)) else (if 1 > 0 then (some (x6_1, 1)) else (spec_l05Wrong.l0 k1 l1 (wrap64 (x6_1 + 1)) a0_0 l0_1 l0_2 a0_3 a0_4 l0_5)))) = some (r1, r2) := H
            have A12 := Aside0.mk A120
            clear A120
            replace H := Option.bind_eq_some_iff.mp H
            obtain ⟨t537, A130, H⟩ := H
            replace H : (if t537 = true then (if 0 > 0 then (some (x6_1, 0)) else (spec_l05Wrong.l0 k1 l1 (wrap64 (x6_1 + 1)) a0_0 l0_1 l0_2 a0_3 a0_4 l0_5)) else (if 1 > 0 then (some (x6_1, 1)) else (spec_l05Wrong.l0 k1 l1 (wrap64 (x6_1 + 1)) a0_0 l0_1 l0_2 a0_3 a0_4 l0_5))) = some (r1, r2) := H
            have A13 := Aside0.mk A130
            clear A130
            by_cases c14 : t537 = true
            · subst c14
              have H1 : (if 0 > 0 then (some (x6_1, 0)) else (spec_l05Wrong.l0 k1 l1 (wrap64 (x6_1 + 1)) a0_0 l0_1 l0_2 a0_3 a0_4 l0_5)) = some (r1, r2) := by rw [if_pos rfl] at H; exact H
              clear H
              have H := H1
              clear H1
              by_cases c15 : 0 > 0
              · exact absurd c15 (by decide)
              · rw [if_neg c15] at H
                have c15b0 : decide (0 < 0) = false := decide_eq_false c15
                clear c15
                have H' := Aside0.mk H
                clear H
                have p535 : 0 ≤ (0 : Int) := (by omega)
                have q535 : 0 < (l1.length : Int) := of_decide_eq_true (by first | (with_reducible assumption) | assumption)
                obtain ⟨ad535, e535, hx535_0⟩ := Kd.at_int HR1.out 0 p535 q535
                cases e535
                have qi535 : (0 < l1.length) = True := eq_true (by omega)
                (try rw [show ((0 : Int)).toNat = 0 from rfl] at hx535_0)
                (try rw [Addr.add_zero'] at hx535_0)
                replace p535 := eq_true p535
                replace q535 := eq_true q535
                go_wp2_with (first | (go_at_call 60; (with_reducible refine (spec_l03Tone.calls (rd l1 0) t536 _ A12.out).mono ?_); rintro e w' ⟨rfl, ⟨nd, rfl⟩⟩; (try first | exact ⟨rfl, _, World.drewN_drewN _ _ _⟩ | exact ⟨rfl, _, Eq.trans (World.drewN_drewN _ _ _) (congrArg (World.drewN _) (Nat.add_assoc _ _ _))⟩)) | (go_at_call 59; (with_reducible refine (spec_l05Tone.calls k1 g0 a0_0 A0_1 c0_1 l0_1 A0_2 c0_2 l0_2 a0_3 a0_4 A0_5 c0_5 l0_5 t536 true _ ?side1 ?side2 ?side3 ?side4 ?side5 ?side6 ?side7 A13.out).mono ?_); (case side1 => exact bk_ HBP0.out); (case side2 => exact cs_ HR0_1.out); (case side3 => exact HC0_1.out); (case side4 => exact cs_ HR0_2.out); (case side5 => exact HC0_2.out); (case side6 => exact cs_ HR0_5.out); (case side7 => exact HC0_5.out); rintro e w' ⟨rfl, ⟨nd, rfl⟩⟩; (try first | exact ⟨rfl, _, World.drewN_drewN _ _ _⟩ | exact ⟨rfl, _, Eq.trans (World.drewN_drewN _ _ _) (congrArg (World.drewN _) (Nat.add_assoc _ _ _))⟩)))
                repeat (go_quiet (first | (go_at_call 60; (with_reducible refine (spec_l03Tone.calls (rd l1 0) t536 _ A12.out).mono ?_); rintro e w' ⟨rfl, ⟨nd, rfl⟩⟩; (try first | exact ⟨rfl, _, World.drewN_drewN _ _ _⟩ | exact ⟨rfl, _, Eq.trans (World.drewN_drewN _ _ _) (congrArg (World.drewN _) (Nat.add_assoc _ _ _))⟩)) | (go_at_call 59; (with_reducible refine (spec_l05Tone.calls k1 g0 a0_0 A0_1 c0_1 l0_1 A0_2 c0_2 l0_2 a0_3 a0_4 A0_5 c0_5 l0_5 t536 true _ ?side1 ?side2 ?side3 ?side4 ?side5 ?side6 ?side7 A13.out).mono ?_); (case side1 => exact bk_ HBP0.out); (case side2 => exact cs_ HR0_1.out); (case side3 => exact HC0_1.out); (case side4 => exact cs_ HR0_2.out); (case side5 => exact HC0_2.out); (case side6 => exact cs_ HR0_5.out); (case side7 => exact HC0_5.out); rintro e w' ⟨rfl, ⟨nd, rfl⟩⟩; (try first | exact ⟨rfl, _, World.drewN_drewN _ _ _⟩ | exact ⟨rfl, _, Eq.trans (World.drewN_drewN _ _ _) (congrArg (World.drewN _) (Nat.add_assoc _ _ _))⟩))); try go_wp2_with (first | (go_at_call 60; (with_reducible refine (spec_l03Tone.calls (rd l1 0) t536 _ A12.out).mono ?_); rintro e w' ⟨rfl, ⟨nd, rfl⟩⟩; (try first | exact ⟨rfl, _, World.drewN_drewN _ _ _⟩ | exact ⟨rfl, _, Eq.trans (World.drewN_drewN _ _ _) (congrArg (World.drewN _) (Nat.add_assoc _ _ _))⟩)) | (go_at_call 59; (with_reducible refine (spec_l05Tone.calls k1 g0 a0_0 A0_1 c0_1 l0_1 A0_2 c0_2 l0_2 a0_3 a0_4 A0_5 c0_5 l0_5 t536 true _ ?side1 ?side2 ?side3 ?side4 ?side5 ?side6 ?side7 A13.out).mono ?_); (case side1 => exact bk_ HBP0.out); (case side2 => exact cs_ HR0_1.out); (case side3 => exact HC0_1.out); (case side4 => exact cs_ HR0_2.out); (case side5 => exact HC0_2.out); (case side6 => exact cs_ HR0_5.out); (case side7 => exact HC0_5.out); rintro e w' ⟨rfl, ⟨nd, rfl⟩⟩; (try first | exact ⟨rfl, _, World.drewN_drewN _ _ _⟩ | exact ⟨rfl, _, Eq.trans (World.drewN_drewN _ _ _) (congrArg (World.drewN _) (Nat.add_assoc _ _ _))⟩))))
                go_roundg k1
                case measure => have := HK1.out; omega
                case rel => exact ⟨(wrap64 (x6_1 + 1)), sv_, H', ⟨by have := HK1.out; omega⟩, ⟨by (with_reducible repeat (first | refine blk_drewN ?_ _ | refine blk_drew ?_ | refine blk_alloc ?_ _)); exact HBP0.out⟩, dr_⟩
            · replace c14 := Bool.eq_false_iff.mpr c14
              subst c14
              have H1 : (if 1 > 0 then (some (x6_1, 1)) else (spec_l05Wrong.l0 k1 l1 (wrap64 (x6_1 + 1)) a0_0 l0_1 l0_2 a0_3 a0_4 l0_5)) = some (r1, r2) := by rw [if_neg (show ¬ (false = true) by decide)] at H; exact H
              clear H
              have H := H1
              clear H1
              by_cases c16 : 1 > 0
              · rw [if_pos c16] at H
                have c16b0 : decide (0 < 1) = true := decide_eq_true c16
                clear c16
                simp only [Option.some.injEq, Prod.mk.injEq] at H
                obtain ⟨rfl, rfl⟩ := H
                have p535 : 0 ≤ (0 : Int) := (by omega)
                have q535 : 0 < (l1.length : Int) := of_decide_eq_true (by first | (with_reducible assumption) | assumption)
                obtain ⟨ad535, e535, hx535_0⟩ := Kd.at_int HR1.out 0 p535 q535
                cases e535
                have qi535 : (0 < l1.length) = True := eq_true (by omega)
                (try rw [show ((0 : Int)).toNat = 0 from rfl] at hx535_0)
                (try rw [Addr.add_zero'] at hx535_0)
                replace p535 := eq_true p535
                replace q535 := eq_true q535
                go_wp2_with (first | (go_at_call 60; (with_reducible refine (spec_l03Tone.calls (rd l1 0) t536 _ A12.out).mono ?_); rintro e w' ⟨rfl, ⟨nd, rfl⟩⟩; (try first | exact ⟨rfl, _, World.drewN_drewN _ _ _⟩ | exact ⟨rfl, _, Eq.trans (World.drewN_drewN _ _ _) (congrArg (World.drewN _) (Nat.add_assoc _ _ _))⟩)) | (go_at_call 59; (with_reducible refine (spec_l05Tone.calls k1 g0 a0_0 A0_1 c0_1 l0_1 A0_2 c0_2 l0_2 a0_3 a0_4 A0_5 c0_5 l0_5 t536 false _ ?side1 ?side2 ?side3 ?side4 ?side5 ?side6 ?side7 A13.out).mono ?_); (case side1 => exact bk_ HBP0.out); (case side2 => exact cs_ HR0_1.out); (case side3 => exact HC0_1.out); (case side4 => exact cs_ HR0_2.out); (case side5 => exact HC0_2.out); (case side6 => exact cs_ HR0_5.out); (case side7 => exact HC0_5.out); rintro e w' ⟨rfl, ⟨nd, rfl⟩⟩; (try first | exact ⟨rfl, _, World.drewN_drewN _ _ _⟩ | exact ⟨rfl, _, Eq.trans (World.drewN_drewN _ _ _) (congrArg (World.drewN _) (Nat.add_assoc _ _ _))⟩)))
                repeat (go_quiet (first | (go_at_call 60; (with_reducible refine (spec_l03Tone.calls (rd l1 0) t536 _ A12.out).mono ?_); rintro e w' ⟨rfl, ⟨nd, rfl⟩⟩; (try first | exact ⟨rfl, _, World.drewN_drewN _ _ _⟩ | exact ⟨rfl, _, Eq.trans (World.drewN_drewN _ _ _) (congrArg (World.drewN _) (Nat.add_assoc _ _ _))⟩)) | (go_at_call 59; (with_reducible refine (spec_l05Tone.calls k1 g0 a0_0 A0_1 c0_1 l0_1 A0_2 c0_2 l0_2 a0_3 a0_4 A0_5 c0_5 l0_5 t536 false _ ?side1 ?side2 ?side3 ?side4 ?side5 ?side6 ?side7 A13.out).mono ?_); (case side1 => exact bk_ HBP0.out); (case side2 => exact cs_ HR0_1.out); (case side3 => exact HC0_1.out); (case side4 => exact cs_ HR0_2.out); (case side5 => exact HC0_2.out); (case side6 => exact cs_ HR0_5.out); (case side7 => exact HC0_5.out); rintro e w' ⟨rfl, ⟨nd, rfl⟩⟩; (try first | exact ⟨rfl, _, World.drewN_drewN _ _ _⟩ | exact ⟨rfl, _, Eq.trans (World.drewN_drewN _ _ _) (congrArg (World.drewN _) (Nat.add_assoc _ _ _))⟩))); try go_wp2_with (first | (go_at_call 60; (with_reducible refine (spec_l03Tone.calls (rd l1 0) t536 _ A12.out).mono ?_); rintro e w' ⟨rfl, ⟨nd, rfl⟩⟩; (try first | exact ⟨rfl, _, World.drewN_drewN _ _ _⟩ | exact ⟨rfl, _, Eq.trans (World.drewN_drewN _ _ _) (congrArg (World.drewN _) (Nat.add_assoc _ _ _))⟩)) | (go_at_call 59; (with_reducible refine (spec_l05Tone.calls k1 g0 a0_0 A0_1 c0_1 l0_1 A0_2 c0_2 l0_2 a0_3 a0_4 A0_5 c0_5 l0_5 t536 false _ ?side1 ?side2 ?side3 ?side4 ?side5 ?side6 ?side7 A13.out).mono ?_); (case side1 => exact bk_ HBP0.out); (case side2 => exact cs_ HR0_1.out); (case side3 => exact HC0_1.out); (case side4 => exact cs_ HR0_2.out); (case side5 => exact HC0_2.out); (case side6 => exact cs_ HR0_5.out); (case side7 => exact HC0_5.out); rintro e w' ⟨rfl, ⟨nd, rfl⟩⟩; (try first | exact ⟨rfl, _, World.drewN_drewN _ _ _⟩ | exact ⟨rfl, _, Eq.trans (World.drewN_drewN _ _ _) (congrArg (World.drewN _) (Nat.add_assoc _ _ _))⟩))))
                go_ret2
                exact ⟨sv_, dr_⟩
              · exact absurd (by decide) c16
          · rw [if_neg c11] at H
            exact absurd H (by simp)
      · rw [if_neg c3] at H
        have c3b0 : decide (x6_1 < (l1.length : Int)) = false := decide_eq_false c3
        clear c3
        simp only [Option.some.injEq, Prod.mk.injEq] at H
        obtain ⟨rfl, rfl⟩ := H
        go_wp2
        repeat (go_quiet (fail); try go_wp2)
        go_ret2
        exact ⟨sv_, dr_⟩
/-! ### spec_l00Same: function 89 -/
def spec_l00Same.l0 : Nat → List Int → List Int → Int → Option (Bool)
 | 0, _, _, _ => none
 | k + 1, x0, x1, x5 => if x5 < (x0.length : Int) then (if 0 ≤ x5 then (if x5 < (x1.length : Int) then (if (rd x0 x5) = (rd x1 x5) then (spec_l00Same.l0 k x0 x1 (wrap64 (x5 + 1))) else (some false)) else (none)) else (none)) else (some true)
def spec_l00Same.f (k : Nat) (l0 : List Int) (l1 : List Int) : Option (Bool) := if (l0.length : Int) = (l1.length : Int) then (spec_l00Same.l0 k l0 l1 0) else (some false)
set_option maxHeartbeats 8000000 in
set_option maxRecDepth 100000 in
theorem spec_l00Same.calls (k : Nat) (A0 : Option Addr) (c0 : Nat) (l0 : List Int) (A1 : Option Addr) (c1 : Nat) (l1 : List Int) (r : Bool) (w : World) (hr0 : Kd.C (Kd.int .i64) w A0 l0.length l0) (hc0 : l0.length ≤ c0) (hr1 : Kd.C (Kd.int .i64) w A1 l1.length l1) (hc1 : l1.length ≤ c1) (h : spec_l00Same.f k l0 l1 = some r) :
  Calls Try.prog 89 #[.slice A0 l0.length c0, .slice A1 l1.length c1] w fun e w' => e = .returned (.bool r) ∧ Drawn0 w w' := by
 have HR0 := Aside0.mk hr0
 have HC0 := Aside0.mk hc0
 clear hr0 hc0
 have HR1 := Aside0.mk hr1
 have HC1 := Aside0.mk hc1
 clear hr1 hc1
 have H : (if (l0.length : Int) = (l1.length : Int) then (spec_l00Same.l0 k l0 l1 0) else (some false)) = some r := h
 clear h
 by_cases c3 : (l0.length : Int) = (l1.length : Int)
 ·rw [if_pos c3] at H
  have c3b0 : ((l0.length : Int) == (l1.length : Int)) = true := beq_iff_eq.mpr c3
  have c3b1 : ((l0.length : Int) != (l1.length : Int)) = false := bne_eq_false_iff_eq.mpr c3
  have c3b2 : (l0.length == l1.length) = true := by first | simpa using c3 | (simp at c3 ⊢; omega)
  clear c3
  have H' := Aside0.mk H
  clear H
  go_enter Try.func89, Try.ntmps89
  go_wp2
  repeat (go_quiet (fail); try go_wp2)
  go_loopg [5] k (fun kq v5 w' => ∃ (x5_1 : Int), v5 = .int .i64 x5_1 ∧ Aside0 (spec_l00Same.l0 kq l0 l1 x5_1 = some r) ∧ Aside0 (kq ≤ k) ∧ Drawn0 w w')
  case atStart => exact ⟨(0), sv_, H', ⟨Nat.le_refl _⟩, dr_⟩
  case round =>
   clear H'
   (try clear c1); (try clear p2); (try clear c3); (try clear c3b0); (try clear c3b1); (try clear c3b2)
   obtain ⟨x5_1, rfl, HA, HK1, ⟨m1, rfl⟩⟩ := hrel
   cases gk with
   | zero => exact absurd HA.out (by simp [spec_l00Same.l0])
   | succ k1 =>
    have H := HA.out
    clear HA
    simp only [spec_l00Same.l0] at H
    by_cases c4 : x5_1 < (l0.length : Int)
    ·rw [if_pos c4] at H
     have c4b0 : decide (x5_1 < (l0.length : Int)) = true := decide_eq_true c4
     clear c4
     by_cases c5 : 0 ≤ x5_1
     ·rw [if_pos c5] at H
      have c5b0 : decide (0 ≤ x5_1) = true := decide_eq_true c5
      clear c5
      by_cases c6 : x5_1 < (l1.length : Int)
      ·rw [if_pos c6] at H
       have c6b0 : decide (x5_1 < (l1.length : Int)) = true := decide_eq_true c6
       clear c6
       by_cases c7 : (rd l0 x5_1) = (rd l1 x5_1)
       ·rw [if_pos c7] at H
        have c7b0 : ((rd l0 x5_1) == (rd l1 x5_1)) = true := beq_iff_eq.mpr c7
        have c7b1 : ((rd l0 x5_1) != (rd l1 x5_1)) = false := bne_eq_false_iff_eq.mpr c7
        clear c7
        have H' := Aside0.mk H
        clear H
        have p492 : 0 ≤ (x5_1 : Int) := da_
        have q492 : x5_1 < (l0.length : Int) := da_
        obtain ⟨ad492, e492, hx492_0⟩ := Kd.at_int HR0.out x5_1 p492 q492
        cases e492
        replace p492 := eq_true p492
        replace q492 := eq_true q492
        have p493 : 0 ≤ (x5_1 : Int) := da_
        have q493 : x5_1 < (l1.length : Int) := da_
        obtain ⟨ad493, e493, hx493_0⟩ := Kd.at_int HR1.out x5_1 p493 q493
        cases e493
        replace p493 := eq_true p493
        replace q493 := eq_true q493
        go_wp2
        repeat (go_quiet (fail); try go_wp2)
        go_roundg k1
        case measure => have := HK1.out; omega
        case rel => exact ⟨(wrap64 (x5_1 + 1)), sv_, H', ⟨by have := HK1.out; omega⟩, dr_⟩
       ·rw [if_neg c7] at H
        have c7b0 : ((rd l0 x5_1) == (rd l1 x5_1)) = false := beq_eq_false_iff_ne.mpr c7
        have c7b1 : ((rd l0 x5_1) != (rd l1 x5_1)) = true := bne_iff_ne.mpr c7
        obtain rfl := Option.some.inj H
        have p492 : 0 ≤ (x5_1 : Int) := da_
        have q492 : x5_1 < (l0.length : Int) := da_
        obtain ⟨ad492, e492, hx492_0⟩ := Kd.at_int HR0.out x5_1 p492 q492
        cases e492
        replace p492 := eq_true p492
        replace q492 := eq_true q492
        have p493 : 0 ≤ (x5_1 : Int) := da_
        have q493 : x5_1 < (l1.length : Int) := da_
        obtain ⟨ad493, e493, hx493_0⟩ := Kd.at_int HR1.out x5_1 p493 q493
        cases e493
        replace p493 := eq_true p493
        replace q493 := eq_true q493
        go_wp2
        repeat (go_quiet (fail); try go_wp2)
        go_ret
        exact ⟨sv_, dr_⟩
      ·rw [if_neg c6] at H
       exact absurd H (by simp)
     ·rw [if_neg c5] at H
      exact absurd H (by simp)
    ·rw [if_neg c4] at H
     have c4b0 : decide (x5_1 < (l0.length : Int)) = false := decide_eq_false c4
     clear c4
     obtain rfl := Option.some.inj H
     go_wp2
     repeat (go_quiet (fail); try go_wp2)
     go_ret
     exact ⟨sv_, dr_⟩
 ·rw [if_neg c3] at H
  have c3b0 : ((l0.length : Int) == (l1.length : Int)) = false := beq_eq_false_iff_ne.mpr c3
  have c3b1 : ((l0.length : Int) != (l1.length : Int)) = true := bne_iff_ne.mpr c3
  have c3b2 : (l0.length == l1.length) = false := by first | simpa using c3 | (simp at c3 ⊢; omega)
  obtain rfl := Option.some.inj H
  go_enter Try.func89, Try.ntmps89
  go_wp2
  repeat (go_quiet (fail); try go_wp2)
  go_ret
  exact ⟨sv_, dr_⟩
/-! ### spec_l15Has: function 155 -/
def spec_l15Has.l0 : Nat → List Int → List Int → Int → Option (Bool)
 | 0, _, _, _ => none
 | k + 1, x0, x1, x5 => if (wrap64 (x5 + (x1.length : Int))) ≤ (x0.length : Int) then (if 0 ≤ x5 then (if x5 ≤ (wrap64 (x5 + (x1.length : Int))) then ((spec_l00Same.f k ((x0.take ((wrap64 (x5 + (x1.length : Int))) : Int).toNat).drop (x5 : Int).toNat) x1).bind fun t543 => (if t543 = true then (some true) else (spec_l15Has.l0 k x0 x1 (wrap64 (x5 + 1))))) else (none)) else (none)) else (some false)
def spec_l15Has.f (k : Nat) (l0 : List Int) (l1 : List Int) : Option (Bool) := spec_l15Has.l0 k l0 l1 0
set_option maxHeartbeats 8000000 in
set_option maxRecDepth 100000 in
theorem spec_l15Has.calls (k : Nat) (A0 : Option Addr) (c0 : Nat) (l0 : List Int) (A1 : Option Addr) (c1 : Nat) (l1 : List Int) (r : Bool) (w : World) (hr0 : Kd.C (Kd.int .i64) w A0 l0.length l0) (hc0 : l0.length ≤ c0) (hr1 : Kd.C (Kd.int .i64) w A1 l1.length l1) (hc1 : l1.length ≤ c1) (h : spec_l15Has.f k l0 l1 = some r) :
  Calls Try.prog 155 #[.slice A0 l0.length c0, .slice A1 l1.length c1] w fun e w' => e = .returned (.bool r) ∧ Drawn0 w w' := by
 have HR0 := Aside0.mk hr0
 have HC0 := Aside0.mk hc0
 clear hr0 hc0
 have HR1 := Aside0.mk hr1
 have HC1 := Aside0.mk hc1
 clear hr1 hc1
 have H : (spec_l15Has.l0 k l0 l1 0) = some r := h
 clear h
 have H' := Aside0.mk H
 clear H
 go_enter Try.func155, Try.ntmps155
 go_wp2
 go_loopg [5] k (fun kq v5 w' => ∃ (x5_1 : Int), v5 = .int .i64 x5_1 ∧ Aside0 (spec_l15Has.l0 kq l0 l1 x5_1 = some r) ∧ Aside0 (kq ≤ k) ∧ Drawn0 w w')
 case atStart => exact ⟨(0), sv_, H', ⟨Nat.le_refl _⟩, dr_⟩
 case round =>
  clear H'
  (try clear c1); (try clear p2)
  obtain ⟨x5_1, rfl, HA, HK1, ⟨m1, rfl⟩⟩ := hrel
  cases gk with
  | zero => exact absurd HA.out (by simp [spec_l15Has.l0])
  | succ k1 =>
   have H := HA.out
   clear HA
   simp only [spec_l15Has.l0] at H
   by_cases c3 : (wrap64 (x5_1 + (l1.length : Int))) ≤ (l0.length : Int)
   ·rw [if_pos c3] at H
    have c3b0 : decide ((wrap64 (x5_1 + (l1.length : Int))) ≤ (l0.length : Int)) = true := decide_eq_true c3
    clear c3
    by_cases c4 : 0 ≤ x5_1
    ·rw [if_pos c4] at H
     have c4b0 := eq_true c4
     have c4b1 : decide (0 ≤ x5_1) = true := decide_eq_true c4
     clear c4
     by_cases c5 : x5_1 ≤ (wrap64 (x5_1 + (l1.length : Int)))
     ·rw [if_pos c5] at H
      have c5b0 := eq_true c5
      have c5b1 : decide (x5_1 ≤ (wrap64 (x5_1 + (l1.length : Int)))) = true := decide_eq_true c5
      have c6b0 := eq_true (da_ : (wrap64 (x5_1 + (l1.length : Int))) ≤ (l0.length : Int))
      replace H := Option.bind_eq_some_iff.mp H
      obtain ⟨t543, A70, H⟩ := H
      replace H : (if t543 = true then (some true) else (spec_l15Has.l0 k1 l0 l1 (wrap64 (x5_1 + 1)))) = some r := H
      have A7 := Aside0.mk A70
      clear A70
      by_cases c8 : t543 = true
      ·subst c8
       have H1 : (some true) = some r := by rw [if_pos rfl] at H; exact H
       clear H
       have H := H1
       clear H1
       obtain rfl := Option.some.inj H
       obtain ⟨i09, hi09, _, hsz9, _⟩ := info_parts info2
       obtain ⟨A9, hcut9, hA9, hC9⟩ := print_mid_of (P := Try.prog) (Value.int .i64) 0 22 2 .i64 .i64 Try.underlying22 hi09 hsz9 A0 c0 l0 x5_1 (wrap64 (x5_1 + (l1.length : Int))) (da_) (by first | omega | exact da_) (da_) HC0.out
       have HR542 := Aside0.mk (Kd.C_of_reads (h1 := fun _ => rfl) (hA9 _ (Kd.reads_of_C HR0.out)))
       have HC542 := Aside0.mk hC9
       clear hA9 hC9 hi09 hsz9
       go_wp2_with (first | ((with_reducible refine gate_callee (f := 89) rfl ?_); refine goesL_ (some 23) rfl rfl Try.func89 (by kernel_rfl) rfl #[.slice A9 ((l0.take ((wrap64 (x5_1 + (l1.length : Int))) : Int).toNat).drop (x5_1 : Int).toNat).length (c0 - x5_1.toNat), .slice A1 l1.length c1] rfl (by (try simp only [List.map_toArray, List.map_cons, List.map_nil]); first | done | (rw [show ((l0.take ((wrap64 (x5_1 + (l1.length : Int))) : Int).toNat).drop (x5_1 : Int).toNat).length = ((wrap64 (x5_1 + (l1.length : Int))).toNat - x5_1.toNat) from (by rw [List.length_drop, List.length_take]; have h_ : ((wrap64 (x5_1 + (l1.length : Int))) : Int) ≤ (l0.length : Int) := da_; omega)] <;> rfl) | rfl | (simp only [List.length_drop, List.length_take]; rfl)) ?_; (with_reducible refine (spec_l00Same.calls k1 _ _ ((l0.take ((wrap64 (x5_1 + (l1.length : Int))) : Int).toNat).drop (x5_1 : Int).toNat) _ _ l1 true _ ?side1 ?side2 ?side3 ?side4 A7.out).mono ?_); (case side1 => exact cr_ HR542.out); (case side2 => exact HC542.out); (case side3 => exact cr_ HR1.out); (case side4 => exact HC1.out); rintro e w' ⟨rfl, ⟨nd, rfl⟩⟩; refine ⟨_, rfl, ?_⟩))
       go_ret
       exact ⟨sv_, dr_⟩
      ·replace c8 := Bool.eq_false_iff.mpr c8
       subst c8
       have H1 : (spec_l15Has.l0 k1 l0 l1 (wrap64 (x5_1 + 1))) = some r := by rw [if_neg (show ¬ (false = true) by decide)] at H; exact H
       clear H
       have H := H1
       clear H1
       have H' := Aside0.mk H
       clear H
       obtain ⟨i010, hi010, _, hsz10, _⟩ := info_parts info2
       obtain ⟨A10, hcut10, hA10, hC10⟩ := print_mid_of (P := Try.prog) (Value.int .i64) 0 22 2 .i64 .i64 Try.underlying22 hi010 hsz10 A0 c0 l0 x5_1 (wrap64 (x5_1 + (l1.length : Int))) (da_) (by first | omega | exact da_) (da_) HC0.out
       have HR542 := Aside0.mk (Kd.C_of_reads (h1 := fun _ => rfl) (hA10 _ (Kd.reads_of_C HR0.out)))
       have HC542 := Aside0.mk hC10
       clear hA10 hC10 hi010 hsz10
       go_wp2_with (first | ((with_reducible refine gate_callee (f := 89) rfl ?_); refine goesL_ (some 23) rfl rfl Try.func89 (by kernel_rfl) rfl #[.slice A10 ((l0.take ((wrap64 (x5_1 + (l1.length : Int))) : Int).toNat).drop (x5_1 : Int).toNat).length (c0 - x5_1.toNat), .slice A1 l1.length c1] rfl (by (try simp only [List.map_toArray, List.map_cons, List.map_nil]); first | done | (rw [show ((l0.take ((wrap64 (x5_1 + (l1.length : Int))) : Int).toNat).drop (x5_1 : Int).toNat).length = ((wrap64 (x5_1 + (l1.length : Int))).toNat - x5_1.toNat) from (by rw [List.length_drop, List.length_take]; have h_ : ((wrap64 (x5_1 + (l1.length : Int))) : Int) ≤ (l0.length : Int) := da_; omega)] <;> rfl) | rfl | (simp only [List.length_drop, List.length_take]; rfl)) ?_; (with_reducible refine (spec_l00Same.calls k1 _ _ ((l0.take ((wrap64 (x5_1 + (l1.length : Int))) : Int).toNat).drop (x5_1 : Int).toNat) _ _ l1 false _ ?side1 ?side2 ?side3 ?side4 A7.out).mono ?_); (case side1 => exact cr_ HR542.out); (case side2 => exact HC542.out); (case side3 => exact cr_ HR1.out); (case side4 => exact HC1.out); rintro e w' ⟨rfl, ⟨nd, rfl⟩⟩; refine ⟨_, rfl, ?_⟩))
       go_roundg k1
       case measure => have := HK1.out; omega
       case rel => exact ⟨(wrap64 (x5_1 + 1)), sv_, H', ⟨by have := HK1.out; omega⟩, dr_⟩
     ·rw [if_neg c5] at H
      exact absurd H (by simp)
    ·rw [if_neg c4] at H
     exact absurd H (by simp)
   ·rw [if_neg c3] at H
    have c3b0 : decide ((wrap64 (x5_1 + (l1.length : Int))) ≤ (l0.length : Int)) = false := decide_eq_false c3
    clear c3
    obtain rfl := Option.some.inj H
    go_wp2
    go_ret
    exact ⟨sv_, dr_⟩
/-! ### spec_l15Parts: function 130 -/
def spec_l15Parts.l0 : Nat → List Int → Int → Int → Int → Int → Int → Int → List (List Int) → Int → Option (Bool)
 | 0, _, _, _, _, _, _, _, _, _ => none
 | k + 1, x1, x5, x545000, x545001, x545002, x545003, x545004, x545005, x545006 => if x5 < (x545005.length : Int) then (if 0 ≤ x5 then ((spec_l15Has.f k x1 (rd_L1 x545005 x5)).bind fun t546 => (if t546 = true then (spec_l15Parts.l0 k x1 (wrap64 (x5 + 1)) x545000 x545001 x545002 x545003 x545004 x545005 x545006) else (some false))) else (none)) else (some true)
def spec_l15Parts.f (k : Nat) (a0_0 : Int) (a0_1 : Int) (a0_2 : Int) (a0_3 : Int) (a0_4 : Int) (l0_5 : List (List Int)) (a0_6 : Int) (l1 : List Int) : Option (Bool) := spec_l15Parts.l0 k l1 0 a0_0 a0_1 a0_2 a0_3 a0_4 l0_5 a0_6
set_option maxHeartbeats 8000000 in
set_option maxRecDepth 100000 in
theorem spec_l15Parts.calls (k : Nat) (g0 : Nat) (a0_0 : Int) (a0_1 : Int) (a0_2 : Int) (a0_3 : Int) (a0_4 : Int) (A0_5 : Option Addr) (c0_5 : Nat) (l0_5 : List (List Int)) (a0_6 : Int) (A1 : Option Addr) (c1 : Nat) (l1 : List Int) (r : Bool) (w : World) (hp0 : w.heap[g0]? = some (.cells #[.int .i64 a0_0, .int .i64 a0_1, .int .i64 a0_2, .int .i64 a0_3, .int .i64 a0_4, .slice A0_5 l0_5.length c0_5, .int .i64 a0_6] 62 (0, 0))) (hr0_5 : Kd.C (Kd.slice 2 (Kd.int .i64)) w A0_5 l0_5.length l0_5) (hc0_5 : l0_5.length ≤ c0_5) (hr1 : Kd.C (Kd.int .i64) w A1 l1.length l1) (hc1 : l1.length ≤ c1) (h : spec_l15Parts.f k a0_0 a0_1 a0_2 a0_3 a0_4 l0_5 a0_6 l1 = some r) :
  Calls Try.prog 130 #[.pointer (some ⟨g0, 0, none⟩), .slice A1 l1.length c1] w fun e w' => e = .returned (.bool r) ∧ Drawn0 w w' := by
 have HR0_5 := Aside0.mk hr0_5
 have HC0_5 := Aside0.mk hc0_5
 clear hr0_5 hc0_5
 have HR1 := Aside0.mk hr1
 have HC1 := Aside0.mk hc1
 clear hr1 hc1
 have HBX0 := Aside0.mk hp0
 have HBP0 := Aside0.mk hp0
 clear hp0
 have H : (spec_l15Parts.l0 k l1 0 a0_0 a0_1 a0_2 a0_3 a0_4 l0_5 a0_6) = some r := h
 clear h
 have H' := Aside0.mk H
 clear H
 go_enter Try.func130, Try.ntmps130
 go_wp2
 go_loopg [5] k (fun kq v5 w' => ∃ (x5_1 : Int), v5 = .int .i64 x5_1 ∧ Aside0 (spec_l15Parts.l0 kq l1 x5_1 a0_0 a0_1 a0_2 a0_3 a0_4 l0_5 a0_6 = some r) ∧ Aside0 (kq ≤ k) ∧ Aside0 (w'.heap[g0]? = some (.cells #[.int .i64 a0_0, .int .i64 a0_1, .int .i64 a0_2, .int .i64 a0_3, .int .i64 a0_4, (.slice A0_5 l0_5.length c0_5), .int .i64 a0_6] 62 (0, 0))) ∧ Drawn0 w w')
 case atStart => exact ⟨(0), sv_, H', ⟨Nat.le_refl _⟩, ⟨by (with_reducible repeat (first | refine blk_drewN ?_ _ | refine blk_drew ?_ | refine blk_alloc ?_ _)); exact HBP0.out⟩, dr_⟩
 case round =>
  clear H'
  (try clear c1); (try clear p2)
  obtain ⟨x5_1, rfl, HA, HK1, HBX0, ⟨m1, rfl⟩⟩ := hrel
  cases gk with
  | zero => exact absurd HA.out (by simp [spec_l15Parts.l0])
  | succ k1 =>
   have H := HA.out
   clear HA
   simp only [spec_l15Parts.l0] at H
   by_cases c3 : x5_1 < (l0_5.length : Int)
   ·rw [if_pos c3] at H
    have c3b0 : decide (x5_1 < (l0_5.length : Int)) = true := decide_eq_true c3
    clear c3
    by_cases c4 : 0 ≤ x5_1
    ·rw [if_pos c4] at H
     have c4b0 : decide (0 ≤ x5_1) = true := decide_eq_true c4
     clear c4
     replace H := Option.bind_eq_some_iff.mp H
     obtain ⟨t546, A50, H⟩ := H
     replace H : (if t546 = true then (spec_l15Parts.l0 k1 l1 (wrap64 (x5_1 + 1)) a0_0 a0_1 a0_2 a0_3 a0_4 l0_5 a0_6) else (some false)) = some r := H
     have A5 := Aside0.mk A50
     clear A50
     by_cases c6 : t546 = true
     ·subst c6
      have H1 : (spec_l15Parts.l0 k1 l1 (wrap64 (x5_1 + 1)) a0_0 a0_1 a0_2 a0_3 a0_4 l0_5 a0_6) = some r := by rw [if_pos rfl] at H; exact H
      clear H
      have H := H1
      clear H1
      have H' := Aside0.mk H
      clear H
      have hcz7_0 : w.cell? ⟨g0, 0, none⟩ = some (.int .i64 a0_0) := (blk_cell HBP0.out 0).trans rfl
      have hcz7_1 : w.cell? ⟨g0, 1, none⟩ = some (.int .i64 a0_1) := (blk_cell HBP0.out 1).trans rfl
      have hcz7_2 : w.cell? ⟨g0, 2, none⟩ = some (.int .i64 a0_2) := (blk_cell HBP0.out 2).trans rfl
      have hcz7_3 : w.cell? ⟨g0, 3, none⟩ = some (.int .i64 a0_3) := (blk_cell HBP0.out 3).trans rfl
      have hcz7_4 : w.cell? ⟨g0, 4, none⟩ = some (.int .i64 a0_4) := (blk_cell HBP0.out 4).trans rfl
      have hcz7_5 : w.cell? ⟨g0, 5, none⟩ = some (.slice A0_5 l0_5.length c0_5) := (blk_cell HBP0.out 5).trans rfl
      have hcz7_6 : w.cell? ⟨g0, 6, none⟩ = some (.int .i64 a0_6) := (blk_cell HBP0.out 6).trans rfl
      have p545 : 0 ≤ (x5_1 : Int) := da_
      have q545 : x5_1 < (l0_5.length : Int) := da_
      obtain ⟨ad545, A545_0, c545_0, e545, hx545_0, hl545_0, hi545_0⟩ := at_L1 HR0_5.out x5_1 p545 q545
      cases e545
      have HR545_0 := Aside0.mk hi545_0
      have HC545_0 := Aside0.mk hl545_0
      clear hi545_0 hl545_0
      replace p545 := eq_true p545
      replace q545 := eq_true q545
      go_wp2_with (first | ((with_reducible refine gate_callee (f := 155) rfl ?_); refine goesL_ (some 23) rfl rfl Try.func155 (by kernel_rfl) rfl #[.slice A1 l1.length c1, .slice A545_0 (rd_L1 l0_5 x5_1).length c545_0] rfl av_ ?_; (with_reducible refine (spec_l15Has.calls k1 _ _ l1 _ _ (rd_L1 l0_5 x5_1) true _ ?side1 ?side2 ?side3 ?side4 A5.out).mono ?_); (case side1 => exact cr_ HR1.out); (case side2 => exact HC1.out); (case side3 => exact cr_ HR545_0.out); (case side4 => exact HC545_0.out); rintro e w' ⟨rfl, ⟨nd, rfl⟩⟩; refine ⟨_, rfl, ?_⟩))
      go_roundg k1
      case measure => have := HK1.out; omega
      case rel => exact ⟨(wrap64 (x5_1 + 1)), sv_, H', ⟨by have := HK1.out; omega⟩, ⟨by (with_reducible repeat (first | refine blk_drewN ?_ _ | refine blk_drew ?_ | refine blk_alloc ?_ _)); exact HBP0.out⟩, dr_⟩
     ·replace c6 := Bool.eq_false_iff.mpr c6
      subst c6
      have H1 : (some false) = some r := by rw [if_neg (show ¬ (false = true) by decide)] at H; exact H
      clear H
      have H := H1
      clear H1
      obtain rfl := Option.some.inj H
      have hcz8_0 : w.cell? ⟨g0, 0, none⟩ = some (.int .i64 a0_0) := (blk_cell HBP0.out 0).trans rfl
      have hcz8_1 : w.cell? ⟨g0, 1, none⟩ = some (.int .i64 a0_1) := (blk_cell HBP0.out 1).trans rfl
      have hcz8_2 : w.cell? ⟨g0, 2, none⟩ = some (.int .i64 a0_2) := (blk_cell HBP0.out 2).trans rfl
      have hcz8_3 : w.cell? ⟨g0, 3, none⟩ = some (.int .i64 a0_3) := (blk_cell HBP0.out 3).trans rfl
      have hcz8_4 : w.cell? ⟨g0, 4, none⟩ = some (.int .i64 a0_4) := (blk_cell HBP0.out 4).trans rfl
      have hcz8_5 : w.cell? ⟨g0, 5, none⟩ = some (.slice A0_5 l0_5.length c0_5) := (blk_cell HBP0.out 5).trans rfl
      have hcz8_6 : w.cell? ⟨g0, 6, none⟩ = some (.int .i64 a0_6) := (blk_cell HBP0.out 6).trans rfl
      have p545 : 0 ≤ (x5_1 : Int) := da_
      have q545 : x5_1 < (l0_5.length : Int) := da_
      obtain ⟨ad545, A545_0, c545_0, e545, hx545_0, hl545_0, hi545_0⟩ := at_L1 HR0_5.out x5_1 p545 q545
      cases e545
      have HR545_0 := Aside0.mk hi545_0
      have HC545_0 := Aside0.mk hl545_0
      clear hi545_0 hl545_0
      replace p545 := eq_true p545
      replace q545 := eq_true q545
      go_wp2_with (first | ((with_reducible refine gate_callee (f := 155) rfl ?_); refine goesL_ (some 23) rfl rfl Try.func155 (by kernel_rfl) rfl #[.slice A1 l1.length c1, .slice A545_0 (rd_L1 l0_5 x5_1).length c545_0] rfl av_ ?_; (with_reducible refine (spec_l15Has.calls k1 _ _ l1 _ _ (rd_L1 l0_5 x5_1) false _ ?side1 ?side2 ?side3 ?side4 A5.out).mono ?_); (case side1 => exact cr_ HR1.out); (case side2 => exact HC1.out); (case side3 => exact cr_ HR545_0.out); (case side4 => exact HC545_0.out); rintro e w' ⟨rfl, ⟨nd, rfl⟩⟩; refine ⟨_, rfl, ?_⟩))
      go_ret
      exact ⟨sv_, dr_⟩
    ·rw [if_neg c4] at H
     exact absurd H (by simp)
   ·rw [if_neg c3] at H
    have c3b0 : decide (x5_1 < (l0_5.length : Int)) = false := decide_eq_false c3
    clear c3
    obtain rfl := Option.some.inj H
    have hcz9_0 : w.cell? ⟨g0, 0, none⟩ = some (.int .i64 a0_0) := (blk_cell HBP0.out 0).trans rfl
    have hcz9_1 : w.cell? ⟨g0, 1, none⟩ = some (.int .i64 a0_1) := (blk_cell HBP0.out 1).trans rfl
    have hcz9_2 : w.cell? ⟨g0, 2, none⟩ = some (.int .i64 a0_2) := (blk_cell HBP0.out 2).trans rfl
    have hcz9_3 : w.cell? ⟨g0, 3, none⟩ = some (.int .i64 a0_3) := (blk_cell HBP0.out 3).trans rfl
    have hcz9_4 : w.cell? ⟨g0, 4, none⟩ = some (.int .i64 a0_4) := (blk_cell HBP0.out 4).trans rfl
    have hcz9_5 : w.cell? ⟨g0, 5, none⟩ = some (.slice A0_5 l0_5.length c0_5) := (blk_cell HBP0.out 5).trans rfl
    have hcz9_6 : w.cell? ⟨g0, 6, none⟩ = some (.int .i64 a0_6) := (blk_cell HBP0.out 6).trans rfl
    go_wp2
    go_ret
    exact ⟨sv_, dr_⟩
/-! ### spec_l15Repeats: function 129 -/
def spec_l15Repeats.l0 : Nat → List Int → Int → Int → Int → Option (Int)
 | 0, _, _, _, _ => none
 | k + 1, x0, x3, x4, x5 => if x5 < (x0.length : Int) then (if 0 ≤ x5 then (if 0 ≤ (wrap64 (x5 - 1)) then (if (wrap64 (x5 - 1)) < (x0.length : Int) then (if (rd x0 x5) = (rd x0 (wrap64 (x5 - 1))) then ((spec_l00Max.f x3 (wrap64 (x4 + 1))).bind fun t540 => (spec_l15Repeats.l0 k x0 t540 (wrap64 (x4 + 1)) (wrap64 (x5 + 1)))) else ((spec_l00Max.f x3 0).bind fun t541 => (spec_l15Repeats.l0 k x0 t541 0 (wrap64 (x5 + 1))))) else (none)) else (none)) else (none)) else (some x3)
def spec_l15Repeats.f (k : Nat) (l0 : List Int) : Option (Int) := spec_l15Repeats.l0 k l0 0 0 1
set_option maxHeartbeats 8000000 in
set_option maxRecDepth 100000 in
theorem spec_l15Repeats.calls (k : Nat) (A0 : Option Addr) (c0 : Nat) (l0 : List Int) (r : Int) (w : World) (hr0 : Kd.C (Kd.int .i64) w A0 l0.length l0) (hc0 : l0.length ≤ c0) (h : spec_l15Repeats.f k l0 = some r) :
  Calls Try.prog 129 #[.slice A0 l0.length c0] w fun e w' => e = .returned (.int .i64 r) ∧ Drawn0 w w' := by
 have HR0 := Aside0.mk hr0
 have HC0 := Aside0.mk hc0
 clear hr0 hc0
 have H : (spec_l15Repeats.l0 k l0 0 0 1) = some r := h
 clear h
 have H' := Aside0.mk H
 clear H
 go_enter Try.func129, Try.ntmps129
 go_wp2
 repeat (go_quiet (fail); try go_wp2)
 go_loopg [3, 4, 5] k (fun kq v3 v4 v5 w' => ∃ (x3_1 : Int) (x4_1 : Int) (x5_1 : Int), v3 = .int .i64 x3_1 ∧ v4 = .int .i64 x4_1 ∧ v5 = .int .i64 x5_1 ∧ Aside0 (spec_l15Repeats.l0 kq l0 x3_1 x4_1 x5_1 = some r) ∧ Aside0 (kq ≤ k) ∧ Drawn0 w w')
 case atStart => exact ⟨(0), (0), (1), sv_, sv_, sv_, H', ⟨Nat.le_refl _⟩, dr_⟩
 case round =>
  clear H'
  try clear c1
  obtain ⟨x3_1, x4_1, x5_1, rfl, rfl, rfl, HA, HK1, ⟨m1, rfl⟩⟩ := hrel
  cases gk with
  | zero => exact absurd HA.out (by simp [spec_l15Repeats.l0])
  | succ k1 =>
   have H := HA.out
   clear HA
   simp only [spec_l15Repeats.l0] at H
   by_cases c2 : x5_1 < (l0.length : Int)
   ·rw [if_pos c2] at H
    have c2b0 : decide (x5_1 < (l0.length : Int)) = true := decide_eq_true c2
    clear c2
    by_cases c3 : 0 ≤ x5_1
    ·rw [if_pos c3] at H
     have c3b0 : decide (0 ≤ x5_1) = true := decide_eq_true c3
     clear c3
     obtain ⟨ji4, hji4⟩ : ∃ j_ : Int, (wrap64 (x5_1 - 1)) = j_ := ⟨_, rfl⟩
     replace H : (if 0 ≤ (ji4) then (if (ji4) < (l0.length : Int) then (if (rd l0 x5_1) = (rd l0 (ji4)) then ((spec_l00Max.f x3_1 (wrap64 (x4_1 + 1))).bind fun t540 => (spec_l15Repeats.l0 k1 l0 t540 (wrap64 (x4_1 + 1)) (wrap64 (x5_1 + 1)))) else ((spec_l00Max.f x3_1 0).bind fun t541 => (spec_l15Repeats.l0 k1 l0 t541 0 (wrap64 (x5_1 + 1))))) else (none)) else (none)) = some r := by first | (rw [hji4] at H; exact H) | (simp only [hji4] at H ⊢; exact H)
     have hji4w : (IntKind.i64.wrap (x5_1 - 1)) = ji4 := (i64_w _).trans hji4
     by_cases c5 : 0 ≤ (ji4)
     ·rw [if_pos c5] at H
      have c5b0 : decide (0 ≤ (ji4)) = true := decide_eq_true c5
      clear c5
      by_cases c6 : (ji4) < (l0.length : Int)
      ·rw [if_pos c6] at H
       have c6b0 : decide ((ji4) < (l0.length : Int)) = true := decide_eq_true c6
       clear c6
       by_cases c7 : (rd l0 x5_1) = (rd l0 (ji4))
       ·rw [if_pos c7] at H
        have c7b0 : ((rd l0 x5_1) == (rd l0 (ji4))) = true := beq_iff_eq.mpr c7
        have c7b1 : ((rd l0 x5_1) != (rd l0 (ji4))) = false := bne_eq_false_iff_eq.mpr c7
        clear c7
        replace H := Option.bind_eq_some_iff.mp H
        obtain ⟨t540, A80, H⟩ := H
        replace H : (spec_l15Repeats.l0 k1 l0 t540 (wrap64 (x4_1 + 1)) (wrap64 (x5_1 + 1))) = some r := H
        have A8 := Aside0.mk A80
        clear A80
        have H' := Aside0.mk H
        clear H
        have p538 : 0 ≤ (x5_1 : Int) := da_
        have q538 : x5_1 < (l0.length : Int) := da_
        obtain ⟨ad538, e538, hx538_0⟩ := Kd.at_int HR0.out x5_1 p538 q538
        cases e538
        replace p538 := eq_true p538
        replace q538 := eq_true q538
        have p539 : 0 ≤ ((ji4) : Int) := da_
        have q539 : (ji4) < (l0.length : Int) := da_
        obtain ⟨ad539, e539, hx539_0⟩ := Kd.at_int HR0.out (ji4) p539 q539
        obtain rfl : ad538 = ad539 := (by injection e539)
        replace p539 := eq_true p539
        replace q539 := eq_true q539
        go_wp2_with (first | (go_at_call 140; (with_reducible refine (spec_l00Max.calls x3_1 (wrap64 (x4_1 + 1)) t540 _ A8.out).mono ?_); rintro e w' ⟨rfl, ⟨nd, rfl⟩⟩; (try first | exact ⟨rfl, _, dN1⟩ | exact ⟨rfl, _, dN2⟩)))
        repeat (go_quiet (first | (go_at_call 140; (with_reducible refine (spec_l00Max.calls x3_1 (wrap64 (x4_1 + 1)) t540 _ A8.out).mono ?_); rintro e w' ⟨rfl, ⟨nd, rfl⟩⟩; (try first | exact ⟨rfl, _, dN1⟩ | exact ⟨rfl, _, dN2⟩))); try go_wp2_with (first | (go_at_call 140; (with_reducible refine (spec_l00Max.calls x3_1 (wrap64 (x4_1 + 1)) t540 _ A8.out).mono ?_); rintro e w' ⟨rfl, ⟨nd, rfl⟩⟩; (try first | exact ⟨rfl, _, dN1⟩ | exact ⟨rfl, _, dN2⟩))))
        go_roundg k1
        case measure => have := HK1.out; omega
        case rel => exact ⟨(t540), (wrap64 (x4_1 + 1)), (wrap64 (x5_1 + 1)), sv_, sv_, sv_, H', ⟨by have := HK1.out; omega⟩, dr_⟩
       ·rw [if_neg c7] at H
        have c7b0 : ((rd l0 x5_1) == (rd l0 (ji4))) = false := beq_eq_false_iff_ne.mpr c7
        have c7b1 : ((rd l0 x5_1) != (rd l0 (ji4))) = true := bne_iff_ne.mpr c7
        replace H := Option.bind_eq_some_iff.mp H
        obtain ⟨t541, A90, H⟩ := H
        replace H : (spec_l15Repeats.l0 k1 l0 t541 0 (wrap64 (x5_1 + 1))) = some r := H
        have A9 := Aside0.mk A90
        clear A90
        have H' := Aside0.mk H
        clear H
        have p538 : 0 ≤ (x5_1 : Int) := da_
        have q538 : x5_1 < (l0.length : Int) := da_
        obtain ⟨ad538, e538, hx538_0⟩ := Kd.at_int HR0.out x5_1 p538 q538
        cases e538
        replace p538 := eq_true p538
        replace q538 := eq_true q538
        have p539 : 0 ≤ ((ji4) : Int) := da_
        have q539 : (ji4) < (l0.length : Int) := da_
        obtain ⟨ad539, e539, hx539_0⟩ := Kd.at_int HR0.out (ji4) p539 q539
        obtain rfl : ad538 = ad539 := (by injection e539)
        replace p539 := eq_true p539
        replace q539 := eq_true q539
        go_wp2_with (first | (go_at_call 140; (with_reducible refine (spec_l00Max.calls x3_1 0 t541 _ A9.out).mono ?_); rintro e w' ⟨rfl, ⟨nd, rfl⟩⟩; (try first | exact ⟨rfl, _, dN1⟩ | exact ⟨rfl, _, dN2⟩)))
        repeat (go_quiet (first | (go_at_call 140; (with_reducible refine (spec_l00Max.calls x3_1 0 t541 _ A9.out).mono ?_); rintro e w' ⟨rfl, ⟨nd, rfl⟩⟩; (try first | exact ⟨rfl, _, dN1⟩ | exact ⟨rfl, _, dN2⟩))); try go_wp2_with (first | (go_at_call 140; (with_reducible refine (spec_l00Max.calls x3_1 0 t541 _ A9.out).mono ?_); rintro e w' ⟨rfl, ⟨nd, rfl⟩⟩; (try first | exact ⟨rfl, _, dN1⟩ | exact ⟨rfl, _, dN2⟩))))
        go_roundg k1
        case measure => have := HK1.out; omega
        case rel => exact ⟨(t541), (0), (wrap64 (x5_1 + 1)), sv_, sv_, sv_, H', ⟨by have := HK1.out; omega⟩, dr_⟩
      ·rw [if_neg c6] at H
       exact absurd H (by simp)
     ·rw [if_neg c5] at H
      exact absurd H (by simp)
    ·rw [if_neg c3] at H
     exact absurd H (by simp)
   ·rw [if_neg c2] at H
    have c2b0 : decide (x5_1 < (l0.length : Int)) = false := decide_eq_false c2
    clear c2
    obtain rfl := Option.some.inj H
    go_wp2
    repeat (go_quiet (fail); try go_wp2)
    go_ret
    exact ⟨sv_, dr_⟩
/-! ### spec_l15Is: function 95 -/
mutual
def spec_l15Is.j0 : Nat → List Int → Bool → ByteArray → List Int → List Int → Int → Int → List (List Int) → Int → Int → Int → Int → Int → List (List Int) → Int → Option (Bool)
 | 0, _, _, _, _, _, _, _, _, _, _, _, _, _, _, _ => none
 | k + 1, x2, x41, x548000, x548001, x548002, x548003, x548004, x548005, x549000, x549001, x549002, x549003, x549004, x549005, x549006 => if x41 = true then (some false) else (spec_l15Is.l0 k x2 0 x548000 x548001 x548002 x548003 x548004 x548005 x549000 x549001 x549002 x549003 x549004 x549005 x549006)
def spec_l15Is.l0 : Nat → List Int → Int → ByteArray → List Int → List Int → Int → Int → List (List Int) → Int → Int → Int → Int → Int → List (List Int) → Int → Option (Bool)
 | 0, _, _, _, _, _, _, _, _, _, _, _, _, _, _, _ => none
 | k + 1, x2, x7, x548000, x548001, x548002, x548003, x548004, x548005, x549000, x549001, x549002, x549003, x549004, x549005, x549006 => if x7 < (x2.length : Int) then (if 0 ≤ x7 then ((spec_l00In.f (rd x2 x7) x549003 x549004).bind fun t552 => (if t552 = true then (spec_l15Is.l0 k x2 (wrap64 (x7 + 1)) x548000 x548001 x548002 x548003 x548004 x548005 x549000 x549001 x549002 x549003 x549004 x549005 x549006) else (some false))) else (none)) else ((spec_l05Wrong.f k x548000 x548001 x548002 x548003 x548004 x548005 x2).bind fun bt553 => (if bt553.1 < 0 then ((spec_l15Repeats.f k x2).bind fun t555 => (if t555 ≤ x549006 then ((spec_l15Parts.f k x549000 x549001 x549002 x549003 x549004 x549005 x549006 x2).bind fun t556 => (some t556)) else (some false))) else (some false)))
end
def spec_l15Is.f (k : Nat) (a0_0 : ByteArray) (l0_1 : List Int) (l0_2 : List Int) (a0_3 : Int) (a0_4 : Int) (l0_5 : List (List Int)) (a1_0 : Int) (a1_1 : Int) (a1_2 : Int) (a1_3 : Int) (a1_4 : Int) (l1_5 : List (List Int)) (a1_6 : Int) (l2 : List Int) : Option (Bool) := if (l2.length : Int) = a1_0 then (if 0 < (l2.length : Int) then (if (rd l2 0) = a1_1 then (if 0 ≤ (wrap64 (a1_0 - 1)) then (if (wrap64 (a1_0 - 1)) < (l2.length : Int) then (spec_l15Is.j0 k l2 ((rd l2 (wrap64 (a1_0 - 1))) != a1_2) a0_0 l0_1 l0_2 a0_3 a0_4 l0_5 a1_0 a1_1 a1_2 a1_3 a1_4 l1_5 a1_6) else (none)) else (none)) else (spec_l15Is.j0 k l2 true a0_0 l0_1 l0_2 a0_3 a0_4 l0_5 a1_0 a1_1 a1_2 a1_3 a1_4 l1_5 a1_6)) else (none)) else (spec_l15Is.j0 k l2 true a0_0 l0_1 l0_2 a0_3 a0_4 l0_5 a1_0 a1_1 a1_2 a1_3 a1_4 l1_5 a1_6)
set_option maxHeartbeats 8000000 in
set_option maxRecDepth 100000 in
theorem spec_l15Is.calls (k : Nat) (g0 : Nat) (a0_0 : ByteArray) (A0_1 : Option Addr) (c0_1 : Nat) (l0_1 : List Int) (A0_2 : Option Addr) (c0_2 : Nat) (l0_2 : List Int) (a0_3 : Int) (a0_4 : Int) (A0_5 : Option Addr) (c0_5 : Nat) (l0_5 : List (List Int)) (g1 : Nat) (a1_0 : Int) (a1_1 : Int) (a1_2 : Int) (a1_3 : Int) (a1_4 : Int) (A1_5 : Option Addr) (c1_5 : Nat) (l1_5 : List (List Int)) (a1_6 : Int) (A2 : Option Addr) (c2 : Nat) (l2 : List Int) (r : Bool) (w : World) (hp0 : w.heap[g0]? = some (.cells #[.string a0_0, .slice A0_1 l0_1.length c0_1, .slice A0_2 l0_2.length c0_2, .int .i64 a0_3, .int .i64 a0_4, .slice A0_5 l0_5.length c0_5] 29 (0, 0))) (hr0_1 : Kd.C (Kd.int .i64) w A0_1 l0_1.length l0_1) (hc0_1 : l0_1.length ≤ c0_1) (hr0_2 : Kd.C (Kd.int .i64) w A0_2 l0_2.length l0_2) (hc0_2 : l0_2.length ≤ c0_2) (hr0_5 : Kd.C (Kd.slice 2 (Kd.int .i64)) w A0_5 l0_5.length l0_5) (hc0_5 : l0_5.length ≤ c0_5) (hp1 : w.heap[g1]? = some (.cells #[.int .i64 a1_0, .int .i64 a1_1, .int .i64 a1_2, .int .i64 a1_3, .int .i64 a1_4, .slice A1_5 l1_5.length c1_5, .int .i64 a1_6] 62 (0, 0))) (hr1_5 : Kd.C (Kd.slice 2 (Kd.int .i64)) w A1_5 l1_5.length l1_5) (hc1_5 : l1_5.length ≤ c1_5) (hr2 : Kd.C (Kd.int .i64) w A2 l2.length l2) (hc2 : l2.length ≤ c2) (h : spec_l15Is.f k a0_0 l0_1 l0_2 a0_3 a0_4 l0_5 a1_0 a1_1 a1_2 a1_3 a1_4 l1_5 a1_6 l2 = some r) :
  Calls Try.prog 95 #[.pointer (some ⟨g0, 0, none⟩), .pointer (some ⟨g1, 0, none⟩), .slice A2 l2.length c2] w fun e w' => e = .returned (.bool r) ∧ Drawn0 w w' := by
 have HR0_1 := Aside0.mk hr0_1
 have HC0_1 := Aside0.mk hc0_1
 clear hr0_1 hc0_1
 have HR0_2 := Aside0.mk hr0_2
 have HC0_2 := Aside0.mk hc0_2
 clear hr0_2 hc0_2
 have HR0_5 := Aside0.mk hr0_5
 have HC0_5 := Aside0.mk hc0_5
 clear hr0_5 hc0_5
 have HR1_5 := Aside0.mk hr1_5
 have HC1_5 := Aside0.mk hc1_5
 clear hr1_5 hc1_5
 have HR2 := Aside0.mk hr2
 have HC2 := Aside0.mk hc2
 clear hr2 hc2
 have HBX0 := Aside0.mk hp0
 have HBP0 := Aside0.mk hp0
 clear hp0
 have HBX1 := Aside0.mk hp1
 have HBP1 := Aside0.mk hp1
 clear hp1
 have H : (if (l2.length : Int) = a1_0 then (if 0 < (l2.length : Int) then (if (rd l2 0) = a1_1 then (if 0 ≤ (wrap64 (a1_0 - 1)) then (if (wrap64 (a1_0 - 1)) < (l2.length : Int) then (spec_l15Is.j0 k l2 ((rd l2 (wrap64 (a1_0 - 1))) != a1_2) a0_0 l0_1 l0_2 a0_3 a0_4 l0_5 a1_0 a1_1 a1_2 a1_3 a1_4 l1_5 a1_6) else (none)) else (none)) else (spec_l15Is.j0 k l2 true a0_0 l0_1 l0_2 a0_3 a0_4 l0_5 a1_0 a1_1 a1_2 a1_3 a1_4 l1_5 a1_6)) else (none)) else (spec_l15Is.j0 k l2 true a0_0 l0_1 l0_2 a0_3 a0_4 l0_5 a1_0 a1_1 a1_2 a1_3 a1_4 l1_5 a1_6)) = some r := h
 clear h
 have HC4 := Aside0.mk H
 clear H
 go_enter Try.func95, Try.ntmps95
 go_upto_region 1 with (fail)
 repeat (go_quiet (fail); go_upto_region 1 with (fail))
 go_cut [41] (fun v41 wc => ∃ (kq : Nat) (x41_3 : Bool), v41 = .bool x41_3 ∧ Aside0 (spec_l15Is.j0 kq l2 x41_3 a0_0 l0_1 l0_2 a0_3 a0_4 l0_5 a1_0 a1_1 a1_2 a1_3 a1_4 l1_5 a1_6 = some r) ∧ Aside0 (kq ≤ k) ∧ Aside0 (wc.heap[g0]? = some (.cells #[.string a0_0, (.slice A0_1 l0_1.length c0_1), (.slice A0_2 l0_2.length c0_2), .int .i64 a0_3, .int .i64 a0_4, (.slice A0_5 l0_5.length c0_5)] 29 (0, 0))) ∧ Aside0 (wc.heap[g1]? = some (.cells #[.int .i64 a1_0, .int .i64 a1_1, .int .i64 a1_2, .int .i64 a1_3, .int .i64 a1_4, (.slice A1_5 l1_5.length c1_5), .int .i64 a1_6] 62 (0, 0))) ∧ Drawn0 w wc)
 case first =>
  have H := HC4.out
  clear HC4
  by_cases c5 : (l2.length : Int) = a1_0
  ·rw [if_pos c5] at H
   have c5b0 : ((l2.length : Int) == a1_0) = true := beq_iff_eq.mpr c5
   have c5b1 : ((l2.length : Int) != a1_0) = false := bne_eq_false_iff_eq.mpr c5
   clear c5
   (first | rw [c5b0] | (simp only [i64_w, i32_w]; rw [c5b0]) | skip)
   by_cases c6 : 0 < (l2.length : Int)
   ·rw [if_pos c6] at H
    have c6b0 : decide (0 < (l2.length : Int)) = true := decide_eq_true c6
    have c6b1 : decide (0 < l2.length) = true := decide_eq_true (by omega)
    clear c6
    by_cases c7 : (rd l2 0) = a1_1
    ·rw [if_pos c7] at H
     have c7b0 : ((rd l2 0) == a1_1) = true := beq_iff_eq.mpr c7
     have c7b1 : ((rd l2 0) != a1_1) = false := bne_eq_false_iff_eq.mpr c7
     clear c7
     obtain ⟨ji8, hji8⟩ : ∃ j_ : Int, (wrap64 (a1_0 - 1)) = j_ := ⟨_, rfl⟩
     replace H : (if 0 ≤ (ji8) then (if (ji8) < (l2.length : Int) then (spec_l15Is.j0 k l2 ((rd l2 (ji8)) != a1_2) a0_0 l0_1 l0_2 a0_3 a0_4 l0_5 a1_0 a1_1 a1_2 a1_3 a1_4 l1_5 a1_6) else (none)) else (none)) = some r := by first | (rw [hji8] at H; exact H) | (simp only [hji8] at H ⊢; exact H)
     have hji8w : (IntKind.i64.wrap (a1_0 - 1)) = ji8 := (i64_w _).trans hji8
     by_cases c9 : 0 ≤ (ji8)
     ·rw [if_pos c9] at H
      have c9b0 : decide (0 ≤ (ji8)) = true := decide_eq_true c9
      clear c9
      by_cases c10 : (ji8) < (l2.length : Int)
      ·rw [if_pos c10] at H
       have c10b0 : decide ((ji8) < (l2.length : Int)) = true := decide_eq_true c10
       clear c10
       have H' := Aside0.mk H
       clear H
       have hcz11_0 : w.cell? ⟨g1, 0, none⟩ = some (.int .i64 a1_0) := (blk_cell HBP1.out 0).trans rfl
       have hcz11_1 : w.cell? ⟨g1, 1, none⟩ = some (.int .i64 a1_1) := (blk_cell HBP1.out 1).trans rfl
       have hcz11_2 : w.cell? ⟨g1, 2, none⟩ = some (.int .i64 a1_2) := (blk_cell HBP1.out 2).trans rfl
       have hcz11_3 : w.cell? ⟨g1, 3, none⟩ = some (.int .i64 a1_3) := (blk_cell HBP1.out 3).trans rfl
       have hcz11_4 : w.cell? ⟨g1, 4, none⟩ = some (.int .i64 a1_4) := (blk_cell HBP1.out 4).trans rfl
       have hcz11_5 : w.cell? ⟨g1, 5, none⟩ = some (.slice A1_5 l1_5.length c1_5) := (blk_cell HBP1.out 5).trans rfl
       have hcz11_6 : w.cell? ⟨g1, 6, none⟩ = some (.int .i64 a1_6) := (blk_cell HBP1.out 6).trans rfl
       have p549 : 0 ≤ (0 : Int) := (by omega)
       have q549 : 0 < (l2.length : Int) := da_
       obtain ⟨ad549, e549, hx549_0⟩ := Kd.at_int HR2.out 0 p549 q549
       cases e549
       have qi549 : (0 < l2.length) = True := eq_true (by omega)
       (try rw [show ((0 : Int)).toNat = 0 from rfl] at hx549_0)
       (try rw [Addr.add_zero'] at hx549_0)
       replace p549 := eq_true p549
       replace q549 := eq_true q549
       have p550 : 0 ≤ ((ji8) : Int) := da_
       have q550 : (ji8) < (l2.length : Int) := da_
       obtain ⟨ad550, e550, hx550_0⟩ := Kd.at_int HR2.out (ji8) p550 q550
       obtain rfl : ad549 = ad550 := (by injection e550)
       replace p550 := eq_true p550
       replace q550 := eq_true q550
       go_wp2
       repeat (go_quiet (fail); try go_wp2)
       go_meet
       case rel => exact ⟨_, (((rd l2 (ji8)) != a1_2)), (by first | rfl | (simp; done) | (simp only [← hji8] <;> (first | rfl | simp)) | (simp [*]; done)), H', ⟨by first | omega | exact Nat.le_refl _⟩, ⟨by (with_reducible repeat (first | refine blk_drewN ?_ _ | refine blk_drew ?_ | refine blk_alloc ?_ _)); exact HBP0.out⟩, ⟨by (with_reducible repeat (first | refine blk_drewN ?_ _ | refine blk_drew ?_ | refine blk_alloc ?_ _)); exact HBP1.out⟩, dr_⟩
      ·rw [if_neg c10] at H
       exact absurd H (by simp)
     ·rw [if_neg c9] at H
      exact absurd H (by simp)
    ·rw [if_neg c7] at H
     have c7b0 : ((rd l2 0) == a1_1) = false := beq_eq_false_iff_ne.mpr c7
     have c7b1 : ((rd l2 0) != a1_1) = true := bne_iff_ne.mpr c7
     have H' := Aside0.mk H
     clear H
     have hcz12_0 : w.cell? ⟨g1, 0, none⟩ = some (.int .i64 a1_0) := (blk_cell HBP1.out 0).trans rfl
     have hcz12_1 : w.cell? ⟨g1, 1, none⟩ = some (.int .i64 a1_1) := (blk_cell HBP1.out 1).trans rfl
     have hcz12_2 : w.cell? ⟨g1, 2, none⟩ = some (.int .i64 a1_2) := (blk_cell HBP1.out 2).trans rfl
     have hcz12_3 : w.cell? ⟨g1, 3, none⟩ = some (.int .i64 a1_3) := (blk_cell HBP1.out 3).trans rfl
     have hcz12_4 : w.cell? ⟨g1, 4, none⟩ = some (.int .i64 a1_4) := (blk_cell HBP1.out 4).trans rfl
     have hcz12_5 : w.cell? ⟨g1, 5, none⟩ = some (.slice A1_5 l1_5.length c1_5) := (blk_cell HBP1.out 5).trans rfl
     have hcz12_6 : w.cell? ⟨g1, 6, none⟩ = some (.int .i64 a1_6) := (blk_cell HBP1.out 6).trans rfl
     have p549 : 0 ≤ (0 : Int) := (by omega)
     have q549 : 0 < (l2.length : Int) := da_
     obtain ⟨ad549, e549, hx549_0⟩ := Kd.at_int HR2.out 0 p549 q549
     cases e549
     have qi549 : (0 < l2.length) = True := eq_true (by omega)
     (try rw [show ((0 : Int)).toNat = 0 from rfl] at hx549_0)
     (try rw [Addr.add_zero'] at hx549_0)
     replace p549 := eq_true p549
     replace q549 := eq_true q549
     go_wp2
     repeat (go_quiet (fail); try go_wp2)
     go_meet
     case rel => exact ⟨_, (true), sv_, H', ⟨by first | omega | exact Nat.le_refl _⟩, ⟨by (with_reducible repeat (first | refine blk_drewN ?_ _ | refine blk_drew ?_ | refine blk_alloc ?_ _)); exact HBP0.out⟩, ⟨by (with_reducible repeat (first | refine blk_drewN ?_ _ | refine blk_drew ?_ | refine blk_alloc ?_ _)); exact HBP1.out⟩, dr_⟩
   ·rw [if_neg c6] at H
    exact absurd H (by simp)
  ·rw [if_neg c5] at H
   have c5b0 : ((l2.length : Int) == a1_0) = false := beq_eq_false_iff_ne.mpr c5
   have c5b1 : ((l2.length : Int) != a1_0) = true := bne_iff_ne.mpr c5
   (first | rw [c5b0] | (simp only [i64_w, i32_w]; rw [c5b0]) | skip)
   have H' := Aside0.mk H
   clear H
   have hcz13_0 : w.cell? ⟨g1, 0, none⟩ = some (.int .i64 a1_0) := (blk_cell HBP1.out 0).trans rfl
   have hcz13_1 : w.cell? ⟨g1, 1, none⟩ = some (.int .i64 a1_1) := (blk_cell HBP1.out 1).trans rfl
   have hcz13_2 : w.cell? ⟨g1, 2, none⟩ = some (.int .i64 a1_2) := (blk_cell HBP1.out 2).trans rfl
   have hcz13_3 : w.cell? ⟨g1, 3, none⟩ = some (.int .i64 a1_3) := (blk_cell HBP1.out 3).trans rfl
   have hcz13_4 : w.cell? ⟨g1, 4, none⟩ = some (.int .i64 a1_4) := (blk_cell HBP1.out 4).trans rfl
   have hcz13_5 : w.cell? ⟨g1, 5, none⟩ = some (.slice A1_5 l1_5.length c1_5) := (blk_cell HBP1.out 5).trans rfl
   have hcz13_6 : w.cell? ⟨g1, 6, none⟩ = some (.int .i64 a1_6) := (blk_cell HBP1.out 6).trans rfl
   go_wp2
   repeat (go_quiet (fail); try go_wp2)
   go_meet
   case rel => exact ⟨_, (true), sv_, H', ⟨by first | omega | exact Nat.le_refl _⟩, ⟨by (with_reducible repeat (first | refine blk_drewN ?_ _ | refine blk_drew ?_ | refine blk_alloc ?_ _)); exact HBP0.out⟩, ⟨by (with_reducible repeat (first | refine blk_drewN ?_ _ | refine blk_drew ?_ | refine blk_alloc ?_ _)); exact HBP1.out⟩, dr_⟩
 case rest =>
  clear HC4
  (try clear c1); (try clear p1); (try clear c2); (try clear p2); (try clear c5); (try clear c5b0); (try clear c5b1); (try clear p5); (try clear q5); (try clear hx5); (try clear qi5); (try clear c6); (try clear c6b0); (try clear c6b1); (try clear p6); (try clear c7); (try clear c7b0); (try clear c7b1); (try clear c9); (try clear c9b0); (try clear c10); (try clear c10b0); (try clear hcz11_0); (try clear hcz11_1); (try clear hcz11_2); (try clear hcz11_3); (try clear hcz11_4); (try clear hcz11_5); (try clear hcz11_6); (try clear hcz12_0); (try clear hcz12_1); (try clear hcz12_2); (try clear hcz12_3); (try clear hcz12_4); (try clear hcz12_5); (try clear hcz12_6); (try clear hcz13_0); (try clear hcz13_1); (try clear hcz13_2); (try clear hcz13_3); (try clear hcz13_4); (try clear hcz13_5); (try clear hcz13_6); (try clear hx549_0); (try clear hx550_0); (try clear p549); (try clear p550); (try clear q549); (try clear q550)
  obtain ⟨kq, x41_3, rfl, HA, HJ3, HBX0, HBX1, ⟨mc3, rfl⟩⟩ := hcut
  cases kq with
  | zero => exact absurd HA.out (by simp [spec_l15Is.j0])
  | succ kj3 =>
   have H := HA.out
   clear HA
   simp only [spec_l15Is.j0] at H
   by_cases c14 : x41_3 = true
   ·subst c14
    have H1 : (some false) = some r := by rw [if_pos rfl] at H; exact H
    clear H
    have H := H1
    clear H1
    obtain rfl := Option.some.inj H
    go_wp2
    repeat (go_quiet (fail); try go_wp2)
    go_ret
    exact ⟨sv_, dr_⟩
   ·replace c14 := Bool.eq_false_iff.mpr c14
    subst c14
    have H1 : (spec_l15Is.l0 kj3 l2 0 a0_0 l0_1 l0_2 a0_3 a0_4 l0_5 a1_0 a1_1 a1_2 a1_3 a1_4 l1_5 a1_6) = some r := by rw [if_neg (show ¬ (false = true) by decide)] at H; exact H
    clear H
    have H := H1
    clear H1
    have H' := Aside0.mk H
    clear H
    go_wp2
    repeat (go_quiet (fail); try go_wp2)
    go_loopg [7] kj3 (fun kq v7 w' => ∃ (x7_2 : Int), v7 = .int .i64 x7_2 ∧ Aside0 (spec_l15Is.l0 kq l2 x7_2 a0_0 l0_1 l0_2 a0_3 a0_4 l0_5 a1_0 a1_1 a1_2 a1_3 a1_4 l1_5 a1_6 = some r) ∧ Aside0 (kq ≤ kj3) ∧ Aside0 (w'.heap[g0]? = some (.cells #[.string a0_0, (.slice A0_1 l0_1.length c0_1), (.slice A0_2 l0_2.length c0_2), .int .i64 a0_3, .int .i64 a0_4, (.slice A0_5 l0_5.length c0_5)] 29 (0, 0))) ∧ Aside0 (w'.heap[g1]? = some (.cells #[.int .i64 a1_0, .int .i64 a1_1, .int .i64 a1_2, .int .i64 a1_3, .int .i64 a1_4, (.slice A1_5 l1_5.length c1_5), .int .i64 a1_6] 62 (0, 0))) ∧ Drawn0 w w')
    case atStart => exact ⟨(0), sv_, H', ⟨Nat.le_refl _⟩, ⟨by (with_reducible repeat (first | refine blk_drewN ?_ _ | refine blk_drew ?_ | refine blk_alloc ?_ _)); exact HBP0.out⟩, ⟨by (with_reducible repeat (first | refine blk_drewN ?_ _ | refine blk_drew ?_ | refine blk_alloc ?_ _)); exact HBP1.out⟩, dr_⟩
    case round =>
     clear H'
     (try clear c1); (try clear p1); (try clear c2); (try clear p2); (try clear c3); (try clear c5); (try clear c5b0); (try clear c5b1); (try clear p5); (try clear q5); (try clear hx5); (try clear qi5); (try clear c6); (try clear c6b0); (try clear c6b1); (try clear p6); (try clear c7); (try clear c7b0); (try clear c7b1); (try clear c9); (try clear c9b0); (try clear c10); (try clear c10b0); (try clear c14); (try clear hcz11_0); (try clear hcz11_1); (try clear hcz11_2); (try clear hcz11_3); (try clear hcz11_4); (try clear hcz11_5); (try clear hcz11_6); (try clear hcz12_0); (try clear hcz12_1); (try clear hcz12_2); (try clear hcz12_3); (try clear hcz12_4); (try clear hcz12_5); (try clear hcz12_6); (try clear hcz13_0); (try clear hcz13_1); (try clear hcz13_2); (try clear hcz13_3); (try clear hcz13_4); (try clear hcz13_5); (try clear hcz13_6); (try clear hx549_0); (try clear hx550_0); (try clear p1); (try clear p2); (try clear p5); (try clear p549); (try clear p550); (try clear p6); (try clear q5); (try clear q549); (try clear q550)
     obtain ⟨x7_2, rfl, HA, HK2, HBX0, HBX1, ⟨m2, rfl⟩⟩ := hrel
     cases gk with
     | zero => exact absurd HA.out (by simp [spec_l15Is.l0])
     | succ k2 =>
      have H := HA.out
      clear HA
      simp only [spec_l15Is.l0] at H
      by_cases c15 : x7_2 < (l2.length : Int)
      ·rw [if_pos c15] at H
       have c15b0 : decide (x7_2 < (l2.length : Int)) = true := decide_eq_true c15
       clear c15
       by_cases c16 : 0 ≤ x7_2
       ·rw [if_pos c16] at H
        have c16b0 : decide (0 ≤ x7_2) = true := decide_eq_true c16
        clear c16
        replace H := Option.bind_eq_some_iff.mp H
        obtain ⟨t552, A170, H⟩ := H
        replace H : (if t552 = true then (spec_l15Is.l0 k2 l2 (wrap64 (x7_2 + 1)) a0_0 l0_1 l0_2 a0_3 a0_4 l0_5 a1_0 a1_1 a1_2 a1_3 a1_4 l1_5 a1_6) else (some false)) = some r := H
        have A17 := Aside0.mk A170
        clear A170
        by_cases c18 : t552 = true
        ·subst c18
         have H1 : (spec_l15Is.l0 k2 l2 (wrap64 (x7_2 + 1)) a0_0 l0_1 l0_2 a0_3 a0_4 l0_5 a1_0 a1_1 a1_2 a1_3 a1_4 l1_5 a1_6) = some r := by rw [if_pos rfl] at H; exact H
         clear H
         have H := H1
         clear H1
         have H' := Aside0.mk H
         clear H
         have p551 : 0 ≤ (x7_2 : Int) := da_
         have q551 : x7_2 < (l2.length : Int) := da_
         obtain ⟨ad551, e551, hx551_0⟩ := Kd.at_int HR2.out x7_2 p551 q551
         cases e551
         replace p551 := eq_true p551
         replace q551 := eq_true q551
         have hcz19_0 : w.cell? ⟨g1, 0, none⟩ = some (.int .i64 a1_0) := (blk_cell HBP1.out 0).trans rfl
         have hcz19_1 : w.cell? ⟨g1, 1, none⟩ = some (.int .i64 a1_1) := (blk_cell HBP1.out 1).trans rfl
         have hcz19_2 : w.cell? ⟨g1, 2, none⟩ = some (.int .i64 a1_2) := (blk_cell HBP1.out 2).trans rfl
         have hcz19_3 : w.cell? ⟨g1, 3, none⟩ = some (.int .i64 a1_3) := (blk_cell HBP1.out 3).trans rfl
         have hcz19_4 : w.cell? ⟨g1, 4, none⟩ = some (.int .i64 a1_4) := (blk_cell HBP1.out 4).trans rfl
         have hcz19_5 : w.cell? ⟨g1, 5, none⟩ = some (.slice A1_5 l1_5.length c1_5) := (blk_cell HBP1.out 5).trans rfl
         have hcz19_6 : w.cell? ⟨g1, 6, none⟩ = some (.int .i64 a1_6) := (blk_cell HBP1.out 6).trans rfl
         go_wp2_with (first | (go_at_call 58; (with_reducible refine (spec_l00In.calls (rd l2 x7_2) a1_3 a1_4 true _ A17.out).mono ?_); rintro e w' ⟨rfl, ⟨nd, rfl⟩⟩; (try first | exact ⟨rfl, _, dN1⟩ | exact ⟨rfl, _, dN2⟩)))
         repeat (go_quiet (first | (go_at_call 58; (with_reducible refine (spec_l00In.calls (rd l2 x7_2) a1_3 a1_4 true _ A17.out).mono ?_); rintro e w' ⟨rfl, ⟨nd, rfl⟩⟩; (try first | exact ⟨rfl, _, dN1⟩ | exact ⟨rfl, _, dN2⟩))); try go_wp2_with (first | (go_at_call 58; (with_reducible refine (spec_l00In.calls (rd l2 x7_2) a1_3 a1_4 true _ A17.out).mono ?_); rintro e w' ⟨rfl, ⟨nd, rfl⟩⟩; (try first | exact ⟨rfl, _, dN1⟩ | exact ⟨rfl, _, dN2⟩))))
         go_roundg k2
         case measure => have := HJ3.out; have := HK2.out; omega
         case rel => exact ⟨(wrap64 (x7_2 + 1)), sv_, H', ⟨by have := HJ3.out; have := HK2.out; omega⟩, ⟨by (with_reducible repeat (first | refine blk_drewN ?_ _ | refine blk_drew ?_ | refine blk_alloc ?_ _)); exact HBP0.out⟩, ⟨by (with_reducible repeat (first | refine blk_drewN ?_ _ | refine blk_drew ?_ | refine blk_alloc ?_ _)); exact HBP1.out⟩, dr_⟩
        ·replace c18 := Bool.eq_false_iff.mpr c18
         subst c18
         have H1 : (some false) = some r := by rw [if_neg (show ¬ (false = true) by decide)] at H; exact H
         clear H
         have H := H1
         clear H1
         obtain rfl := Option.some.inj H
         have p551 : 0 ≤ (x7_2 : Int) := da_
         have q551 : x7_2 < (l2.length : Int) := da_
         obtain ⟨ad551, e551, hx551_0⟩ := Kd.at_int HR2.out x7_2 p551 q551
         cases e551
         replace p551 := eq_true p551
         replace q551 := eq_true q551
         have hcz20_0 : w.cell? ⟨g1, 0, none⟩ = some (.int .i64 a1_0) := (blk_cell HBP1.out 0).trans rfl
         have hcz20_1 : w.cell? ⟨g1, 1, none⟩ = some (.int .i64 a1_1) := (blk_cell HBP1.out 1).trans rfl
         have hcz20_2 : w.cell? ⟨g1, 2, none⟩ = some (.int .i64 a1_2) := (blk_cell HBP1.out 2).trans rfl
         have hcz20_3 : w.cell? ⟨g1, 3, none⟩ = some (.int .i64 a1_3) := (blk_cell HBP1.out 3).trans rfl
         have hcz20_4 : w.cell? ⟨g1, 4, none⟩ = some (.int .i64 a1_4) := (blk_cell HBP1.out 4).trans rfl
         have hcz20_5 : w.cell? ⟨g1, 5, none⟩ = some (.slice A1_5 l1_5.length c1_5) := (blk_cell HBP1.out 5).trans rfl
         have hcz20_6 : w.cell? ⟨g1, 6, none⟩ = some (.int .i64 a1_6) := (blk_cell HBP1.out 6).trans rfl
         go_wp2_with (first | (go_at_call 58; (with_reducible refine (spec_l00In.calls (rd l2 x7_2) a1_3 a1_4 false _ A17.out).mono ?_); rintro e w' ⟨rfl, ⟨nd, rfl⟩⟩; (try first | exact ⟨rfl, _, dN1⟩ | exact ⟨rfl, _, dN2⟩)))
         repeat (go_quiet (first | (go_at_call 58; (with_reducible refine (spec_l00In.calls (rd l2 x7_2) a1_3 a1_4 false _ A17.out).mono ?_); rintro e w' ⟨rfl, ⟨nd, rfl⟩⟩; (try first | exact ⟨rfl, _, dN1⟩ | exact ⟨rfl, _, dN2⟩))); try go_wp2_with (first | (go_at_call 58; (with_reducible refine (spec_l00In.calls (rd l2 x7_2) a1_3 a1_4 false _ A17.out).mono ?_); rintro e w' ⟨rfl, ⟨nd, rfl⟩⟩; (try first | exact ⟨rfl, _, dN1⟩ | exact ⟨rfl, _, dN2⟩))))
         go_ret
         exact ⟨sv_, dr_⟩
       ·rw [if_neg c16] at H
        exact absurd H (by simp)
      ·rw [if_neg c15] at H
       have c15b0 : decide (x7_2 < (l2.length : Int)) = false := decide_eq_false c15
       clear c15
       replace H := Option.bind_eq_some_iff.mp H
       obtain ⟨⟨t553, t554⟩, A210, H⟩ := H
       replace H : (if t553 < 0 then ((spec_l15Repeats.f k2 l2).bind fun t555 => (if t555 ≤ a1_6 then ((spec_l15Parts.f k2 a1_0 a1_1 a1_2 a1_3 a1_4 l1_5 a1_6 l2).bind fun t556 => (some t556)) else (some false))) else (some false)) = some r := H
       have A21 := Aside0.mk A210
       clear A210
       by_cases c22 : t553 < 0
       ·rw [if_pos c22] at H
        have c22b0 : decide (t553 < 0) = true := decide_eq_true c22
        clear c22
        replace H := Option.bind_eq_some_iff.mp H
        obtain ⟨t555, A230, H⟩ := H
        replace H : (if t555 ≤ a1_6 then ((spec_l15Parts.f k2 a1_0 a1_1 a1_2 a1_3 a1_4 l1_5 a1_6 l2).bind fun t556 => (some t556)) else (some false)) = some r := H
        have A23 := Aside0.mk A230
        clear A230
        by_cases c24 : t555 ≤ a1_6
        ·rw [if_pos c24] at H
         have c24b0 : decide (t555 ≤ a1_6) = true := decide_eq_true c24
         clear c24
         replace H := Option.bind_eq_some_iff.mp H
         obtain ⟨t556, A250, H⟩ := H
         replace H : (some t556) = some r := H
         have A25 := Aside0.mk A250
         clear A250
         obtain rfl := Option.some.inj H
         go_wp2_with (first | (go_at_call 128; (with_reducible refine (spec_l05Wrong.calls k2 g0 a0_0 A0_1 c0_1 l0_1 A0_2 c0_2 l0_2 a0_3 a0_4 A0_5 c0_5 l0_5 _ _ l2 t553 t554 _ ?side1 ?side2 ?side3 ?side4 ?side5 ?side6 ?side7 ?side8 ?side9 A21.out).mono ?_); (case side1 => exact bk_ HBP0.out); (case side2 => exact cr_ HR0_1.out); (case side3 => exact HC0_1.out); (case side4 => exact cr_ HR0_2.out); (case side5 => exact HC0_2.out); (case side6 => exact cr_ HR0_5.out); (case side7 => exact HC0_5.out); (case side8 => exact cr_ HR2.out); (case side9 => exact HC2.out); rintro e w' ⟨rfl, ⟨nd, rfl⟩⟩; (try first | exact ⟨rfl, _, dN1⟩ | exact ⟨rfl, _, dN2⟩)) | (go_at_call 129; (with_reducible refine (spec_l15Repeats.calls k2 _ _ l2 t555 _ ?side1 ?side2 A23.out).mono ?_); (case side1 => exact cr_ HR2.out); (case side2 => exact HC2.out); rintro e w' ⟨rfl, ⟨nd, rfl⟩⟩; (try first | exact ⟨rfl, _, dN1⟩ | exact ⟨rfl, _, dN2⟩); have hcz26_0 : w.cell? ⟨g1, 0, none⟩ = some (.int .i64 a1_0) := (blk_cell HBP1.out 0).trans rfl; have hcz26_1 : w.cell? ⟨g1, 1, none⟩ = some (.int .i64 a1_1) := (blk_cell HBP1.out 1).trans rfl; have hcz26_2 : w.cell? ⟨g1, 2, none⟩ = some (.int .i64 a1_2) := (blk_cell HBP1.out 2).trans rfl; have hcz26_3 : w.cell? ⟨g1, 3, none⟩ = some (.int .i64 a1_3) := (blk_cell HBP1.out 3).trans rfl; have hcz26_4 : w.cell? ⟨g1, 4, none⟩ = some (.int .i64 a1_4) := (blk_cell HBP1.out 4).trans rfl; have hcz26_5 : w.cell? ⟨g1, 5, none⟩ = some (.slice A1_5 l1_5.length c1_5) := (blk_cell HBP1.out 5).trans rfl; have hcz26_6 : w.cell? ⟨g1, 6, none⟩ = some (.int .i64 a1_6) := (blk_cell HBP1.out 6).trans rfl) | (go_at_call 130; (with_reducible refine (spec_l15Parts.calls k2 g1 a1_0 a1_1 a1_2 a1_3 a1_4 A1_5 c1_5 l1_5 a1_6 _ _ l2 t556 _ ?side1 ?side2 ?side3 ?side4 ?side5 A25.out).mono ?_); (case side1 => exact bk_ HBP1.out); (case side2 => exact cr_ HR1_5.out); (case side3 => exact HC1_5.out); (case side4 => exact cr_ HR2.out); (case side5 => exact HC2.out); rintro e w' ⟨rfl, ⟨nd, rfl⟩⟩; (try first | exact ⟨rfl, _, dN1⟩ | exact ⟨rfl, _, dN2⟩)))
         repeat (go_quiet (first | (go_at_call 128; (with_reducible refine (spec_l05Wrong.calls k2 g0 a0_0 A0_1 c0_1 l0_1 A0_2 c0_2 l0_2 a0_3 a0_4 A0_5 c0_5 l0_5 _ _ l2 t553 t554 _ ?side1 ?side2 ?side3 ?side4 ?side5 ?side6 ?side7 ?side8 ?side9 A21.out).mono ?_); (case side1 => exact bk_ HBP0.out); (case side2 => exact cr_ HR0_1.out); (case side3 => exact HC0_1.out); (case side4 => exact cr_ HR0_2.out); (case side5 => exact HC0_2.out); (case side6 => exact cr_ HR0_5.out); (case side7 => exact HC0_5.out); (case side8 => exact cr_ HR2.out); (case side9 => exact HC2.out); rintro e w' ⟨rfl, ⟨nd, rfl⟩⟩; (try first | exact ⟨rfl, _, dN1⟩ | exact ⟨rfl, _, dN2⟩)) | (go_at_call 129; (with_reducible refine (spec_l15Repeats.calls k2 _ _ l2 t555 _ ?side1 ?side2 A23.out).mono ?_); (case side1 => exact cr_ HR2.out); (case side2 => exact HC2.out); rintro e w' ⟨rfl, ⟨nd, rfl⟩⟩; (try first | exact ⟨rfl, _, dN1⟩ | exact ⟨rfl, _, dN2⟩); have hcz26_0 : w.cell? ⟨g1, 0, none⟩ = some (.int .i64 a1_0) := (blk_cell HBP1.out 0).trans rfl; have hcz26_1 : w.cell? ⟨g1, 1, none⟩ = some (.int .i64 a1_1) := (blk_cell HBP1.out 1).trans rfl; have hcz26_2 : w.cell? ⟨g1, 2, none⟩ = some (.int .i64 a1_2) := (blk_cell HBP1.out 2).trans rfl; have hcz26_3 : w.cell? ⟨g1, 3, none⟩ = some (.int .i64 a1_3) := (blk_cell HBP1.out 3).trans rfl; have hcz26_4 : w.cell? ⟨g1, 4, none⟩ = some (.int .i64 a1_4) := (blk_cell HBP1.out 4).trans rfl; have hcz26_5 : w.cell? ⟨g1, 5, none⟩ = some (.slice A1_5 l1_5.length c1_5) := (blk_cell HBP1.out 5).trans rfl; have hcz26_6 : w.cell? ⟨g1, 6, none⟩ = some (.int .i64 a1_6) := (blk_cell HBP1.out 6).trans rfl) | (go_at_call 130; (with_reducible refine (spec_l15Parts.calls k2 g1 a1_0 a1_1 a1_2 a1_3 a1_4 A1_5 c1_5 l1_5 a1_6 _ _ l2 t556 _ ?side1 ?side2 ?side3 ?side4 ?side5 A25.out).mono ?_); (case side1 => exact bk_ HBP1.out); (case side2 => exact cr_ HR1_5.out); (case side3 => exact HC1_5.out); (case side4 => exact cr_ HR2.out); (case side5 => exact HC2.out); rintro e w' ⟨rfl, ⟨nd, rfl⟩⟩; (try first | exact ⟨rfl, _, dN1⟩ | exact ⟨rfl, _, dN2⟩))); try go_wp2_with (first | (go_at_call 128; (with_reducible refine (spec_l05Wrong.calls k2 g0 a0_0 A0_1 c0_1 l0_1 A0_2 c0_2 l0_2 a0_3 a0_4 A0_5 c0_5 l0_5 _ _ l2 t553 t554 _ ?side1 ?side2 ?side3 ?side4 ?side5 ?side6 ?side7 ?side8 ?side9 A21.out).mono ?_); (case side1 => exact bk_ HBP0.out); (case side2 => exact cr_ HR0_1.out); (case side3 => exact HC0_1.out); (case side4 => exact cr_ HR0_2.out); (case side5 => exact HC0_2.out); (case side6 => exact cr_ HR0_5.out); (case side7 => exact HC0_5.out); (case side8 => exact cr_ HR2.out); (case side9 => exact HC2.out); rintro e w' ⟨rfl, ⟨nd, rfl⟩⟩; (try first | exact ⟨rfl, _, dN1⟩ | exact ⟨rfl, _, dN2⟩)) | (go_at_call 129; (with_reducible refine (spec_l15Repeats.calls k2 _ _ l2 t555 _ ?side1 ?side2 A23.out).mono ?_); (case side1 => exact cr_ HR2.out); (case side2 => exact HC2.out); rintro e w' ⟨rfl, ⟨nd, rfl⟩⟩; (try first | exact ⟨rfl, _, dN1⟩ | exact ⟨rfl, _, dN2⟩); have hcz26_0 : w.cell? ⟨g1, 0, none⟩ = some (.int .i64 a1_0) := (blk_cell HBP1.out 0).trans rfl; have hcz26_1 : w.cell? ⟨g1, 1, none⟩ = some (.int .i64 a1_1) := (blk_cell HBP1.out 1).trans rfl; have hcz26_2 : w.cell? ⟨g1, 2, none⟩ = some (.int .i64 a1_2) := (blk_cell HBP1.out 2).trans rfl; have hcz26_3 : w.cell? ⟨g1, 3, none⟩ = some (.int .i64 a1_3) := (blk_cell HBP1.out 3).trans rfl; have hcz26_4 : w.cell? ⟨g1, 4, none⟩ = some (.int .i64 a1_4) := (blk_cell HBP1.out 4).trans rfl; have hcz26_5 : w.cell? ⟨g1, 5, none⟩ = some (.slice A1_5 l1_5.length c1_5) := (blk_cell HBP1.out 5).trans rfl; have hcz26_6 : w.cell? ⟨g1, 6, none⟩ = some (.int .i64 a1_6) := (blk_cell HBP1.out 6).trans rfl) | (go_at_call 130; (with_reducible refine (spec_l15Parts.calls k2 g1 a1_0 a1_1 a1_2 a1_3 a1_4 A1_5 c1_5 l1_5 a1_6 _ _ l2 t556 _ ?side1 ?side2 ?side3 ?side4 ?side5 A25.out).mono ?_); (case side1 => exact bk_ HBP1.out); (case side2 => exact cr_ HR1_5.out); (case side3 => exact HC1_5.out); (case side4 => exact cr_ HR2.out); (case side5 => exact HC2.out); rintro e w' ⟨rfl, ⟨nd, rfl⟩⟩; (try first | exact ⟨rfl, _, dN1⟩ | exact ⟨rfl, _, dN2⟩))))
         go_ret
         exact ⟨sv_, dr_⟩
        ·rw [if_neg c24] at H
         have c24b0 : decide (t555 ≤ a1_6) = false := decide_eq_false c24
         clear c24
         obtain rfl := Option.some.inj H
         go_wp2_with (first | (go_at_call 128; (with_reducible refine (spec_l05Wrong.calls k2 g0 a0_0 A0_1 c0_1 l0_1 A0_2 c0_2 l0_2 a0_3 a0_4 A0_5 c0_5 l0_5 _ _ l2 t553 t554 _ ?side1 ?side2 ?side3 ?side4 ?side5 ?side6 ?side7 ?side8 ?side9 A21.out).mono ?_); (case side1 => exact bk_ HBP0.out); (case side2 => exact cr_ HR0_1.out); (case side3 => exact HC0_1.out); (case side4 => exact cr_ HR0_2.out); (case side5 => exact HC0_2.out); (case side6 => exact cr_ HR0_5.out); (case side7 => exact HC0_5.out); (case side8 => exact cr_ HR2.out); (case side9 => exact HC2.out); rintro e w' ⟨rfl, ⟨nd, rfl⟩⟩; (try first | exact ⟨rfl, _, dN1⟩ | exact ⟨rfl, _, dN2⟩)) | (go_at_call 129; (with_reducible refine (spec_l15Repeats.calls k2 _ _ l2 t555 _ ?side1 ?side2 A23.out).mono ?_); (case side1 => exact cr_ HR2.out); (case side2 => exact HC2.out); rintro e w' ⟨rfl, ⟨nd, rfl⟩⟩; (try first | exact ⟨rfl, _, dN1⟩ | exact ⟨rfl, _, dN2⟩); have hcz27_0 : w.cell? ⟨g1, 0, none⟩ = some (.int .i64 a1_0) := (blk_cell HBP1.out 0).trans rfl; have hcz27_1 : w.cell? ⟨g1, 1, none⟩ = some (.int .i64 a1_1) := (blk_cell HBP1.out 1).trans rfl; have hcz27_2 : w.cell? ⟨g1, 2, none⟩ = some (.int .i64 a1_2) := (blk_cell HBP1.out 2).trans rfl; have hcz27_3 : w.cell? ⟨g1, 3, none⟩ = some (.int .i64 a1_3) := (blk_cell HBP1.out 3).trans rfl; have hcz27_4 : w.cell? ⟨g1, 4, none⟩ = some (.int .i64 a1_4) := (blk_cell HBP1.out 4).trans rfl; have hcz27_5 : w.cell? ⟨g1, 5, none⟩ = some (.slice A1_5 l1_5.length c1_5) := (blk_cell HBP1.out 5).trans rfl; have hcz27_6 : w.cell? ⟨g1, 6, none⟩ = some (.int .i64 a1_6) := (blk_cell HBP1.out 6).trans rfl))
         repeat (go_quiet (first | (go_at_call 128; (with_reducible refine (spec_l05Wrong.calls k2 g0 a0_0 A0_1 c0_1 l0_1 A0_2 c0_2 l0_2 a0_3 a0_4 A0_5 c0_5 l0_5 _ _ l2 t553 t554 _ ?side1 ?side2 ?side3 ?side4 ?side5 ?side6 ?side7 ?side8 ?side9 A21.out).mono ?_); (case side1 => exact bk_ HBP0.out); (case side2 => exact cr_ HR0_1.out); (case side3 => exact HC0_1.out); (case side4 => exact cr_ HR0_2.out); (case side5 => exact HC0_2.out); (case side6 => exact cr_ HR0_5.out); (case side7 => exact HC0_5.out); (case side8 => exact cr_ HR2.out); (case side9 => exact HC2.out); rintro e w' ⟨rfl, ⟨nd, rfl⟩⟩; (try first | exact ⟨rfl, _, dN1⟩ | exact ⟨rfl, _, dN2⟩)) | (go_at_call 129; (with_reducible refine (spec_l15Repeats.calls k2 _ _ l2 t555 _ ?side1 ?side2 A23.out).mono ?_); (case side1 => exact cr_ HR2.out); (case side2 => exact HC2.out); rintro e w' ⟨rfl, ⟨nd, rfl⟩⟩; (try first | exact ⟨rfl, _, dN1⟩ | exact ⟨rfl, _, dN2⟩); have hcz27_0 : w.cell? ⟨g1, 0, none⟩ = some (.int .i64 a1_0) := (blk_cell HBP1.out 0).trans rfl; have hcz27_1 : w.cell? ⟨g1, 1, none⟩ = some (.int .i64 a1_1) := (blk_cell HBP1.out 1).trans rfl; have hcz27_2 : w.cell? ⟨g1, 2, none⟩ = some (.int .i64 a1_2) := (blk_cell HBP1.out 2).trans rfl; have hcz27_3 : w.cell? ⟨g1, 3, none⟩ = some (.int .i64 a1_3) := (blk_cell HBP1.out 3).trans rfl; have hcz27_4 : w.cell? ⟨g1, 4, none⟩ = some (.int .i64 a1_4) := (blk_cell HBP1.out 4).trans rfl; have hcz27_5 : w.cell? ⟨g1, 5, none⟩ = some (.slice A1_5 l1_5.length c1_5) := (blk_cell HBP1.out 5).trans rfl; have hcz27_6 : w.cell? ⟨g1, 6, none⟩ = some (.int .i64 a1_6) := (blk_cell HBP1.out 6).trans rfl)); try go_wp2_with (first | (go_at_call 128; (with_reducible refine (spec_l05Wrong.calls k2 g0 a0_0 A0_1 c0_1 l0_1 A0_2 c0_2 l0_2 a0_3 a0_4 A0_5 c0_5 l0_5 _ _ l2 t553 t554 _ ?side1 ?side2 ?side3 ?side4 ?side5 ?side6 ?side7 ?side8 ?side9 A21.out).mono ?_); (case side1 => exact bk_ HBP0.out); (case side2 => exact cr_ HR0_1.out); (case side3 => exact HC0_1.out); (case side4 => exact cr_ HR0_2.out); (case side5 => exact HC0_2.out); (case side6 => exact cr_ HR0_5.out); (case side7 => exact HC0_5.out); (case side8 => exact cr_ HR2.out); (case side9 => exact HC2.out); rintro e w' ⟨rfl, ⟨nd, rfl⟩⟩; (try first | exact ⟨rfl, _, dN1⟩ | exact ⟨rfl, _, dN2⟩)) | (go_at_call 129; (with_reducible refine (spec_l15Repeats.calls k2 _ _ l2 t555 _ ?side1 ?side2 A23.out).mono ?_); (case side1 => exact cr_ HR2.out); (case side2 => exact HC2.out); rintro e w' ⟨rfl, ⟨nd, rfl⟩⟩; (try first | exact ⟨rfl, _, dN1⟩ | exact ⟨rfl, _, dN2⟩); have hcz27_0 : w.cell? ⟨g1, 0, none⟩ = some (.int .i64 a1_0) := (blk_cell HBP1.out 0).trans rfl; have hcz27_1 : w.cell? ⟨g1, 1, none⟩ = some (.int .i64 a1_1) := (blk_cell HBP1.out 1).trans rfl; have hcz27_2 : w.cell? ⟨g1, 2, none⟩ = some (.int .i64 a1_2) := (blk_cell HBP1.out 2).trans rfl; have hcz27_3 : w.cell? ⟨g1, 3, none⟩ = some (.int .i64 a1_3) := (blk_cell HBP1.out 3).trans rfl; have hcz27_4 : w.cell? ⟨g1, 4, none⟩ = some (.int .i64 a1_4) := (blk_cell HBP1.out 4).trans rfl; have hcz27_5 : w.cell? ⟨g1, 5, none⟩ = some (.slice A1_5 l1_5.length c1_5) := (blk_cell HBP1.out 5).trans rfl; have hcz27_6 : w.cell? ⟨g1, 6, none⟩ = some (.int .i64 a1_6) := (blk_cell HBP1.out 6).trans rfl)))
         go_ret
         exact ⟨sv_, dr_⟩
       ·rw [if_neg c22] at H
        have c22b0 : decide (t553 < 0) = false := decide_eq_false c22
        clear c22
        obtain rfl := Option.some.inj H
        go_wp2_with (first | (go_at_call 128; (with_reducible refine (spec_l05Wrong.calls k2 g0 a0_0 A0_1 c0_1 l0_1 A0_2 c0_2 l0_2 a0_3 a0_4 A0_5 c0_5 l0_5 _ _ l2 t553 t554 _ ?side1 ?side2 ?side3 ?side4 ?side5 ?side6 ?side7 ?side8 ?side9 A21.out).mono ?_); (case side1 => exact bk_ HBP0.out); (case side2 => exact cr_ HR0_1.out); (case side3 => exact HC0_1.out); (case side4 => exact cr_ HR0_2.out); (case side5 => exact HC0_2.out); (case side6 => exact cr_ HR0_5.out); (case side7 => exact HC0_5.out); (case side8 => exact cr_ HR2.out); (case side9 => exact HC2.out); rintro e w' ⟨rfl, ⟨nd, rfl⟩⟩; (try first | exact ⟨rfl, _, dN1⟩ | exact ⟨rfl, _, dN2⟩)))
        repeat (go_quiet (first | (go_at_call 128; (with_reducible refine (spec_l05Wrong.calls k2 g0 a0_0 A0_1 c0_1 l0_1 A0_2 c0_2 l0_2 a0_3 a0_4 A0_5 c0_5 l0_5 _ _ l2 t553 t554 _ ?side1 ?side2 ?side3 ?side4 ?side5 ?side6 ?side7 ?side8 ?side9 A21.out).mono ?_); (case side1 => exact bk_ HBP0.out); (case side2 => exact cr_ HR0_1.out); (case side3 => exact HC0_1.out); (case side4 => exact cr_ HR0_2.out); (case side5 => exact HC0_2.out); (case side6 => exact cr_ HR0_5.out); (case side7 => exact HC0_5.out); (case side8 => exact cr_ HR2.out); (case side9 => exact HC2.out); rintro e w' ⟨rfl, ⟨nd, rfl⟩⟩; (try first | exact ⟨rfl, _, dN1⟩ | exact ⟨rfl, _, dN2⟩))); try go_wp2_with (first | (go_at_call 128; (with_reducible refine (spec_l05Wrong.calls k2 g0 a0_0 A0_1 c0_1 l0_1 A0_2 c0_2 l0_2 a0_3 a0_4 A0_5 c0_5 l0_5 _ _ l2 t553 t554 _ ?side1 ?side2 ?side3 ?side4 ?side5 ?side6 ?side7 ?side8 ?side9 A21.out).mono ?_); (case side1 => exact bk_ HBP0.out); (case side2 => exact cr_ HR0_1.out); (case side3 => exact HC0_1.out); (case side4 => exact cr_ HR0_2.out); (case side5 => exact HC0_2.out); (case side6 => exact cr_ HR0_5.out); (case side7 => exact HC0_5.out); (case side8 => exact cr_ HR2.out); (case side9 => exact HC2.out); rintro e w' ⟨rfl, ⟨nd, rfl⟩⟩; (try first | exact ⟨rfl, _, dN1⟩ | exact ⟨rfl, _, dN2⟩))))
        go_ret
        exact ⟨sv_, dr_⟩
end Go.Proofs.Ytinlejhffokbaaa.P
end
