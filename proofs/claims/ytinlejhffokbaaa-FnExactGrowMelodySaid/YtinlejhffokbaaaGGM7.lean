/- Texts of this seat, merged: QSpecL05Reason, QSpecL05Next, QSpecL13In, QSpecL13Next, QSpecL13Pick, QSpecL13Grow, QSpecGrowmelody, Open, LEv, LEvAnd, LAbs, QLawsHeldint64S, LCopy. -/
import Derived.Deep.Slices
import Derived.WideShapes
import Derived.ChangeShapes
import Derived.ChangeMaps5
import Derived.ChangeSame
import Derived.Test.YtinlejhffokbaaaGGM1
import Derived.Test.YtinlejhffokbaaaGGM4
import Derived.Test.YtinlejhffokbaaaGGM5
import Derived.Test.YtinlejhffokbaaaGGM6
section
namespace Go.Proofs.Ytinlejhffokbaaa.P
open Go.RowKit Go.Proofs.YtinlejhffokbaaaW.PrintWords Go.Proofs.YtinlejhffokbaaaW.PrintLast Go.Proofs.YtinlejhffokbaaaW.PrintMore
attribute [local go_sem] max2_int min2_int max_two min_two max_three min_three max_four min_four   -- for this text's walks alone
set_option linter.unusedVariables false
set_option linter.unusedSimpArgs false
/-! ### spec_l05Reason: function 105 -/
mutual
def spec_l05Reason.j0 : Nat → Int → Int → Int → Int → Bool → ByteArray → List Int → List Int → Int → Int → List (List Int) → Option (Int)
 | 0, _, _, _, _, _, _, _, _, _, _, _ => none
 | k + 1, x1, x2, x7, x8, x23, x166000, x166001, x166002, x166003, x166004, x166005 => if x23 = true then (some 1) else ((spec_l00Max.f (wrap64 (x1 - x2)) (wrap64 (x2 - x1))).bind fun t170 => (if t170 > 12 then (some 2) else (if x2 > x1 then ((spec_l00Has.f k x166001 x8).bind fun t171 => (spec_l05Reason.j1 k x1 x2 x7 x8 (!t171) x166000 x166001 x166002 x166003 x166004 x166005)) else (spec_l05Reason.j1 k x1 x2 x7 x8 false x166000 x166001 x166002 x166003 x166004 x166005))))
def spec_l05Reason.j1 : Nat → Int → Int → Int → Int → Bool → ByteArray → List Int → List Int → Int → Int → List (List Int) → Option (Int)
 | 0, _, _, _, _, _, _, _, _, _, _, _ => none
 | k + 1, x1, x2, x7, x8, x43, x166000, x166001, x166002, x166003, x166004, x166005 => if x43 = true then (some 3) else (if x2 < x1 then ((spec_l00Has.f k x166002 x8).bind fun t172 => (spec_l05Reason.j2 k x7 x8 (!t172) x166000 x166001 x166002 x166003 x166004 x166005)) else (spec_l05Reason.j2 k x7 x8 false x166000 x166001 x166002 x166003 x166004 x166005))
def spec_l05Reason.j2 : Nat → Int → Int → Bool → ByteArray → List Int → List Int → Int → Int → List (List Int) → Option (Int)
 | 0, _, _, _, _, _, _, _, _, _ => none
 | k + 1, x7, x8, x55, x166000, x166001, x166002, x166003, x166004, x166005 => if x55 = true then (some 4) else (spec_l05Reason.l0 k x7 x8 0 x166000 x166001 x166002 x166003 x166004 x166005)
def spec_l05Reason.l0 : Nat → Int → Int → Int → ByteArray → List Int → List Int → Int → Int → List (List Int) → Option (Int)
 | 0, _, _, _, _, _, _, _, _, _ => none
 | k + 1, x7, x8, x9, x166000, x166001, x166002, x166003, x166004, x166005 => if x9 < (x166005.length : Int) then (if 0 ≤ x9 then (if 0 < ((rd_L1 x166005 x9).length : Int) then (if (rd (rd_L1 x166005 x9) 0) = x7 then (if 1 < ((rd_L1 x166005 x9).length : Int) then (if (rd (rd_L1 x166005 x9) 1) = x8 then (some 5) else (spec_l05Reason.l0 k x7 x8 (wrap64 (x9 + 1)) x166000 x166001 x166002 x166003 x166004 x166005)) else (none)) else (spec_l05Reason.l0 k x7 x8 (wrap64 (x9 + 1)) x166000 x166001 x166002 x166003 x166004 x166005)) else (none)) else (none)) else (some 0)
end
def spec_l05Reason.f (k : Nat) (a0_0 : ByteArray) (l0_1 : List Int) (l0_2 : List Int) (a0_3 : Int) (a0_4 : Int) (l0_5 : List (List Int)) (a1 : Int) (a2 : Int) : Option (Int) := (spec_l03Tone.f a1).bind fun t166 => ((spec_l03Tone.f a2).bind fun t167 => ((spec_l05Tone.f k a0_0 l0_1 l0_2 a0_3 a0_4 l0_5 t166).bind fun t168 => (if t168 = true then ((spec_l05Tone.f k a0_0 l0_1 l0_2 a0_3 a0_4 l0_5 t167).bind fun t169 => (spec_l05Reason.j0 k a1 a2 t166 t167 (!t169) a0_0 l0_1 l0_2 a0_3 a0_4 l0_5)) else (spec_l05Reason.j0 k a1 a2 t166 t167 true a0_0 l0_1 l0_2 a0_3 a0_4 l0_5))))
theorem spec_l05Reason.mono_l : ∀ k, (∀ y0 y1 y2 y3 y4 y5 y6 y7 y8 y9 y10, LeO (spec_l05Reason.j0 k y0 y1 y2 y3 y4 y5 y6 y7 y8 y9 y10) (spec_l05Reason.j0 (k + 1) y0 y1 y2 y3 y4 y5 y6 y7 y8 y9 y10)) ∧ (∀ y0 y1 y2 y3 y4 y5 y6 y7 y8 y9 y10, LeO (spec_l05Reason.j1 k y0 y1 y2 y3 y4 y5 y6 y7 y8 y9 y10) (spec_l05Reason.j1 (k + 1) y0 y1 y2 y3 y4 y5 y6 y7 y8 y9 y10)) ∧ (∀ y0 y1 y2 y3 y4 y5 y6 y7 y8, LeO (spec_l05Reason.j2 k y0 y1 y2 y3 y4 y5 y6 y7 y8) (spec_l05Reason.j2 (k + 1) y0 y1 y2 y3 y4 y5 y6 y7 y8)) ∧ (∀ y0 y1 y2 y3 y4 y5 y6 y7 y8, LeO (spec_l05Reason.l0 k y0 y1 y2 y3 y4 y5 y6 y7 y8) (spec_l05Reason.l0 (k + 1) y0 y1 y2 y3 y4 y5 y6 y7 y8))
 | 0 => ⟨fun _ _ _ _ _ _ _ _ _ _ _ r h => by simp [spec_l05Reason.j0] at h, fun _ _ _ _ _ _ _ _ _ _ _ r h => by simp [spec_l05Reason.j1] at h, fun _ _ _ _ _ _ _ _ _ r h => by simp [spec_l05Reason.j2] at h, fun _ _ _ _ _ _ _ _ _ r h => by simp [spec_l05Reason.l0] at h⟩
 | k + 1 => by
  obtain ⟨ih0, ih1, ih2, ih3⟩ := spec_l05Reason.mono_l k
  refine ⟨?_, ?_, ?_, ?_⟩
  ·intro y0 y1 y2 y3 y4 y5 y6 y7 y8 y9 y10
   unfold spec_l05Reason.j0
   repeat' first
   | (with_reducible exact ih0 _ _ _ _ _ _ _ _ _ _ _)
   | (with_reducible exact ih1 _ _ _ _ _ _ _ _ _ _ _)
   | (with_reducible exact ih2 _ _ _ _ _ _ _ _ _)
   | (with_reducible exact ih3 _ _ _ _ _ _ _ _ _)
   | (with_reducible exact spec_l00Has.mono _ _ _)
   | (with_reducible exact spec_l05Tone.mono _ _ _ _ _ _ _ _)
   | (with_reducible exact LeO.refl _)
   | (with_reducible exact LeO.none _)
   | (with_reducible refine LeO.ite ?_ ?_)
   | (with_reducible refine LeO.bind ?_ (fun _ => ?_))
   | exact ih0 _ _ _ _ _ _ _ _ _ _ _
   | exact ih1 _ _ _ _ _ _ _ _ _ _ _
   | exact ih2 _ _ _ _ _ _ _ _ _
   | exact ih3 _ _ _ _ _ _ _ _ _
   | exact spec_l00Has.mono _ _ _
   | exact spec_l05Tone.mono _ _ _ _ _ _ _ _
   | exact LeO.none _
   | refine LeO.ite ?_ ?_
   | refine LeO.bind ?_ (fun _ => ?_)
  ·intro y0 y1 y2 y3 y4 y5 y6 y7 y8 y9 y10
   unfold spec_l05Reason.j1
   repeat' first
   | (with_reducible exact ih0 _ _ _ _ _ _ _ _ _ _ _)
   | (with_reducible exact ih1 _ _ _ _ _ _ _ _ _ _ _)
   | (with_reducible exact ih2 _ _ _ _ _ _ _ _ _)
   | (with_reducible exact ih3 _ _ _ _ _ _ _ _ _)
   | (with_reducible exact spec_l00Has.mono _ _ _)
   | (with_reducible exact spec_l05Tone.mono _ _ _ _ _ _ _ _)
   | (with_reducible exact LeO.refl _)
   | (with_reducible exact LeO.none _)
   | (with_reducible refine LeO.ite ?_ ?_)
   | (with_reducible refine LeO.bind ?_ (fun _ => ?_))
   | exact ih0 _ _ _ _ _ _ _ _ _ _ _
   | exact ih1 _ _ _ _ _ _ _ _ _ _ _
   | exact ih2 _ _ _ _ _ _ _ _ _
   | exact ih3 _ _ _ _ _ _ _ _ _
   | exact spec_l00Has.mono _ _ _
   | exact spec_l05Tone.mono _ _ _ _ _ _ _ _
   | exact LeO.none _
   | refine LeO.ite ?_ ?_
   | refine LeO.bind ?_ (fun _ => ?_)
  ·intro y0 y1 y2 y3 y4 y5 y6 y7 y8
   unfold spec_l05Reason.j2
   repeat' first
   | (with_reducible exact ih0 _ _ _ _ _ _ _ _ _ _ _)
   | (with_reducible exact ih1 _ _ _ _ _ _ _ _ _ _ _)
   | (with_reducible exact ih2 _ _ _ _ _ _ _ _ _)
   | (with_reducible exact ih3 _ _ _ _ _ _ _ _ _)
   | (with_reducible exact spec_l00Has.mono _ _ _)
   | (with_reducible exact spec_l05Tone.mono _ _ _ _ _ _ _ _)
   | (with_reducible exact LeO.refl _)
   | (with_reducible exact LeO.none _)
   | (with_reducible refine LeO.ite ?_ ?_)
   | (with_reducible refine LeO.bind ?_ (fun _ => ?_))
   | exact ih0 _ _ _ _ _ _ _ _ _ _ _
   | exact ih1 _ _ _ _ _ _ _ _ _ _ _
   | exact ih2 _ _ _ _ _ _ _ _ _
   | exact ih3 _ _ _ _ _ _ _ _ _
   | exact spec_l00Has.mono _ _ _
   | exact spec_l05Tone.mono _ _ _ _ _ _ _ _
   | exact LeO.none _
   | refine LeO.ite ?_ ?_
   | refine LeO.bind ?_ (fun _ => ?_)
  ·intro y0 y1 y2 y3 y4 y5 y6 y7 y8
   unfold spec_l05Reason.l0
   repeat' first
   | (with_reducible exact ih0 _ _ _ _ _ _ _ _ _ _ _)
   | (with_reducible exact ih1 _ _ _ _ _ _ _ _ _ _ _)
   | (with_reducible exact ih2 _ _ _ _ _ _ _ _ _)
   | (with_reducible exact ih3 _ _ _ _ _ _ _ _ _)
   | (with_reducible exact spec_l00Has.mono _ _ _)
   | (with_reducible exact spec_l05Tone.mono _ _ _ _ _ _ _ _)
   | (with_reducible exact LeO.refl _)
   | (with_reducible exact LeO.none _)
   | (with_reducible refine LeO.ite ?_ ?_)
   | (with_reducible refine LeO.bind ?_ (fun _ => ?_))
   | exact ih0 _ _ _ _ _ _ _ _ _ _ _
   | exact ih1 _ _ _ _ _ _ _ _ _ _ _
   | exact ih2 _ _ _ _ _ _ _ _ _
   | exact ih3 _ _ _ _ _ _ _ _ _
   | exact spec_l00Has.mono _ _ _
   | exact spec_l05Tone.mono _ _ _ _ _ _ _ _
   | exact LeO.none _
   | refine LeO.ite ?_ ?_
   | refine LeO.bind ?_ (fun _ => ?_)
theorem spec_l05Reason.mono : ∀ a0 a1 a2 a3 a4 a5 a6 a7 k, LeO (spec_l05Reason.f k a0 a1 a2 a3 a4 a5 a6 a7) (spec_l05Reason.f (k + 1) a0 a1 a2 a3 a4 a5 a6 a7) := by
 intro a0 a1 a2 a3 a4 a5 a6 a7 k
 obtain ⟨ih0, ih1, ih2, ih3⟩ := spec_l05Reason.mono_l k
 unfold spec_l05Reason.f
 repeat' first
   | (with_reducible exact ih0 _ _ _ _ _ _ _ _ _ _ _)
   | (with_reducible exact ih1 _ _ _ _ _ _ _ _ _ _ _)
   | (with_reducible exact ih2 _ _ _ _ _ _ _ _ _)
   | (with_reducible exact ih3 _ _ _ _ _ _ _ _ _)
   | (with_reducible exact spec_l00Has.mono _ _ _)
   | (with_reducible exact spec_l05Tone.mono _ _ _ _ _ _ _ _)
   | (with_reducible exact LeO.refl _)
   | (with_reducible exact LeO.none _)
   | (with_reducible refine LeO.ite ?_ ?_)
   | (with_reducible refine LeO.bind ?_ (fun _ => ?_))
   | exact ih0 _ _ _ _ _ _ _ _ _ _ _
   | exact ih1 _ _ _ _ _ _ _ _ _ _ _
   | exact ih2 _ _ _ _ _ _ _ _ _
   | exact ih3 _ _ _ _ _ _ _ _ _
   | exact spec_l00Has.mono _ _ _
   | exact spec_l05Tone.mono _ _ _ _ _ _ _ _
   | exact LeO.none _
   | refine LeO.ite ?_ ?_
   | refine LeO.bind ?_ (fun _ => ?_)
set_option maxHeartbeats 8000000 in
set_option maxRecDepth 100000 in
theorem spec_l05Reason.calls (k : Nat) (g0 : Nat) (a0_0 : ByteArray) (A0_1 : Option Addr) (c0_1 : Nat) (l0_1 : List Int) (A0_2 : Option Addr) (c0_2 : Nat) (l0_2 : List Int) (a0_3 : Int) (a0_4 : Int) (A0_5 : Option Addr) (c0_5 : Nat) (l0_5 : List (List Int)) (a1 : Int) (a2 : Int) (r : Int) (w : World) (hp0 : w.heap[g0]? = some (.cells #[.string a0_0, .slice A0_1 l0_1.length c0_1, .slice A0_2 l0_2.length c0_2, .int .i64 a0_3, .int .i64 a0_4, .slice A0_5 l0_5.length c0_5] 29 (0, 0))) (hr0_1 : Kd.C (Kd.int .i64) w A0_1 l0_1.length l0_1) (hc0_1 : l0_1.length ≤ c0_1) (hr0_2 : Kd.C (Kd.int .i64) w A0_2 l0_2.length l0_2) (hc0_2 : l0_2.length ≤ c0_2) (hr0_5 : Kd.C (Kd.slice 2 (Kd.int .i64)) w A0_5 l0_5.length l0_5) (hc0_5 : l0_5.length ≤ c0_5) (h : spec_l05Reason.f k a0_0 l0_1 l0_2 a0_3 a0_4 l0_5 a1 a2 = some r) :
  Calls Try.prog 105 #[.pointer (some ⟨g0, 0, none⟩), .int .i64 a1, .int .i64 a2] w fun e w' => e = .returned (.int .i64 r) ∧ Drawn0 w w' := by
 have HR0_1 := Aside0.mk hr0_1
 have HC0_1 := Aside0.mk hc0_1
 clear hr0_1 hc0_1
 have HR0_2 := Aside0.mk hr0_2
 have HC0_2 := Aside0.mk hc0_2
 clear hr0_2 hc0_2
 have HR0_5 := Aside0.mk hr0_5
 have HC0_5 := Aside0.mk hc0_5
 clear hr0_5 hc0_5
 have HBX0 := Aside0.mk hp0
 have HBP0 := Aside0.mk hp0
 clear hp0
 have H : ((spec_l03Tone.f a1).bind fun t166 => ((spec_l03Tone.f a2).bind fun t167 => ((spec_l05Tone.f k a0_0 l0_1 l0_2 a0_3 a0_4 l0_5 t166).bind fun t168 => (if t168 = true then ((spec_l05Tone.f k a0_0 l0_1 l0_2 a0_3 a0_4 l0_5 t167).bind fun t169 => (spec_l05Reason.j0 k a1 a2 t166 t167 (!t169) a0_0 l0_1 l0_2 a0_3 a0_4 l0_5)) else (spec_l05Reason.j0 k a1 a2 t166 t167 true a0_0 l0_1 l0_2 a0_3 a0_4 l0_5))))) = some r := h
 clear h
 replace H := Option.bind_eq_some_iff.mp H
 obtain ⟨t166, A40, H⟩ := H
 replace H : ((spec_l03Tone.f a2).bind fun t167 => ((spec_l05Tone.f k a0_0 l0_1 l0_2 a0_3 a0_4 l0_5 t166).bind fun t168 => (if t168 = true then ((spec_l05Tone.f k a0_0 l0_1 l0_2 a0_3 a0_4 l0_5 t167).bind fun t169 => (spec_l05Reason.j0 k a1 a2 t166 t167 (!t169) a0_0 l0_1 l0_2 a0_3 a0_4 l0_5)) else (spec_l05Reason.j0 k a1 a2 t166 t167 true a0_0 l0_1 l0_2 a0_3 a0_4 l0_5)))) = some r := H
 have A4 := Aside0.mk A40
 clear A40
 replace H := Option.bind_eq_some_iff.mp H
 obtain ⟨t167, A50, H⟩ := H
 replace H : ((spec_l05Tone.f k a0_0 l0_1 l0_2 a0_3 a0_4 l0_5 t166).bind fun t168 => (if t168 = true then ((spec_l05Tone.f k a0_0 l0_1 l0_2 a0_3 a0_4 l0_5 t167).bind fun t169 => (spec_l05Reason.j0 k a1 a2 t166 t167 (!t169) a0_0 l0_1 l0_2 a0_3 a0_4 l0_5)) else (spec_l05Reason.j0 k a1 a2 t166 t167 true a0_0 l0_1 l0_2 a0_3 a0_4 l0_5))) = some r := H
 have A5 := Aside0.mk A50
 clear A50
 have HC6 := Aside0.mk H
 clear H
 go_enter Try.func105, Try.ntmps105
 go_upto_region 3 with (first | ((with_reducible refine gate_callee (f := 60) rfl ?_); refine goesL_ (some 11) rfl rfl Try.func60 (by kernel_rfl) rfl #[.int .i64 a1] rfl (by first | rfl | (simp only [List.map_toArray, List.map_cons, List.map_nil]; done) | (simp only [List.map_toArray, List.map_cons, List.map_nil]; rfl)) ?_; (with_reducible refine (spec_l03Tone.calls a1 t166 _ A4.out).mono ?_); rintro e w' ⟨rfl, ⟨nd, rfl⟩⟩; refine ⟨_, rfl, ?_⟩) | ((with_reducible refine gate_callee (f := 60) rfl ?_); refine goesL_ (some 13) rfl rfl Try.func60 (by kernel_rfl) rfl #[.int .i64 a2] rfl (by first | rfl | (simp only [List.map_toArray, List.map_cons, List.map_nil]; done) | (simp only [List.map_toArray, List.map_cons, List.map_nil]; rfl)) ?_; (with_reducible refine (spec_l03Tone.calls a2 t167 _ A5.out).mono ?_); rintro e w' ⟨rfl, ⟨nd, rfl⟩⟩; refine ⟨_, rfl, ?_⟩))
 (try simp only [Act.put, List.setIfInBounds_toArray, List.set_cons_zero, List.set_cons_succ])
 go_cut [23] (fun v23 wc => ∃ (kq : Nat) (x23_5 : Bool), v23 = .bool x23_5 ∧ Aside0 (spec_l05Reason.j0 kq a1 a2 t166 t167 x23_5 a0_0 l0_1 l0_2 a0_3 a0_4 l0_5 = some r) ∧ Aside0 (kq ≤ k) ∧ Aside0 (wc.heap[g0]? = some (.cells #[.string a0_0, (.slice A0_1 l0_1.length c0_1), (.slice A0_2 l0_2.length c0_2), .int .i64 a0_3, .int .i64 a0_4, (.slice A0_5 l0_5.length c0_5)] 29 (0, 0))) ∧ Drawn0 w wc)
 case first =>
  have H := HC6.out
  clear HC6
  replace H := Option.bind_eq_some_iff.mp H
  obtain ⟨t168, A70, H⟩ := H
  replace H : (if t168 = true then ((spec_l05Tone.f k a0_0 l0_1 l0_2 a0_3 a0_4 l0_5 t167).bind fun t169 => (spec_l05Reason.j0 k a1 a2 t166 t167 (!t169) a0_0 l0_1 l0_2 a0_3 a0_4 l0_5)) else (spec_l05Reason.j0 k a1 a2 t166 t167 true a0_0 l0_1 l0_2 a0_3 a0_4 l0_5)) = some r := H
  have A7 := Aside0.mk A70
  clear A70
  by_cases c8 : t168 = true
  ·subst c8
   have H1 : ((spec_l05Tone.f k a0_0 l0_1 l0_2 a0_3 a0_4 l0_5 t167).bind fun t169 => (spec_l05Reason.j0 k a1 a2 t166 t167 (!t169) a0_0 l0_1 l0_2 a0_3 a0_4 l0_5)) = some r := by rw [if_pos rfl] at H; exact H
   clear H
   have H := H1
   clear H1
   replace H := Option.bind_eq_some_iff.mp H
   obtain ⟨t169, A90, H⟩ := H
   replace H : (spec_l05Reason.j0 k a1 a2 t166 t167 (!t169) a0_0 l0_1 l0_2 a0_3 a0_4 l0_5) = some r := H
   have A9 := Aside0.mk A90
   clear A90
   have H' := Aside0.mk H
   clear H
   go_wp2_with (first | ((with_reducible refine gate_callee (f := 59) rfl ?_); refine goesL_ (some 16) rfl rfl Try.func59 (by kernel_rfl) rfl #[.pointer (some ⟨g0, 0, none⟩), .int .i64 t166] rfl (by first | rfl | (simp only [List.map_toArray, List.map_cons, List.map_nil]; done) | (simp only [List.map_toArray, List.map_cons, List.map_nil]; rfl)) ?_; (with_reducible refine (spec_l05Tone.calls k g0 a0_0 A0_1 c0_1 l0_1 A0_2 c0_2 l0_2 a0_3 a0_4 A0_5 c0_5 l0_5 t166 true _ ?side1 ?side2 ?side3 ?side4 ?side5 ?side6 ?side7 A7.out).mono ?_); (case side1 => (with_reducible repeat (first | refine blk_drewN ?_ _ | refine blk_drew ?_ | refine blk_alloc ?_ _)); exact HBP0.out); (case side2 => repeat first | exact HR0_1.out | refine Kd.C_alloc ?_ _ | refine Kd.C_drewN ?_ _ | refine Kd.C_drew ?_); (case side3 => exact HC0_1.out); (case side4 => repeat first | exact HR0_2.out | refine Kd.C_alloc ?_ _ | refine Kd.C_drewN ?_ _ | refine Kd.C_drew ?_); (case side5 => exact HC0_2.out); (case side6 => repeat first | exact HR0_5.out | refine Kd.C_alloc ?_ _ | refine Kd.C_drewN ?_ _ | refine Kd.C_drew ?_); (case side7 => exact HC0_5.out); rintro e w' ⟨rfl, ⟨nd, rfl⟩⟩; refine ⟨_, rfl, ?_⟩) | (go_at_call 59; (with_reducible refine (spec_l05Tone.calls k g0 a0_0 A0_1 c0_1 l0_1 A0_2 c0_2 l0_2 a0_3 a0_4 A0_5 c0_5 l0_5 t167 t169 _ ?side1 ?side2 ?side3 ?side4 ?side5 ?side6 ?side7 A9.out).mono ?_); (case side1 => (with_reducible repeat (first | refine blk_drewN ?_ _ | refine blk_drew ?_ | refine blk_alloc ?_ _)); exact HBP0.out); (case side2 => repeat first | exact HR0_1.out | refine Kd.C_alloc ?_ _ | refine Kd.C_drewN ?_ _ | refine Kd.C_drew ?_); (case side3 => exact HC0_1.out); (case side4 => repeat first | exact HR0_2.out | refine Kd.C_alloc ?_ _ | refine Kd.C_drewN ?_ _ | refine Kd.C_drew ?_); (case side5 => exact HC0_2.out); (case side6 => repeat first | exact HR0_5.out | refine Kd.C_alloc ?_ _ | refine Kd.C_drewN ?_ _ | refine Kd.C_drew ?_); (case side7 => exact HC0_5.out); rintro e w' ⟨rfl, ⟨nd, rfl⟩⟩))
   go_meet
   case rel => exact ⟨_, (!t169), (by first | rfl | (simp; done) | (simp [*]; done)), H', ⟨by first | omega | exact Nat.le_refl _⟩, ⟨by (with_reducible repeat (first | refine blk_drewN ?_ _ | refine blk_drew ?_ | refine blk_alloc ?_ _)); exact HBP0.out⟩, by repeat (first | exact Drawn0.refl _ | apply Drawn0.step)⟩
  ·replace c8 := Bool.eq_false_iff.mpr c8
   subst c8
   have H1 : (spec_l05Reason.j0 k a1 a2 t166 t167 true a0_0 l0_1 l0_2 a0_3 a0_4 l0_5) = some r := by rw [if_neg (show ¬ (false = true) by decide)] at H; exact H
   clear H
   have H := H1
   clear H1
   have H' := Aside0.mk H
   clear H
   go_wp2_with (first | ((with_reducible refine gate_callee (f := 59) rfl ?_); refine goesL_ (some 16) rfl rfl Try.func59 (by kernel_rfl) rfl #[.pointer (some ⟨g0, 0, none⟩), .int .i64 t166] rfl (by first | rfl | (simp only [List.map_toArray, List.map_cons, List.map_nil]; done) | (simp only [List.map_toArray, List.map_cons, List.map_nil]; rfl)) ?_; (with_reducible refine (spec_l05Tone.calls k g0 a0_0 A0_1 c0_1 l0_1 A0_2 c0_2 l0_2 a0_3 a0_4 A0_5 c0_5 l0_5 t166 false _ ?side1 ?side2 ?side3 ?side4 ?side5 ?side6 ?side7 A7.out).mono ?_); (case side1 => (with_reducible repeat (first | refine blk_drewN ?_ _ | refine blk_drew ?_ | refine blk_alloc ?_ _)); exact HBP0.out); (case side2 => repeat first | exact HR0_1.out | refine Kd.C_alloc ?_ _ | refine Kd.C_drewN ?_ _ | refine Kd.C_drew ?_); (case side3 => exact HC0_1.out); (case side4 => repeat first | exact HR0_2.out | refine Kd.C_alloc ?_ _ | refine Kd.C_drewN ?_ _ | refine Kd.C_drew ?_); (case side5 => exact HC0_2.out); (case side6 => repeat first | exact HR0_5.out | refine Kd.C_alloc ?_ _ | refine Kd.C_drewN ?_ _ | refine Kd.C_drew ?_); (case side7 => exact HC0_5.out); rintro e w' ⟨rfl, ⟨nd, rfl⟩⟩; refine ⟨_, rfl, ?_⟩))
   go_meet
   case rel => exact ⟨_, (true), (by first | rfl | (simp; done) | (simp [*]; done)), H', ⟨by first | omega | exact Nat.le_refl _⟩, ⟨by (with_reducible repeat (first | refine blk_drewN ?_ _ | refine blk_drew ?_ | refine blk_alloc ?_ _)); exact HBP0.out⟩, by repeat (first | exact Drawn0.refl _ | apply Drawn0.step)⟩
 case rest =>
  clear HC6
  try clear c1
  try clear p2
  try clear c5
  try clear c6
  try clear c8
  obtain ⟨kq, x23_5, rfl, HA, HJ5, HBX0, ⟨mc5, rfl⟩⟩ := hcut
  cases kq with
  | zero => exact absurd HA.out (by simp [spec_l05Reason.j0])
  | succ kj5 =>
   have H := HA.out
   clear HA
   simp only [spec_l05Reason.j0] at H
   by_cases c10 : x23_5 = true
   ·subst c10
    have H1 : (some 1) = some r := by rw [if_pos rfl] at H; exact H
    clear H
    have H := H1
    clear H1
    obtain rfl := Option.some.inj H
    go_wp2
    go_ret
    exact ⟨by first | rfl | (simp; done) | (simp [*]; done), by repeat (first | exact Drawn0.refl _ | apply Drawn0.step)⟩
   ·replace c10 := Bool.eq_false_iff.mpr c10
    subst c10
    have H1 : ((spec_l00Max.f (wrap64 (a1 - a2)) (wrap64 (a2 - a1))).bind fun t170 => (if t170 > 12 then (some 2) else (if a2 > a1 then ((spec_l00Has.f kj5 l0_1 t167).bind fun t171 => (spec_l05Reason.j1 kj5 a1 a2 t166 t167 (!t171) a0_0 l0_1 l0_2 a0_3 a0_4 l0_5)) else (spec_l05Reason.j1 kj5 a1 a2 t166 t167 false a0_0 l0_1 l0_2 a0_3 a0_4 l0_5)))) = some r := by rw [if_neg (show ¬ (false = true) by decide)] at H; exact H
    clear H
    have H := H1
    clear H1
    replace H := Option.bind_eq_some_iff.mp H
    obtain ⟨t170, A110, H⟩ := H
    replace H : (if t170 > 12 then (some 2) else (if a2 > a1 then ((spec_l00Has.f kj5 l0_1 t167).bind fun t171 => (spec_l05Reason.j1 kj5 a1 a2 t166 t167 (!t171) a0_0 l0_1 l0_2 a0_3 a0_4 l0_5)) else (spec_l05Reason.j1 kj5 a1 a2 t166 t167 false a0_0 l0_1 l0_2 a0_3 a0_4 l0_5))) = some r := H
    have A11 := Aside0.mk A110
    clear A110
    by_cases c12 : t170 > 12
    ·rw [if_pos c12] at H
     have c12b0 : decide (12 < t170) = true := decide_eq_true c12
     clear c12
     obtain rfl := Option.some.inj H
     go_wp2_with (first | ((with_reducible refine gate_callee (f := 140) rfl ?_); refine goesL_ (some 30) rfl rfl Try.func140 (by kernel_rfl) rfl #[.int .i64 (wrap64 (a1 - a2)), .int .i64 (wrap64 (a2 - a1))] rfl (by first | rfl | (simp only [List.map_toArray, List.map_cons, List.map_nil]; done) | (simp only [List.map_toArray, List.map_cons, List.map_nil]; rfl)) ?_; (with_reducible refine (spec_l00Max.calls (wrap64 (a1 - a2)) (wrap64 (a2 - a1)) t170 _ A11.out).mono ?_); rintro e w' ⟨rfl, ⟨nd, rfl⟩⟩; refine ⟨_, rfl, ?_⟩))
     go_ret
     exact ⟨by first | rfl | (simp; done) | (simp [*]; done), by repeat (first | exact Drawn0.refl _ | apply Drawn0.step)⟩
    ·rw [if_neg c12] at H
     have c12b0 : decide (12 < t170) = false := decide_eq_false c12
     clear c12
     have HC13 := Aside0.mk H
     clear H
     go_upto_region 7 with (first | ((with_reducible refine gate_callee (f := 140) rfl ?_); refine goesL_ (some 30) rfl rfl Try.func140 (by kernel_rfl) rfl #[.int .i64 (wrap64 (a1 - a2)), .int .i64 (wrap64 (a2 - a1))] rfl (by first | rfl | (simp only [List.map_toArray, List.map_cons, List.map_nil]; done) | (simp only [List.map_toArray, List.map_cons, List.map_nil]; rfl)) ?_; (with_reducible refine (spec_l00Max.calls (wrap64 (a1 - a2)) (wrap64 (a2 - a1)) t170 _ A11.out).mono ?_); rintro e w' ⟨rfl, ⟨nd, rfl⟩⟩; refine ⟨_, rfl, ?_⟩))
     (try simp only [Act.put, List.setIfInBounds_toArray, List.set_cons_zero, List.set_cons_succ])
     go_cut [43] (fun v43 wc => ∃ (kq : Nat) (x43_12 : Bool), v43 = .bool x43_12 ∧ Aside0 (spec_l05Reason.j1 kq a1 a2 t166 t167 x43_12 a0_0 l0_1 l0_2 a0_3 a0_4 l0_5 = some r) ∧ Aside0 (kq ≤ kj5) ∧ Aside0 (wc.heap[g0]? = some (.cells #[.string a0_0, (.slice A0_1 l0_1.length c0_1), (.slice A0_2 l0_2.length c0_2), .int .i64 a0_3, .int .i64 a0_4, (.slice A0_5 l0_5.length c0_5)] 29 (0, 0))) ∧ Drawn0 w wc)
     case first =>
      have H := HC13.out
      clear HC13
      by_cases c14 : a2 > a1
      ·rw [if_pos c14] at H
       have c14b0 : decide (a1 < a2) = true := decide_eq_true c14
       clear c14
       (first | rw [c14b0] | (simp only [i64_w, i32_w]; rw [c14b0]) | skip)
       replace H := Option.bind_eq_some_iff.mp H
       obtain ⟨t171, A150, H⟩ := H
       replace H : (spec_l05Reason.j1 kj5 a1 a2 t166 t167 (!t171) a0_0 l0_1 l0_2 a0_3 a0_4 l0_5) = some r := H
       have A15 := Aside0.mk A150
       clear A150
       have H' := Aside0.mk H
       clear H
       have hcz16_0 : w.cell? ⟨g0, 0, none⟩ = some (.string a0_0) := (blk_cell HBP0.out 0).trans rfl
       have hcz16_1 : w.cell? ⟨g0, 1, none⟩ = some (.slice A0_1 l0_1.length c0_1) := (blk_cell HBP0.out 1).trans rfl
       have hcz16_2 : w.cell? ⟨g0, 2, none⟩ = some (.slice A0_2 l0_2.length c0_2) := (blk_cell HBP0.out 2).trans rfl
       have hcz16_3 : w.cell? ⟨g0, 3, none⟩ = some (.int .i64 a0_3) := (blk_cell HBP0.out 3).trans rfl
       have hcz16_4 : w.cell? ⟨g0, 4, none⟩ = some (.int .i64 a0_4) := (blk_cell HBP0.out 4).trans rfl
       have hcz16_5 : w.cell? ⟨g0, 5, none⟩ = some (.slice A0_5 l0_5.length c0_5) := (blk_cell HBP0.out 5).trans rfl
       go_wp2_with (first | (go_at_call 110; (with_reducible refine (spec_l00Has.calls kj5 _ _ l0_1 t167 t171 _ ?side1 ?side2 A15.out).mono ?_); (case side1 => repeat first | exact HR0_1.out | refine Kd.C_alloc ?_ _ | refine Kd.C_drewN ?_ _ | refine Kd.C_drew ?_); (case side2 => exact HC0_1.out); rintro e w' ⟨rfl, ⟨nd, rfl⟩⟩))
       go_meet
       case rel => exact ⟨_, (!t171), (by first | rfl | (simp; done) | (simp [*]; done)), H', ⟨by have := HJ5.out; first | omega | exact Nat.le_refl _⟩, ⟨by (with_reducible repeat (first | refine blk_drewN ?_ _ | refine blk_drew ?_ | refine blk_alloc ?_ _)); exact HBP0.out⟩, by repeat (first | exact Drawn0.refl _ | apply Drawn0.step)⟩
      ·rw [if_neg c14] at H
       have c14b0 : decide (a1 < a2) = false := decide_eq_false c14
       clear c14
       (first | rw [c14b0] | (simp only [i64_w, i32_w]; rw [c14b0]) | skip)
       have H' := Aside0.mk H
       clear H
       go_wp2
       go_meet
       case rel => exact ⟨_, (false), (by first | rfl | (simp; done) | (simp [*]; done)), H', ⟨by have := HJ5.out; first | omega | exact Nat.le_refl _⟩, ⟨by (with_reducible repeat (first | refine blk_drewN ?_ _ | refine blk_drew ?_ | refine blk_alloc ?_ _)); exact HBP0.out⟩, by repeat (first | exact Drawn0.refl _ | apply Drawn0.step)⟩
     case rest =>
      clear HC13
      try clear c1
      try clear p2
      try clear c5
      try clear c6
      try clear p6
      try clear c8
      try clear c10
      try clear c12
      try clear c12b0
      try clear c14
      try clear c14b0
      try clear hcz16_0
      try clear hcz16_1
      try clear hcz16_2
      try clear hcz16_3
      try clear hcz16_4
      try clear hcz16_5
      try clear p2
      obtain ⟨kq, x43_12, rfl, HA, HJ12, HBX0, ⟨mc12, rfl⟩⟩ := hcut
      cases kq with
      | zero => exact absurd HA.out (by simp [spec_l05Reason.j1])
      | succ kj12 =>
       have H := HA.out
       clear HA
       simp only [spec_l05Reason.j1] at H
       by_cases c17 : x43_12 = true
       ·subst c17
        have H1 : (some 3) = some r := by rw [if_pos rfl] at H; exact H
        clear H
        have H := H1
        clear H1
        obtain rfl := Option.some.inj H
        go_wp2
        go_ret
        exact ⟨by first | rfl | (simp; done) | (simp [*]; done), by repeat (first | exact Drawn0.refl _ | apply Drawn0.step)⟩
       ·replace c17 := Bool.eq_false_iff.mpr c17
        subst c17
        have H1 : (if a2 < a1 then ((spec_l00Has.f kj12 l0_2 t167).bind fun t172 => (spec_l05Reason.j2 kj12 t166 t167 (!t172) a0_0 l0_1 l0_2 a0_3 a0_4 l0_5)) else (spec_l05Reason.j2 kj12 t166 t167 false a0_0 l0_1 l0_2 a0_3 a0_4 l0_5)) = some r := by rw [if_neg (show ¬ (false = true) by decide)] at H; exact H
        clear H
        have H := H1
        clear H1
        have HC18 := Aside0.mk H
        clear H
        go_upto_region 9 with (fail)
        go_cut [55] (fun v55 wc => ∃ (kq : Nat) (x55_17 : Bool), v55 = .bool x55_17 ∧ Aside0 (spec_l05Reason.j2 kq t166 t167 x55_17 a0_0 l0_1 l0_2 a0_3 a0_4 l0_5 = some r) ∧ Aside0 (kq ≤ kj12) ∧ Aside0 (wc.heap[g0]? = some (.cells #[.string a0_0, (.slice A0_1 l0_1.length c0_1), (.slice A0_2 l0_2.length c0_2), .int .i64 a0_3, .int .i64 a0_4, (.slice A0_5 l0_5.length c0_5)] 29 (0, 0))) ∧ Drawn0 w wc)
        case first =>
         have H := HC18.out
         clear HC18
         by_cases c19 : a2 < a1
         ·rw [if_pos c19] at H
          have c19b0 : decide (a2 < a1) = true := decide_eq_true c19
          clear c19
          (first | rw [c19b0] | (simp only [i64_w, i32_w]; rw [c19b0]) | skip)
          replace H := Option.bind_eq_some_iff.mp H
          obtain ⟨t172, A200, H⟩ := H
          replace H : (spec_l05Reason.j2 kj12 t166 t167 (!t172) a0_0 l0_1 l0_2 a0_3 a0_4 l0_5) = some r := H
          have A20 := Aside0.mk A200
          clear A200
          have H' := Aside0.mk H
          clear H
          have hcz21_0 : w.cell? ⟨g0, 0, none⟩ = some (.string a0_0) := (blk_cell HBP0.out 0).trans rfl
          have hcz21_1 : w.cell? ⟨g0, 1, none⟩ = some (.slice A0_1 l0_1.length c0_1) := (blk_cell HBP0.out 1).trans rfl
          have hcz21_2 : w.cell? ⟨g0, 2, none⟩ = some (.slice A0_2 l0_2.length c0_2) := (blk_cell HBP0.out 2).trans rfl
          have hcz21_3 : w.cell? ⟨g0, 3, none⟩ = some (.int .i64 a0_3) := (blk_cell HBP0.out 3).trans rfl
          have hcz21_4 : w.cell? ⟨g0, 4, none⟩ = some (.int .i64 a0_4) := (blk_cell HBP0.out 4).trans rfl
          have hcz21_5 : w.cell? ⟨g0, 5, none⟩ = some (.slice A0_5 l0_5.length c0_5) := (blk_cell HBP0.out 5).trans rfl
          go_wp2_with (first | (go_at_call 110; (with_reducible refine (spec_l00Has.calls kj12 _ _ l0_2 t167 t172 _ ?side1 ?side2 A20.out).mono ?_); (case side1 => repeat first | exact HR0_2.out | refine Kd.C_alloc ?_ _ | refine Kd.C_drewN ?_ _ | refine Kd.C_drew ?_); (case side2 => exact HC0_2.out); rintro e w' ⟨rfl, ⟨nd, rfl⟩⟩))
          go_meet
          case rel => exact ⟨_, (!t172), (by first | rfl | (simp; done) | (simp [*]; done)), H', ⟨by have := HJ5.out; have := HJ12.out; first | omega | exact Nat.le_refl _⟩, ⟨by (with_reducible repeat (first | refine blk_drewN ?_ _ | refine blk_drew ?_ | refine blk_alloc ?_ _)); exact HBP0.out⟩, by repeat (first | exact Drawn0.refl _ | apply Drawn0.step)⟩
         ·rw [if_neg c19] at H
          have c19b0 : decide (a2 < a1) = false := decide_eq_false c19
          clear c19
          (first | rw [c19b0] | (simp only [i64_w, i32_w]; rw [c19b0]) | skip)
          have H' := Aside0.mk H
          clear H
          go_wp2
          go_meet
          case rel => exact ⟨_, (false), (by first | rfl | (simp; done) | (simp [*]; done)), H', ⟨by have := HJ5.out; have := HJ12.out; first | omega | exact Nat.le_refl _⟩, ⟨by (with_reducible repeat (first | refine blk_drewN ?_ _ | refine blk_drew ?_ | refine blk_alloc ?_ _)); exact HBP0.out⟩, by repeat (first | exact Drawn0.refl _ | apply Drawn0.step)⟩
        case rest =>
         clear HC18
         try clear c1
         try clear p2
         try clear c5
         try clear c6
         try clear p6
         try clear c8
         try clear c10
         try clear c12
         try clear c12b0
         try clear c14
         try clear c14b0
         try clear c17
         try clear c19
         try clear c19b0
         try clear hcz16_0
         try clear hcz16_1
         try clear hcz16_2
         try clear hcz16_3
         try clear hcz16_4
         try clear hcz16_5
         try clear hcz21_0
         try clear hcz21_1
         try clear hcz21_2
         try clear hcz21_3
         try clear hcz21_4
         try clear hcz21_5
         try clear p2
         try clear p6
         obtain ⟨kq, x55_17, rfl, HA, HJ17, HBX0, ⟨mc17, rfl⟩⟩ := hcut
         cases kq with
         | zero => exact absurd HA.out (by simp [spec_l05Reason.j2])
         | succ kj17 =>
          have H := HA.out
          clear HA
          simp only [spec_l05Reason.j2] at H
          by_cases c22 : x55_17 = true
          ·subst c22
           have H1 : (some 4) = some r := by rw [if_pos rfl] at H; exact H
           clear H
           have H := H1
           clear H1
           obtain rfl := Option.some.inj H
           go_wp2
           go_ret
           exact ⟨by first | rfl | (simp; done) | (simp [*]; done), by repeat (first | exact Drawn0.refl _ | apply Drawn0.step)⟩
          ·replace c22 := Bool.eq_false_iff.mpr c22
           subst c22
           have H1 : (spec_l05Reason.l0 kj17 t166 t167 0 a0_0 l0_1 l0_2 a0_3 a0_4 l0_5) = some r := by rw [if_neg (show ¬ (false = true) by decide)] at H; exact H
           clear H
           have H := H1
           clear H1
           have H' := Aside0.mk H
           clear H
           go_wp2
           go_loopg [9] kj17 (fun kq v9 w' => ∃ (x9_4 : Int), v9 = .int .i64 x9_4 ∧ Aside0 (spec_l05Reason.l0 kq t166 t167 x9_4 a0_0 l0_1 l0_2 a0_3 a0_4 l0_5 = some r) ∧ Aside0 (kq ≤ kj17) ∧ Aside0 (w'.heap[g0]? = some (.cells #[.string a0_0, (.slice A0_1 l0_1.length c0_1), (.slice A0_2 l0_2.length c0_2), .int .i64 a0_3, .int .i64 a0_4, (.slice A0_5 l0_5.length c0_5)] 29 (0, 0))) ∧ Drawn0 w w')
           case atStart => exact ⟨(0), (by first | rfl | (simp; done) | (simp [*]; done)), H', ⟨Nat.le_refl _⟩, ⟨by (with_reducible repeat (first | refine blk_drewN ?_ _ | refine blk_drew ?_ | refine blk_alloc ?_ _)); exact HBP0.out⟩, by repeat (first | exact Drawn0.refl _ | apply Drawn0.step)⟩
           case round =>
            clear H'
            try clear c1
            try clear c2
            try clear p2
            try clear c5
            try clear c6
            try clear p6
            try clear c8
            try clear c10
            try clear c12
            try clear c12b0
            try clear c14
            try clear c14b0
            try clear c17
            try clear c19
            try clear c19b0
            try clear c22
            try clear hcz16_0
            try clear hcz16_1
            try clear hcz16_2
            try clear hcz16_3
            try clear hcz16_4
            try clear hcz16_5
            try clear hcz21_0
            try clear hcz21_1
            try clear hcz21_2
            try clear hcz21_3
            try clear hcz21_4
            try clear hcz21_5
            try clear p2
            try clear p6
            obtain ⟨x9_4, rfl, HA, HK4, HBX0, ⟨m4, rfl⟩⟩ := hrel
            cases gk with
            | zero => exact absurd HA.out (by simp [spec_l05Reason.l0])
            | succ k4 =>
             have H := HA.out
             clear HA
             simp only [spec_l05Reason.l0] at H
             by_cases c23 : x9_4 < (l0_5.length : Int)
             ·rw [if_pos c23] at H
              have c23b0 : decide (x9_4 < (l0_5.length : Int)) = true := decide_eq_true c23
              clear c23
              by_cases c24 : 0 ≤ x9_4
              ·rw [if_pos c24] at H
               have c24b0 : decide (0 ≤ x9_4) = true := decide_eq_true c24
               clear c24
               by_cases c25 : 0 < ((rd_L1 l0_5 x9_4).length : Int)
               ·rw [if_pos c25] at H
                have c25b0 : decide (0 < ((rd_L1 l0_5 x9_4).length : Int)) = true := decide_eq_true c25
                have c25b1 : decide (0 < (rd_L1 l0_5 x9_4).length) = true := decide_eq_true (by omega)
                clear c25
                by_cases c26 : (rd (rd_L1 l0_5 x9_4) 0) = t166
                ·rw [if_pos c26] at H
                 have c26b0 : ((rd (rd_L1 l0_5 x9_4) 0) == t166) = true := beq_iff_eq.mpr c26
                 have c26b1 : ((rd (rd_L1 l0_5 x9_4) 0) != t166) = false := bne_eq_false_iff_eq.mpr c26
                 clear c26
                 by_cases c27 : 1 < ((rd_L1 l0_5 x9_4).length : Int)
                 ·rw [if_pos c27] at H
                  have c27b0 : decide (1 < ((rd_L1 l0_5 x9_4).length : Int)) = true := decide_eq_true c27
                  have c27b1 : decide (1 < (rd_L1 l0_5 x9_4).length) = true := decide_eq_true (by omega)
                  clear c27
                  by_cases c28 : (rd (rd_L1 l0_5 x9_4) 1) = t167
                  ·rw [if_pos c28] at H
                   have c28b0 : ((rd (rd_L1 l0_5 x9_4) 1) == t167) = true := beq_iff_eq.mpr c28
                   have c28b1 : ((rd (rd_L1 l0_5 x9_4) 1) != t167) = false := bne_eq_false_iff_eq.mpr c28
                   clear c28
                   obtain rfl := Option.some.inj H
                   have hcz29_0 : w.cell? ⟨g0, 0, none⟩ = some (.string a0_0) := (blk_cell HBP0.out 0).trans rfl
                   have hcz29_1 : w.cell? ⟨g0, 1, none⟩ = some (.slice A0_1 l0_1.length c0_1) := (blk_cell HBP0.out 1).trans rfl
                   have hcz29_2 : w.cell? ⟨g0, 2, none⟩ = some (.slice A0_2 l0_2.length c0_2) := (blk_cell HBP0.out 2).trans rfl
                   have hcz29_3 : w.cell? ⟨g0, 3, none⟩ = some (.int .i64 a0_3) := (blk_cell HBP0.out 3).trans rfl
                   have hcz29_4 : w.cell? ⟨g0, 4, none⟩ = some (.int .i64 a0_4) := (blk_cell HBP0.out 4).trans rfl
                   have hcz29_5 : w.cell? ⟨g0, 5, none⟩ = some (.slice A0_5 l0_5.length c0_5) := (blk_cell HBP0.out 5).trans rfl
                   have p173 : 0 ≤ (x9_4 : Int) := of_decide_eq_true (by assumption)
                   have q173 : x9_4 < (l0_5.length : Int) := of_decide_eq_true (by assumption)
                   obtain ⟨ad173, A173_0, c173_0, e173, hx173_0, hl173_0, hi173_0⟩ := at_L1 HR0_5.out x9_4 p173 q173
                   cases e173
                   have HR173_0 := Aside0.mk hi173_0
                   have HC173_0 := Aside0.mk hl173_0
                   clear hi173_0 hl173_0
                   replace p173 := eq_true p173
                   replace q173 := eq_true q173
                   have p174 : 0 ≤ (0 : Int) := (by omega)
                   have q174 : 0 < ((rd_L1 l0_5 x9_4).length : Int) := of_decide_eq_true (by assumption)
                   obtain ⟨ad174, e174, hx174_0⟩ := Kd.at_int HR173_0.out 0 p174 q174
                   cases e174
                   have qi174 : (0 < (rd_L1 l0_5 x9_4).length) = True := eq_true (by omega)
                   (try rw [show ((0 : Int)).toNat = 0 from rfl] at hx174_0)
                   (try rw [Addr.add_zero'] at hx174_0)
                   replace p174 := eq_true p174
                   replace q174 := eq_true q174
                   have p175 : 0 ≤ (x9_4 : Int) := of_decide_eq_true (by assumption)
                   have q175 : x9_4 < (l0_5.length : Int) := of_decide_eq_true (by assumption)
                   obtain ⟨ad175, A175_0, c175_0, e175, hx175_0, hl175_0, hi175_0⟩ := at_L1 HR0_5.out x9_4 p175 q175
                   obtain rfl : ad173 = ad175 := (by injection e175)
                   have HR175_0 := Aside0.mk hi175_0
                   have HC175_0 := Aside0.mk hl175_0
                   clear hi175_0 hl175_0
                   replace p175 := eq_true p175
                   replace q175 := eq_true q175
                   have ea_ := Option.some.inj (hx173_0.symm.trans hx175_0)
                   injection ea_ with ea_ en_ ec_
                   subst ea_
                   subst ec_
                   clear en_
                   have p176 : 0 ≤ (1 : Int) := (by omega)
                   have q176 : 1 < ((rd_L1 l0_5 x9_4).length : Int) := of_decide_eq_true (by assumption)
                   obtain ⟨ad176, e176, hx176_0⟩ := Kd.at_int HR175_0.out 1 p176 q176
                   cases e176
                   (try simp only [show (1 : Int).toNat = 1 from rfl, Nat.reduceMul, Nat.reduceEqDiff, Go.Addr.add, ↓reduceIte] at hx176_0)
                   have qi176 : (1 < (rd_L1 l0_5 x9_4).length) = True := eq_true (by omega)
                   (try rw [show ((1 : Int)).toNat = 1 from rfl] at hx176_0)
                   replace p176 := eq_true p176
                   replace q176 := eq_true q176
                   go_wp2
                   go_ret
                   exact ⟨by first | rfl | (simp; done) | (simp [*]; done), by repeat (first | exact Drawn0.refl _ | apply Drawn0.step)⟩
                  ·rw [if_neg c28] at H
                   have c28b0 : ((rd (rd_L1 l0_5 x9_4) 1) == t167) = false := beq_eq_false_iff_ne.mpr c28
                   have c28b1 : ((rd (rd_L1 l0_5 x9_4) 1) != t167) = true := bne_iff_ne.mpr c28
                   have H' := Aside0.mk H
                   clear H
                   have hcz30_0 : w.cell? ⟨g0, 0, none⟩ = some (.string a0_0) := (blk_cell HBP0.out 0).trans rfl
                   have hcz30_1 : w.cell? ⟨g0, 1, none⟩ = some (.slice A0_1 l0_1.length c0_1) := (blk_cell HBP0.out 1).trans rfl
                   have hcz30_2 : w.cell? ⟨g0, 2, none⟩ = some (.slice A0_2 l0_2.length c0_2) := (blk_cell HBP0.out 2).trans rfl
                   have hcz30_3 : w.cell? ⟨g0, 3, none⟩ = some (.int .i64 a0_3) := (blk_cell HBP0.out 3).trans rfl
                   have hcz30_4 : w.cell? ⟨g0, 4, none⟩ = some (.int .i64 a0_4) := (blk_cell HBP0.out 4).trans rfl
                   have hcz30_5 : w.cell? ⟨g0, 5, none⟩ = some (.slice A0_5 l0_5.length c0_5) := (blk_cell HBP0.out 5).trans rfl
                   have p173 : 0 ≤ (x9_4 : Int) := of_decide_eq_true (by assumption)
                   have q173 : x9_4 < (l0_5.length : Int) := of_decide_eq_true (by assumption)
                   obtain ⟨ad173, A173_0, c173_0, e173, hx173_0, hl173_0, hi173_0⟩ := at_L1 HR0_5.out x9_4 p173 q173
                   cases e173
                   have HR173_0 := Aside0.mk hi173_0
                   have HC173_0 := Aside0.mk hl173_0
                   clear hi173_0 hl173_0
                   replace p173 := eq_true p173
                   replace q173 := eq_true q173
                   have p174 : 0 ≤ (0 : Int) := (by omega)
                   have q174 : 0 < ((rd_L1 l0_5 x9_4).length : Int) := of_decide_eq_true (by assumption)
                   obtain ⟨ad174, e174, hx174_0⟩ := Kd.at_int HR173_0.out 0 p174 q174
                   cases e174
                   have qi174 : (0 < (rd_L1 l0_5 x9_4).length) = True := eq_true (by omega)
                   (try rw [show ((0 : Int)).toNat = 0 from rfl] at hx174_0)
                   (try rw [Addr.add_zero'] at hx174_0)
                   replace p174 := eq_true p174
                   replace q174 := eq_true q174
                   have p175 : 0 ≤ (x9_4 : Int) := of_decide_eq_true (by assumption)
                   have q175 : x9_4 < (l0_5.length : Int) := of_decide_eq_true (by assumption)
                   obtain ⟨ad175, A175_0, c175_0, e175, hx175_0, hl175_0, hi175_0⟩ := at_L1 HR0_5.out x9_4 p175 q175
                   obtain rfl : ad173 = ad175 := (by injection e175)
                   have HR175_0 := Aside0.mk hi175_0
                   have HC175_0 := Aside0.mk hl175_0
                   clear hi175_0 hl175_0
                   replace p175 := eq_true p175
                   replace q175 := eq_true q175
                   have ea_ := Option.some.inj (hx173_0.symm.trans hx175_0)
                   injection ea_ with ea_ en_ ec_
                   subst ea_
                   subst ec_
                   clear en_
                   have p176 : 0 ≤ (1 : Int) := (by omega)
                   have q176 : 1 < ((rd_L1 l0_5 x9_4).length : Int) := of_decide_eq_true (by assumption)
                   obtain ⟨ad176, e176, hx176_0⟩ := Kd.at_int HR175_0.out 1 p176 q176
                   cases e176
                   (try simp only [show (1 : Int).toNat = 1 from rfl, Nat.reduceMul, Nat.reduceEqDiff, Go.Addr.add, ↓reduceIte] at hx176_0)
                   have qi176 : (1 < (rd_L1 l0_5 x9_4).length) = True := eq_true (by omega)
                   (try rw [show ((1 : Int)).toNat = 1 from rfl] at hx176_0)
                   replace p176 := eq_true p176
                   replace q176 := eq_true q176
                   go_wp2
                   go_roundg k4
                   case measure => have := HJ5.out; have := HJ12.out; have := HJ17.out; have := HK4.out; omega
                   case rel => exact ⟨(wrap64 (x9_4 + 1)), (by first | rfl | (simp; done) | (simp [*]; done)), H', ⟨by have := HJ5.out; have := HJ12.out; have := HJ17.out; have := HK4.out; omega⟩, ⟨by (with_reducible repeat (first | refine blk_drewN ?_ _ | refine blk_drew ?_ | refine blk_alloc ?_ _)); exact HBP0.out⟩, by repeat (first | exact Drawn0.refl _ | apply Drawn0.step)⟩
                 ·rw [if_neg c27] at H
                  exact absurd H (by simp)
                ·rw [if_neg c26] at H
                 have c26b0 : ((rd (rd_L1 l0_5 x9_4) 0) == t166) = false := beq_eq_false_iff_ne.mpr c26
                 have c26b1 : ((rd (rd_L1 l0_5 x9_4) 0) != t166) = true := bne_iff_ne.mpr c26
                 have H' := Aside0.mk H
                 clear H
                 have hcz31_0 : w.cell? ⟨g0, 0, none⟩ = some (.string a0_0) := (blk_cell HBP0.out 0).trans rfl
                 have hcz31_1 : w.cell? ⟨g0, 1, none⟩ = some (.slice A0_1 l0_1.length c0_1) := (blk_cell HBP0.out 1).trans rfl
                 have hcz31_2 : w.cell? ⟨g0, 2, none⟩ = some (.slice A0_2 l0_2.length c0_2) := (blk_cell HBP0.out 2).trans rfl
                 have hcz31_3 : w.cell? ⟨g0, 3, none⟩ = some (.int .i64 a0_3) := (blk_cell HBP0.out 3).trans rfl
                 have hcz31_4 : w.cell? ⟨g0, 4, none⟩ = some (.int .i64 a0_4) := (blk_cell HBP0.out 4).trans rfl
                 have hcz31_5 : w.cell? ⟨g0, 5, none⟩ = some (.slice A0_5 l0_5.length c0_5) := (blk_cell HBP0.out 5).trans rfl
                 have p173 : 0 ≤ (x9_4 : Int) := of_decide_eq_true (by assumption)
                 have q173 : x9_4 < (l0_5.length : Int) := of_decide_eq_true (by assumption)
                 obtain ⟨ad173, A173_0, c173_0, e173, hx173_0, hl173_0, hi173_0⟩ := at_L1 HR0_5.out x9_4 p173 q173
                 cases e173
                 have HR173_0 := Aside0.mk hi173_0
                 have HC173_0 := Aside0.mk hl173_0
                 clear hi173_0 hl173_0
                 replace p173 := eq_true p173
                 replace q173 := eq_true q173
                 have p174 : 0 ≤ (0 : Int) := (by omega)
                 have q174 : 0 < ((rd_L1 l0_5 x9_4).length : Int) := of_decide_eq_true (by assumption)
                 obtain ⟨ad174, e174, hx174_0⟩ := Kd.at_int HR173_0.out 0 p174 q174
                 cases e174
                 have qi174 : (0 < (rd_L1 l0_5 x9_4).length) = True := eq_true (by omega)
                 (try rw [show ((0 : Int)).toNat = 0 from rfl] at hx174_0)
                 (try rw [Addr.add_zero'] at hx174_0)
                 replace p174 := eq_true p174
                 replace q174 := eq_true q174
                 go_wp2
                 go_roundg k4
                 case measure => have := HJ5.out; have := HJ12.out; have := HJ17.out; have := HK4.out; omega
                 case rel => exact ⟨(wrap64 (x9_4 + 1)), (by first | rfl | (simp; done) | (simp [*]; done)), H', ⟨by have := HJ5.out; have := HJ12.out; have := HJ17.out; have := HK4.out; omega⟩, ⟨by (with_reducible repeat (first | refine blk_drewN ?_ _ | refine blk_drew ?_ | refine blk_alloc ?_ _)); exact HBP0.out⟩, by repeat (first | exact Drawn0.refl _ | apply Drawn0.step)⟩
               ·rw [if_neg c25] at H
                exact absurd H (by simp)
              ·rw [if_neg c24] at H
               exact absurd H (by simp)
             ·rw [if_neg c23] at H
              have c23b0 : decide (x9_4 < (l0_5.length : Int)) = false := decide_eq_false c23
              clear c23
              obtain rfl := Option.some.inj H
              have hcz32_0 : w.cell? ⟨g0, 0, none⟩ = some (.string a0_0) := (blk_cell HBP0.out 0).trans rfl
              have hcz32_1 : w.cell? ⟨g0, 1, none⟩ = some (.slice A0_1 l0_1.length c0_1) := (blk_cell HBP0.out 1).trans rfl
              have hcz32_2 : w.cell? ⟨g0, 2, none⟩ = some (.slice A0_2 l0_2.length c0_2) := (blk_cell HBP0.out 2).trans rfl
              have hcz32_3 : w.cell? ⟨g0, 3, none⟩ = some (.int .i64 a0_3) := (blk_cell HBP0.out 3).trans rfl
              have hcz32_4 : w.cell? ⟨g0, 4, none⟩ = some (.int .i64 a0_4) := (blk_cell HBP0.out 4).trans rfl
              have hcz32_5 : w.cell? ⟨g0, 5, none⟩ = some (.slice A0_5 l0_5.length c0_5) := (blk_cell HBP0.out 5).trans rfl
              go_wp2
              go_ret
              exact ⟨by first | rfl | (simp; done) | (simp [*]; done), by repeat (first | exact Drawn0.refl _ | apply Drawn0.step)⟩
/-! ### spec_l05Next: function 112 -/
def spec_l05Next.l0 : Nat → Int → List Int → Int → ByteArray → List Int → List Int → Int → Int → List (List Int) → Option (List Int)
 | 0, _, _, _, _, _, _, _, _, _ => none
 | k + 1, x1, x5, x6, x178000, x178001, x178002, x178003, x178004, x178005 => if x6 ≤ 23 then ((spec_l05Reason.f k x178000 x178001 x178002 x178003 x178004 x178005 x1 x6).bind fun t181 => (if t181 = 0 then (if x5.length < 17592186044416 then (spec_l05Next.l0 k x1 (x5 ++ [x6]) (wrap64 (x6 + 1)) x178000 x178001 x178002 x178003 x178004 x178005) else (none)) else (spec_l05Next.l0 k x1 x5 (wrap64 (x6 + 1)) x178000 x178001 x178002 x178003 x178004 x178005))) else (some x5)
def spec_l05Next.f (k : Nat) (a0_0 : ByteArray) (l0_1 : List Int) (l0_2 : List Int) (a0_3 : Int) (a0_4 : Int) (l0_5 : List (List Int)) (a1 : Int) : Option (List Int) := spec_l05Next.l0 k a1 (([] : List Int)) (-12) a0_0 l0_1 l0_2 a0_3 a0_4 l0_5
theorem spec_l05Next.mono_l : ∀ k, (∀ y0 y1 y2 y3 y4 y5 y6 y7 y8, LeO (spec_l05Next.l0 k y0 y1 y2 y3 y4 y5 y6 y7 y8) (spec_l05Next.l0 (k + 1) y0 y1 y2 y3 y4 y5 y6 y7 y8))
 | 0 => fun _ _ _ _ _ _ _ _ _ r h => by simp [spec_l05Next.l0] at h
 | k + 1 => by
  have ih0 := spec_l05Next.mono_l k
  ·intro y0 y1 y2 y3 y4 y5 y6 y7 y8
   unfold spec_l05Next.l0
   repeat' first
   | (with_reducible exact ih0 _ _ _ _ _ _ _ _ _)
   | (with_reducible exact spec_l05Reason.mono _ _ _ _ _ _ _ _ _)
   | (with_reducible exact LeO.refl _)
   | (with_reducible exact LeO.none _)
   | (with_reducible refine LeO.ite ?_ ?_)
   | (with_reducible refine LeO.bind ?_ (fun _ => ?_))
   | exact ih0 _ _ _ _ _ _ _ _ _
   | exact spec_l05Reason.mono _ _ _ _ _ _ _ _ _
   | exact LeO.none _
   | refine LeO.ite ?_ ?_
   | refine LeO.bind ?_ (fun _ => ?_)
theorem spec_l05Next.mono : ∀ a0 a1 a2 a3 a4 a5 a6 k, LeO (spec_l05Next.f k a0 a1 a2 a3 a4 a5 a6) (spec_l05Next.f (k + 1) a0 a1 a2 a3 a4 a5 a6) := by
 intro a0 a1 a2 a3 a4 a5 a6 k
 have ih0 := spec_l05Next.mono_l k
 unfold spec_l05Next.f
 repeat' first
   | (with_reducible exact ih0 _ _ _ _ _ _ _ _ _)
   | (with_reducible exact spec_l05Reason.mono _ _ _ _ _ _ _ _ _)
   | (with_reducible exact LeO.refl _)
   | (with_reducible exact LeO.none _)
   | (with_reducible refine LeO.ite ?_ ?_)
   | (with_reducible refine LeO.bind ?_ (fun _ => ?_))
   | exact ih0 _ _ _ _ _ _ _ _ _
   | exact spec_l05Reason.mono _ _ _ _ _ _ _ _ _
   | exact LeO.none _
   | refine LeO.ite ?_ ?_
   | refine LeO.bind ?_ (fun _ => ?_)
set_option maxHeartbeats 8000000 in
set_option maxRecDepth 100000 in
theorem spec_l05Next.calls (k : Nat) (g0 : Nat) (a0_0 : ByteArray) (A0_1 : Option Addr) (c0_1 : Nat) (l0_1 : List Int) (A0_2 : Option Addr) (c0_2 : Nat) (l0_2 : List Int) (a0_3 : Int) (a0_4 : Int) (A0_5 : Option Addr) (c0_5 : Nat) (l0_5 : List (List Int)) (a1 : Int) (r : List Int) (w : World) (hp0 : w.heap[g0]? = some (.cells #[.string a0_0, .slice A0_1 l0_1.length c0_1, .slice A0_2 l0_2.length c0_2, .int .i64 a0_3, .int .i64 a0_4, .slice A0_5 l0_5.length c0_5] 29 (0, 0))) (hr0_1 : Kd.C (Kd.int .i64) w A0_1 l0_1.length l0_1) (hc0_1 : l0_1.length ≤ c0_1) (hr0_2 : Kd.C (Kd.int .i64) w A0_2 l0_2.length l0_2) (hc0_2 : l0_2.length ≤ c0_2) (hr0_5 : Kd.C (Kd.slice 2 (Kd.int .i64)) w A0_5 l0_5.length l0_5) (hc0_5 : l0_5.length ≤ c0_5) (h : spec_l05Next.f k a0_0 l0_1 l0_2 a0_3 a0_4 l0_5 a1 = some r) :
  Calls Try.prog 112 #[.pointer (some ⟨g0, 0, none⟩), .int .i64 a1] w fun e w' => ∃ v0_ : Value, e = .returned (v0_) ∧ Kd.R (Kd.int .i64) 2 w' w.heap.size (fun _ => True) v0_ r ∧ Below w.heap.size w w' := by
 have HR0_1 := Aside0.mk hr0_1
 have HC0_1 := Aside0.mk hc0_1
 clear hr0_1 hc0_1
 have HR0_2 := Aside0.mk hr0_2
 have HC0_2 := Aside0.mk hc0_2
 clear hr0_2 hc0_2
 have HR0_5 := Aside0.mk hr0_5
 have HC0_5 := Aside0.mk hc0_5
 clear hr0_5 hc0_5
 have HB := Aside0.mk (Below.refl w.heap.size w)
 have HBX0 := Aside0.mk hp0
 have HBP0 := Aside0.mk hp0
 clear hp0
 have H : (spec_l05Next.l0 k a1 (([] : List Int)) (-12) a0_0 l0_1 l0_2 a0_3 a0_4 l0_5) = some r := h
 clear h
 obtain ⟨y178, hy178⟩ : ∃ y_ : List Int, y_ = (([] : List Int)) := ⟨_, rfl⟩
 replace H : (spec_l05Next.l0 k a1 y178 (-12) a0_0 l0_1 l0_2 a0_3 a0_4 l0_5) = some r := by first | (rw [hy178]; with_reducible exact H) | (have H2_ := (Option.bind_some _ _).symm.trans H; rw [hy178]; with_reducible exact H2_) | (have H2_ := (Option.bind_some _ _).symm.trans H; with_reducible exact H2_) | with_reducible exact H | (rw [hy178]; exact H) | exact H
 have Ny178 := Aside0.mk hy178
 clear hy178
 have H' := Aside0.mk H
 clear H
 go_enter Try.func112, Try.ntmps112
 go_wp2_with (first | ((with_reducible refine gate_dst (N := 7) rfl ?_); refine Kd.R_lit (Kd.int .i64) _ 2 ?hg (N := 7) ?hd (xs := ([] : List Int)) (inner := []) (ok := fun _ => True) (okp := fun _ => True) ?hr ?hp (fun _ hk => hk) trivial (Below.refl _ _) (Nat.le_refl _) (by simp) ?_; (case hd => rfl); (case hg => rfl); (case hr => first | (go_simp; done) | (go_simp; rfl)); (case hp => exact (Reps.none _ _)); intro v179 w3 ho4 hb hg_ hnew_; clear hg_ hnew_; (first | rw [← Ny178.out] at ho4 | (simp only [Int.reduceToNat] at ho4; rw [← Ny178.out] at ho4)); have n0_ := Aside0.mk (Kd.R_lower ho4 (below_size (by repeat (first | (with_reducible first | exact HB.out | apply below_alloc | apply pw_below_drewN | apply below_drew1 | refine below_set ?_ GE177.out) | exact HB.out)))); have n1_ := Aside0.mk (below_step (by repeat (first | (with_reducible first | exact HB.out | apply below_alloc | apply pw_below_drewN | apply below_drew1 | refine below_set ?_ GE177.out) | exact HB.out)) hb); clear HB; have HO180 := n0_; have HB := n1_; clear n0_ n1_; clear hb ho4))
 go_loopg [5, 6] k (fun kq v5 v6 w' => ∃ (x5_1 : List Int) (x6_1 : Int), v6 = .int .i64 x6_1 ∧ Aside0 (spec_l05Next.l0 kq a1 x5_1 x6_1 a0_0 l0_1 l0_2 a0_3 a0_4 l0_5 = some r) ∧ Aside0 (kq ≤ k) ∧ Aside0 (Kd.R (Kd.int .i64) 2 w' w.heap.size (fun _ => True) v5 x5_1) ∧ Aside0 (w'.heap[g0]? = some (.cells #[.string a0_0, (.slice A0_1 l0_1.length c0_1), (.slice A0_2 l0_2.length c0_2), .int .i64 a0_3, .int .i64 a0_4, (.slice A0_5 l0_5.length c0_5)] 29 (0, 0))) ∧ Aside0 (Below w.heap.size w w'))
 case atStart => exact ⟨(y178), ((-12)), (by first | rfl | (simp; done) | (simp [*]; done)), H', ⟨Nat.le_refl _⟩, ⟨by (with_reducible repeat (first | apply Kd.R_alloc | apply Kd.R_drewN | apply Kd.R_drew)); exact HO180.out⟩, ⟨by exact blk_below HBP0.out (by repeat (first | (with_reducible first | exact HB.out | apply below_alloc | apply pw_below_drewN | apply below_drew1 | refine below_set ?_ GE177.out) | exact HB.out))⟩, ⟨by repeat (first | (with_reducible first | exact HB.out | apply below_alloc | apply pw_below_drewN | apply below_drew1 | refine below_set ?_ GE177.out) | exact HB.out)⟩⟩
 case round =>
  clear H'
  try clear c1
  try clear p2
  obtain ⟨x5_1, x6_1, rfl, HA, HK1, HO_5, HBX0, HB⟩ := hrel
  cases gk with
  | zero => exact absurd HA.out (by simp [spec_l05Next.l0])
  | succ k1 =>
   have H := HA.out
   clear HA
   simp only [spec_l05Next.l0] at H
   by_cases c5 : x6_1 ≤ 23
   ·rw [if_pos c5] at H
    have c5b0 : decide (x6_1 ≤ 23) = true := decide_eq_true c5
    clear c5
    replace H := Option.bind_eq_some_iff.mp H
    obtain ⟨t181, A60, H⟩ := H
    replace H : (if t181 = 0 then (if x5_1.length < 17592186044416 then (spec_l05Next.l0 k1 a1 (x5_1 ++ [x6_1]) (wrap64 (x6_1 + 1)) a0_0 l0_1 l0_2 a0_3 a0_4 l0_5) else (none)) else (spec_l05Next.l0 k1 a1 x5_1 (wrap64 (x6_1 + 1)) a0_0 l0_1 l0_2 a0_3 a0_4 l0_5)) = some r := H
    have A6 := Aside0.mk A60
    clear A60
    by_cases c7 : t181 = 0
    ·rw [if_pos c7] at H
     have c7b0 : (t181 == 0) = true := beq_iff_eq.mpr c7
     have c7b1 : (t181 != 0) = false := bne_eq_false_iff_eq.mpr c7
     clear c7
     by_cases c8 : x5_1.length < 17592186044416
     ·rw [if_pos c8] at H
      have LMc8 := Aside0.mk c8
      clear c8
      obtain ⟨y182, hy182⟩ : ∃ y_ : List Int, y_ = (x5_1 ++ [x6_1]) := ⟨_, rfl⟩
      replace H : (spec_l05Next.l0 k1 a1 y182 (wrap64 (x6_1 + 1)) a0_0 l0_1 l0_2 a0_3 a0_4 l0_5) = some r := by first | (rw [hy182]; with_reducible exact H) | (have H2_ := (Option.bind_some _ _).symm.trans H; rw [hy182]; with_reducible exact H2_) | (have H2_ := (Option.bind_some _ _).symm.trans H; with_reducible exact H2_) | with_reducible exact H | (rw [hy182]; exact H) | exact H
      have Ny182 := Aside0.mk hy182
      clear hy182
      have H' := Aside0.mk H
      clear H
      go_wp2_with (first | ((with_reducible refine gate_callee (f := 105) rfl ?_); refine goesL_ (some 15) rfl rfl Try.func105 (by kernel_rfl) rfl #[.pointer (some ⟨g0, 0, none⟩), .int .i64 a1, .int .i64 x6_1] rfl (by first | rfl | (simp only [List.map_toArray, List.map_cons, List.map_nil]; done) | (simp only [List.map_toArray, List.map_cons, List.map_nil]; rfl)) ?_; (with_reducible refine (spec_l05Reason.calls k1 g0 a0_0 A0_1 c0_1 l0_1 A0_2 c0_2 l0_2 a0_3 a0_4 A0_5 c0_5 l0_5 a1 x6_1 t181 _ ?side1 ?side2 ?side3 ?side4 ?side5 ?side6 ?side7 A6.out).mono ?_); (case side1 => exact blk_below HBP0.out (by repeat (first | (with_reducible first | exact HB.out | apply below_alloc | apply pw_below_drewN | apply below_drew1 | refine below_set ?_ GE177.out) | exact HB.out))); (case side2 => exact (Kd.C_below HR0_1.out HB.out)); (case side3 => exact HC0_1.out); (case side4 => exact (Kd.C_below HR0_2.out HB.out)); (case side5 => exact HC0_2.out); (case side6 => exact (Kd.C_below HR0_5.out HB.out)); (case side7 => exact HC0_5.out); rintro e w' ⟨rfl, ⟨nd, rfl⟩⟩; refine ⟨_, rfl, ?_⟩) | ((with_reducible refine gate_builtin (b := .append) (xs := #[.tmp 17, .tmp 19]) rfl ?_); at_builtin; refine Kd.R_append (Kd.int .i64) (w0 := w) w.heap.size rfl (.tmp 17) (.tmp 19) 22 2 (.int .i64 0) 8 rfl Try.underlying22 info2 rfl (by decide) (by omega) u5 x5_1 x6_1 [.int .i64 x6_1] (fun _ => True) (fun _ => False) rfl rfl ?aP (fun _ hk => hk.elim) ?aF ?aO ?aB ?aS ?aL ?_; (case aP => exact rfl); (case aB => exact (by repeat (first | (with_reducible first | exact HB.out | apply below_alloc | apply pw_below_drewN | apply below_drew1 | refine below_set ?_ GE177.out) | exact HB.out))); (case aF => exact (fun _ _ => trivial)); (case aO => exact (by (with_reducible repeat (first | apply Kd.R_alloc | apply Kd.R_drewN | apply Kd.R_drew)); exact HO_5.out)); (case aS => exact (below_size (by repeat (first | (with_reducible first | exact HB.out | apply below_alloc | apply pw_below_drewN | apply below_drew1 | refine below_set ?_ GE177.out) | exact HB.out)))); (case aL => have := LMc8.out; omega); intro v183 w9 ho hb hg hat; rw [← Ny182.out] at ho; have n0_ := Aside0.mk (hb); have n1_ := Aside0.mk (ho); clear HB; clear HO_5; have HB := n0_; have HO184 := n1_; clear n0_ n1_; clear ho hb hg hat))
      go_roundg k1
      case measure => have := HK1.out; omega
      case rel => exact ⟨(y182), (wrap64 (x6_1 + 1)), (by first | rfl | (simp; done) | (simp [*]; done)), H', ⟨by have := HK1.out; omega⟩, ⟨by (with_reducible repeat (first | apply Kd.R_alloc | apply Kd.R_drewN | apply Kd.R_drew)); exact HO184.out⟩, ⟨by exact blk_below HBP0.out (by repeat (first | (with_reducible first | exact HB.out | apply below_alloc | apply pw_below_drewN | apply below_drew1 | refine below_set ?_ GE177.out) | exact HB.out))⟩, ⟨by repeat (first | (with_reducible first | exact HB.out | apply below_alloc | apply pw_below_drewN | apply below_drew1 | refine below_set ?_ GE177.out) | exact HB.out)⟩⟩
     ·rw [if_neg c8] at H
      exact absurd H (by simp)
    ·rw [if_neg c7] at H
     have c7b0 : (t181 == 0) = false := beq_eq_false_iff_ne.mpr c7
     have c7b1 : (t181 != 0) = true := bne_iff_ne.mpr c7
     have H' := Aside0.mk H
     clear H
     go_wp2_with (first | ((with_reducible refine gate_callee (f := 105) rfl ?_); refine goesL_ (some 15) rfl rfl Try.func105 (by kernel_rfl) rfl #[.pointer (some ⟨g0, 0, none⟩), .int .i64 a1, .int .i64 x6_1] rfl (by first | rfl | (simp only [List.map_toArray, List.map_cons, List.map_nil]; done) | (simp only [List.map_toArray, List.map_cons, List.map_nil]; rfl)) ?_; (with_reducible refine (spec_l05Reason.calls k1 g0 a0_0 A0_1 c0_1 l0_1 A0_2 c0_2 l0_2 a0_3 a0_4 A0_5 c0_5 l0_5 a1 x6_1 t181 _ ?side1 ?side2 ?side3 ?side4 ?side5 ?side6 ?side7 A6.out).mono ?_); (case side1 => exact blk_below HBP0.out (by repeat (first | (with_reducible first | exact HB.out | apply below_alloc | apply pw_below_drewN | apply below_drew1 | refine below_set ?_ GE177.out) | exact HB.out))); (case side2 => exact (Kd.C_below HR0_1.out HB.out)); (case side3 => exact HC0_1.out); (case side4 => exact (Kd.C_below HR0_2.out HB.out)); (case side5 => exact HC0_2.out); (case side6 => exact (Kd.C_below HR0_5.out HB.out)); (case side7 => exact HC0_5.out); rintro e w' ⟨rfl, ⟨nd, rfl⟩⟩; refine ⟨_, rfl, ?_⟩))
     go_roundg k1
     case measure => have := HK1.out; omega
     case rel => exact ⟨(x5_1), (wrap64 (x6_1 + 1)), (by first | rfl | (simp; done) | (simp [*]; done)), H', ⟨by have := HK1.out; omega⟩, ⟨by (with_reducible repeat (first | apply Kd.R_alloc | apply Kd.R_drewN | apply Kd.R_drew)); exact HO_5.out⟩, ⟨by exact blk_below HBP0.out (by repeat (first | (with_reducible first | exact HB.out | apply below_alloc | apply pw_below_drewN | apply below_drew1 | refine below_set ?_ GE177.out) | exact HB.out))⟩, ⟨by repeat (first | (with_reducible first | exact HB.out | apply below_alloc | apply pw_below_drewN | apply below_drew1 | refine below_set ?_ GE177.out) | exact HB.out)⟩⟩
   ·rw [if_neg c5] at H
    have c5b0 : decide (x6_1 ≤ 23) = false := decide_eq_false c5
    clear c5
    obtain rfl := Option.some.inj H
    go_wp2
    go_ret
    exact ⟨_, by first | rfl | (simp [errW_none, errW_some] <;> rfl) | (simp [*, errW_none, errW_some] <;> rfl), by (with_reducible repeat (first | apply Kd.R_alloc | apply Kd.R_drewN | apply Kd.R_drew)); exact HO_5.out, by repeat (first | (with_reducible first | exact HB.out | apply below_alloc | apply pw_below_drewN | apply below_drew1 | refine below_set ?_ GE177.out) | exact HB.out)⟩
/-! ### spec_l13In: function 111 -/
def spec_l13In.l0 : Nat → List Int → Int → Int → List Int → Int → Option (List Int)
  | 0, _, _, _, _, _ => none
  | k + 1, x0, x1, x2, x7, x8 => if x8 < (x0.length : Int) then (if 0 ≤ x8 then ((spec_l00In.f (rd x0 x8) x1 x2).bind fun t160 => (if t160 = true then (if x7.length < 17592186044416 then (spec_l13In.l0 k x0 x1 x2 (x7 ++ [rd x0 x8]) (wrap64 (x8 + 1))) else (none)) else (spec_l13In.l0 k x0 x1 x2 x7 (wrap64 (x8 + 1))))) else (none)) else (some x7)
def spec_l13In.f (k : Nat) (l0 : List Int) (a1 : Int) (a2 : Int) : Option (List Int) := spec_l13In.l0 k l0 a1 a2 (([] : List Int)) 0
theorem spec_l13In.mono_l : ∀ k, (∀ y0 y1 y2 y3 y4, LeO (spec_l13In.l0 k y0 y1 y2 y3 y4) (spec_l13In.l0 (k + 1) y0 y1 y2 y3 y4))
  | 0 => fun _ _ _ _ _ r h => by simp [spec_l13In.l0] at h
  | k + 1 => by
    have ih0 := spec_l13In.mono_l k
    · intro y0 y1 y2 y3 y4
      unfold spec_l13In.l0
      repeat' first
      | (with_reducible exact ih0 _ _ _ _ _)
      | (with_reducible exact LeO.refl _)
      | (with_reducible exact LeO.none _)
      | (with_reducible refine LeO.ite ?_ ?_)
      | (with_reducible refine LeO.bind ?_ (fun _ => ?_))
      | exact ih0 _ _ _ _ _
      | exact LeO.none _
      | refine LeO.ite ?_ ?_
      | refine LeO.bind ?_ (fun _ => ?_)
theorem spec_l13In.mono : ∀ a0 a1 a2 k, LeO (spec_l13In.f k a0 a1 a2) (spec_l13In.f (k + 1) a0 a1 a2) := by
  intro a0 a1 a2 k
  have ih0 := spec_l13In.mono_l k
  unfold spec_l13In.f
  repeat' first
      | (with_reducible exact ih0 _ _ _ _ _)
      | (with_reducible exact LeO.refl _)
      | (with_reducible exact LeO.none _)
      | (with_reducible refine LeO.ite ?_ ?_)
      | (with_reducible refine LeO.bind ?_ (fun _ => ?_))
      | exact ih0 _ _ _ _ _
      | exact LeO.none _
      | refine LeO.ite ?_ ?_
      | refine LeO.bind ?_ (fun _ => ?_)
set_option maxHeartbeats 8000000 in
set_option maxRecDepth 100000 in
theorem spec_l13In.calls (k : Nat) (A0 : Option Addr) (c0 : Nat) (l0 : List Int) (a1 : Int) (a2 : Int) (r : List Int) (w : World) (hr0 : Kd.C (Kd.int .i64) w A0 l0.length l0) (hc0 : l0.length ≤ c0) (h : spec_l13In.f k l0 a1 a2 = some r) :
    Calls Try.prog 111 #[.slice A0 l0.length c0, .int .i64 a1, .int .i64 a2] w fun e w' => ∃ v0_ : Value, e = .returned (v0_) ∧ Kd.R (Kd.int .i64) 2 w' w.heap.size (fun _ => True) v0_ r ∧ Below w.heap.size w w' := by
  have HR0 := Aside0.mk hr0
  have HC0 := Aside0.mk hc0
  clear hr0 hc0
  have HB := Aside0.mk (Below.refl w.heap.size w)
  have H : (spec_l13In.l0 k l0 a1 a2 (([] : List Int)) 0) = some r := h
  clear h
  obtain ⟨y156, hy156⟩ : ∃ y_ : List Int, y_ = (([] : List Int)) := ⟨_, rfl⟩
  replace H : (spec_l13In.l0 k l0 a1 a2 y156 0) = some r := by first | (rw [hy156]; with_reducible exact H) | (have H2_ := (Option.bind_some _ _).symm.trans H; rw [hy156]; with_reducible exact H2_) | (have H2_ := (Option.bind_some _ _).symm.trans H; with_reducible exact H2_) | with_reducible exact H | (rw [hy156]; exact H) | exact H
  have Ny156 := Aside0.mk hy156
  clear hy156
  have H' := Aside0.mk H
  clear H
  go_enter Try.func111, Try.ntmps111
  go_wp2_with (first | ((with_reducible refine gate_dst (N := 9) rfl ?_); refine Kd.R_lit (Kd.int .i64) _ 2 ?hg (N := 9) ?hd (xs := ([] : List Int)) (inner := []) (ok := fun _ => True) (okp := fun _ => True) ?hr ?hp (fun _ hk => hk) trivial (Below.refl _ _) (Nat.le_refl _) (by simp) ?_; (case hd => rfl); (case hg => rfl); (case hr => first | (go_simp; done) | (go_simp; rfl)); (case hp => exact (Reps.none _ _)); intro v157 w4 ho5 hb hg_ hnew_; clear hg_ hnew_; (first | rw [← Ny156.out] at ho5 | (simp only [Int.reduceToNat] at ho5; rw [← Ny156.out] at ho5)); have n0_ := Aside0.mk (Kd.R_lower ho5 (below_size (by repeat (first | (with_reducible first | exact HB.out | apply below_alloc | apply pw_below_drewN | apply below_drew1) | exact HB.out)))); have n1_ := Aside0.mk (below_step (by repeat (first | (with_reducible first | exact HB.out | apply below_alloc | apply pw_below_drewN | apply below_drew1) | exact HB.out)) hb); clear HB; have HO158 := n0_; have HB := n1_; clear n0_ n1_; clear hb ho5))
  go_loopg [7, 8] k (fun kq v7 v8 w' => ∃ (x7_1 : List Int) (x8_1 : Int), v8 = .int .i64 x8_1 ∧ Aside0 (spec_l13In.l0 kq l0 a1 a2 x7_1 x8_1 = some r) ∧ Aside0 (kq ≤ k) ∧ Aside0 (Kd.R (Kd.int .i64) 2 w' w.heap.size (fun _ => True) v7 x7_1) ∧ Aside0 (Below w.heap.size w w'))
  case atStart => exact ⟨(y156), (0), (by first | rfl | (simp; done) | (simp [*]; done)), H', ⟨Nat.le_refl _⟩, ⟨by (with_reducible repeat (first | apply Kd.R_alloc | apply Kd.R_drewN | apply Kd.R_drew)); exact HO158.out⟩, ⟨by repeat (first | (with_reducible first | exact HB.out | apply below_alloc | apply pw_below_drewN | apply below_drew1) | exact HB.out)⟩⟩
  case round =>
    clear H'
    try clear c1
    try clear p2
    obtain ⟨x7_1, x8_1, rfl, HA, HK1, HO_7, HB⟩ := hrel
    cases gk with
    | zero => exact absurd HA.out (by simp [spec_l13In.l0])
    | succ k1 =>
      have H := HA.out
      clear HA
      simp only [spec_l13In.l0] at H
      by_cases c6 : x8_1 < (l0.length : Int)
      · rw [if_pos c6] at H
        have c6b0 : decide (x8_1 < (l0.length : Int)) = true := decide_eq_true c6
        clear c6
        by_cases c7 : 0 ≤ x8_1
        · rw [if_pos c7] at H
          have c7b0 : decide (0 ≤ x8_1) = true := decide_eq_true c7
          clear c7
          replace H := Option.bind_eq_some_iff.mp H
          obtain ⟨t160, A80, H⟩ := H
          replace H : (if t160 = true then (if x7_1.length < 17592186044416 then (spec_l13In.l0 k1 l0 a1 a2 (x7_1 ++ [rd l0 x8_1]) (wrap64 (x8_1 + 1))) else (none)) else (spec_l13In.l0 k1 l0 a1 a2 x7_1 (wrap64 (x8_1 + 1)))) = some r := H
          have A8 := Aside0.mk A80
          clear A80
          by_cases c9 : t160 = true
          · subst c9
            have H1 : (if x7_1.length < 17592186044416 then (spec_l13In.l0 k1 l0 a1 a2 (x7_1 ++ [rd l0 x8_1]) (wrap64 (x8_1 + 1))) else (none)) = some r := by rw [if_pos rfl] at H; exact H
            clear H
            have H := H1
            clear H1
            by_cases c10 : x7_1.length < 17592186044416
            · rw [if_pos c10] at H
              have LMc10 := Aside0.mk c10
              clear c10
              obtain ⟨y162, hy162⟩ : ∃ y_ : List Int, y_ = (x7_1 ++ [rd l0 x8_1]) := ⟨_, rfl⟩
              replace H : (spec_l13In.l0 k1 l0 a1 a2 y162 (wrap64 (x8_1 + 1))) = some r := by first | (rw [hy162]; with_reducible exact H) | (have H2_ := (Option.bind_some _ _).symm.trans H; rw [hy162]; with_reducible exact H2_) | (have H2_ := (Option.bind_some _ _).symm.trans H; with_reducible exact H2_) | with_reducible exact H | (rw [hy162]; exact H) | exact H
              have Ny162 := Aside0.mk hy162
              clear hy162
              have H' := Aside0.mk H
              clear H
              have p159 : 0 ≤ (x8_1 : Int) := of_decide_eq_true (by first | (with_reducible assumption) | assumption)
              have q159 : x8_1 < (l0.length : Int) := of_decide_eq_true (by first | (with_reducible assumption) | assumption)
              obtain ⟨ad159, e159, hx159_0⟩ := Kd.at_int HR0.out x8_1 p159 q159
              cases e159
              replace hx159_0 := (HB.out.cell (World.block_lt_of_cell? w _ hx159_0)).trans hx159_0
              replace p159 := eq_true p159
              replace q159 := eq_true q159
              go_wp2_with (first | ((with_reducible refine gate_callee (f := 58) rfl ?_); refine goesL_ (some 22) rfl rfl Try.func58 (by kernel_rfl) rfl #[.int .i64 (rd l0 x8_1), .int .i64 a1, .int .i64 a2] rfl (by (try simp only [List.map_toArray, List.map_cons, List.map_nil]); first | done | rfl | (simp only [List.length_drop, List.length_take]; rfl)) ?_; (with_reducible refine (spec_l00In.calls (rd l0 x8_1) a1 a2 true _ A8.out).mono ?_); rintro e w' ⟨rfl, ⟨nd, rfl⟩⟩; refine ⟨_, rfl, ?_⟩; have p161 : 0 ≤ (x8_1 : Int) := of_decide_eq_true (by first | (with_reducible assumption) | assumption); have q161 : x8_1 < (l0.length : Int) := of_decide_eq_true (by first | (with_reducible assumption) | assumption); obtain ⟨ad161, e161, hx161_0⟩ := Kd.at_int HR0.out x8_1 p161 q161; obtain rfl : ad159 = ad161 := (by injection e161); replace hx161_0 := (HB.out.cell (World.block_lt_of_cell? w _ hx161_0)).trans hx161_0; replace p161 := eq_true p161; replace q161 := eq_true q161) | ((with_reducible refine gate_builtin (b := .append) (xs := #[.tmp 23, .tmp 28]) rfl ?_); at_builtin; refine Kd.R_append (Kd.int .i64) (w0 := w) w.heap.size rfl (.tmp 23) (.tmp 28) 22 2 (.int .i64 0) 8 rfl Try.underlying22 info2 rfl (by decide) (by omega) u7 x7_1 (rd l0 x8_1) [.int .i64 (rd l0 x8_1)] (fun _ => True) (fun _ => False) rfl rfl ?aP (fun _ hk => hk.elim) ?aF ?aO ?aB ?aS ?aL ?_; (case aP => exact rfl); (case aB => exact (by repeat (first | (with_reducible first | exact HB.out | apply below_alloc | apply pw_below_drewN | apply below_drew1) | exact HB.out))); (case aF => exact (fun _ _ => trivial)); (case aO => exact (by (with_reducible repeat (first | apply Kd.R_alloc | apply Kd.R_drewN | apply Kd.R_drew)); exact HO_7.out)); (case aS => exact (below_size (by repeat (first | (with_reducible first | exact HB.out | apply below_alloc | apply pw_below_drewN | apply below_drew1) | exact HB.out)))); (case aL => have := LMc10.out; omega); intro v163 w11 ho hb hg hat; rw [← Ny162.out] at ho; have n0_ := Aside0.mk (hb); have n1_ := Aside0.mk (ho); clear HB; clear HO_7; have HB := n0_; have HO164 := n1_; clear n0_ n1_; clear ho hb hg hat))
              go_roundg k1
              case measure => have := HK1.out; omega
              case rel => exact ⟨(y162), (wrap64 (x8_1 + 1)), (by first | rfl | (simp; done) | (simp [*]; done)), H', ⟨by have := HK1.out; omega⟩, ⟨by (with_reducible repeat (first | apply Kd.R_alloc | apply Kd.R_drewN | apply Kd.R_drew)); exact HO164.out⟩, ⟨by repeat (first | (with_reducible first | exact HB.out | apply below_alloc | apply pw_below_drewN | apply below_drew1) | exact HB.out)⟩⟩
            · rw [if_neg c10] at H
              exact absurd H (by simp)
          · replace c9 := Bool.eq_false_iff.mpr c9
            subst c9
            have H1 : (spec_l13In.l0 k1 l0 a1 a2 x7_1 (wrap64 (x8_1 + 1))) = some r := by rw [if_neg (show ¬ (false = true) by decide)] at H; exact H
            clear H
            have H := H1
            clear H1
            have H' := Aside0.mk H
            clear H
            have p159 : 0 ≤ (x8_1 : Int) := of_decide_eq_true (by first | (with_reducible assumption) | assumption)
            have q159 : x8_1 < (l0.length : Int) := of_decide_eq_true (by first | (with_reducible assumption) | assumption)
            obtain ⟨ad159, e159, hx159_0⟩ := Kd.at_int HR0.out x8_1 p159 q159
            cases e159
            replace hx159_0 := (HB.out.cell (World.block_lt_of_cell? w _ hx159_0)).trans hx159_0
            replace p159 := eq_true p159
            replace q159 := eq_true q159
            go_wp2_with (first | ((with_reducible refine gate_callee (f := 58) rfl ?_); refine goesL_ (some 22) rfl rfl Try.func58 (by kernel_rfl) rfl #[.int .i64 (rd l0 x8_1), .int .i64 a1, .int .i64 a2] rfl (by (try simp only [List.map_toArray, List.map_cons, List.map_nil]); first | done | rfl | (simp only [List.length_drop, List.length_take]; rfl)) ?_; (with_reducible refine (spec_l00In.calls (rd l0 x8_1) a1 a2 false _ A8.out).mono ?_); rintro e w' ⟨rfl, ⟨nd, rfl⟩⟩; refine ⟨_, rfl, ?_⟩))
            go_roundg k1
            case measure => have := HK1.out; omega
            case rel => exact ⟨(x7_1), (wrap64 (x8_1 + 1)), (by first | rfl | (simp; done) | (simp [*]; done)), H', ⟨by have := HK1.out; omega⟩, ⟨by (with_reducible repeat (first | apply Kd.R_alloc | apply Kd.R_drewN | apply Kd.R_drew)); exact HO_7.out⟩, ⟨by repeat (first | (with_reducible first | exact HB.out | apply below_alloc | apply pw_below_drewN | apply below_drew1) | exact HB.out)⟩⟩
        · rw [if_neg c7] at H
          exact absurd H (by simp)
      · rw [if_neg c6] at H
        have c6b0 : decide (x8_1 < (l0.length : Int)) = false := decide_eq_false c6
        clear c6
        obtain rfl := Option.some.inj H
        go_wp2
        go_ret
        exact ⟨_, by first | rfl | (simp [errW_none, errW_some] <;> rfl) | (simp [*, errW_none, errW_some] <;> rfl), by (with_reducible repeat (first | apply Kd.R_alloc | apply Kd.R_drewN | apply Kd.R_drew)); exact HO_7.out, by repeat (first | (with_reducible first | exact HB.out | apply below_alloc | apply pw_below_drewN | apply below_drew1) | exact HB.out)⟩
/-! ### spec_l13Next: function 117 -/
def spec_l13Next.f (a0 : Int) : Option (Int) := some (Int.tmod (wrap64 ((wrap64 (a0 * 7141)) + 54773)) 1000000)
set_option maxHeartbeats 8000000 in
set_option maxRecDepth 100000 in
theorem spec_l13Next.calls (a0 : Int) (r : Int) (w : World) (h : spec_l13Next.f a0 = some r) :
  Calls Try.prog 117 #[.int .i64 a0] w fun e w' => e = .returned (.int .i64 r) ∧ Drawn0 w w' := by
 have H : (some (Int.tmod (wrap64 ((wrap64 (a0 * 7141)) + 54773)) 1000000)) = some r := h
 clear h
 obtain rfl := Option.some.inj H
 go_enter Try.func117, Try.ntmps117
 go_wp2
 go_ret
 exact ⟨by first | rfl | (simp; done) | (simp [*]; done), by repeat (first | exact Drawn0.refl _ | apply Drawn0.step)⟩
/-! ### spec_l13Pick: function 67 -/
def spec_l13Pick.f (a0 : Int) (a1 : Int) : Option (Int × Int) := (spec_l13Next.f a0).bind fun t155 => (some (wrap64 (Int.tdiv (wrap64 (t155 * a1)) 1000000), t155))
set_option maxHeartbeats 8000000 in
set_option maxRecDepth 100000 in
theorem spec_l13Pick.calls (a0 : Int) (a1 : Int) (r1 : Int) (r2 : Int) (w : World) (h : spec_l13Pick.f a0 a1 = some (r1, r2)) :
  Calls Try.prog 67 #[.int .i64 a0, .int .i64 a1] w fun e w' => e = .returned (.tuple #[.int .i64 r1, .int .i64 r2]) ∧ Drawn0 w w' := by
 have H : ((spec_l13Next.f a0).bind fun t155 => (some (wrap64 (Int.tdiv (wrap64 (t155 * a1)) 1000000), t155))) = some (r1, r2) := h
 clear h
 replace H := Option.bind_eq_some_iff.mp H
 obtain ⟨t155, A30, H⟩ := H
 replace H : (some (wrap64 (Int.tdiv (wrap64 (t155 * a1)) 1000000), t155)) = some (r1, r2) := H
 have A3 := Aside0.mk A30
 clear A30
 simp only [Option.some.injEq, Prod.mk.injEq] at H
 obtain ⟨rfl, rfl⟩ := H
 go_enter Try.func67, Try.ntmps67
 go_wp2_with (first | ((with_reducible refine gate_callee (f := 117) rfl ?_); refine goesL_ (some 8) rfl rfl Try.func117 (by kernel_rfl) rfl #[.int .i64 a0] rfl (by first | rfl | (simp only [List.map_toArray, List.map_cons, List.map_nil]; done) | (simp only [List.map_toArray, List.map_cons, List.map_nil]; rfl)) ?_; (with_reducible refine (spec_l13Next.calls a0 t155 _ A3.out).mono ?_); rintro e w' ⟨rfl, ⟨nd, rfl⟩⟩; refine ⟨_, rfl, ?_⟩))
 go_ret2
 exact ⟨by first | rfl | (simp; done) | (simp [*]; done), by repeat (first | exact Drawn0.refl _ | apply Drawn0.step)⟩
/-! ### spec_l13Grow: function 61 -/
def spec_l13Grow.l0 : Nat → Int → List Int → Int → Int → Int → Int → ByteArray → List Int → List Int → Int → Int → List (List Int) → Option (List Int × Int × Bool)
 | 0, _, _, _, _, _, _, _, _, _, _, _, _ => none
 | k + 1, x1, x2, x3, x4, x5, x15, x186000, x186001, x186002, x186003, x186004, x186005 => if x15 < x3 then (if 0 ≤ (wrap64 ((x2.length : Int) - 1)) then (if (wrap64 ((x2.length : Int) - 1)) < (x2.length : Int) then ((spec_l05Next.f k x186000 x186001 x186002 x186003 x186004 x186005 (rd x2 (wrap64 ((x2.length : Int) - 1)))).bind fun t187 => ((spec_l13In.f k t187 x4 x5).bind fun t190 => (if (t190.length : Int) = 0 then (some (([] : List Int), 0, false)) else ((spec_l13Pick.f x1 (t190.length : Int)).bind fun bt193 => (if 0 ≤ bt193.1 then (if bt193.1 < (t190.length : Int) then (if x2.length < 17592186044416 then (spec_l13Grow.l0 k bt193.2 (x2 ++ [rd t190 bt193.1]) x3 x4 x5 (wrap64 (x15 + 1)) x186000 x186001 x186002 x186003 x186004 x186005) else (none)) else (none)) else (none)))))) else (none)) else (none)) else (some (x2, x1, true))
def spec_l13Grow.f (k : Nat) (a0_0 : ByteArray) (l0_1 : List Int) (l0_2 : List Int) (a0_3 : Int) (a0_4 : Int) (l0_5 : List (List Int)) (a1 : Int) (l2 : List Int) (a3 : Int) (a4 : Int) (a5 : Int) : Option (List Int × Int × Bool) := spec_l13Grow.l0 k a1 l2 a3 a4 a5 0 a0_0 l0_1 l0_2 a0_3 a0_4 l0_5
theorem spec_l13Grow.mono_l : ∀ k, (∀ y0 y1 y2 y3 y4 y5 y6 y7 y8 y9 y10 y11, LeO (spec_l13Grow.l0 k y0 y1 y2 y3 y4 y5 y6 y7 y8 y9 y10 y11) (spec_l13Grow.l0 (k + 1) y0 y1 y2 y3 y4 y5 y6 y7 y8 y9 y10 y11))
 | 0 => fun _ _ _ _ _ _ _ _ _ _ _ _ r h => by simp [spec_l13Grow.l0] at h
 | k + 1 => by
  have ih0 := spec_l13Grow.mono_l k
  ·intro y0 y1 y2 y3 y4 y5 y6 y7 y8 y9 y10 y11
   unfold spec_l13Grow.l0
   repeat' first
   | (with_reducible exact ih0 _ _ _ _ _ _ _ _ _ _ _ _)
   | (with_reducible exact spec_l05Next.mono _ _ _ _ _ _ _ _)
   | (with_reducible exact spec_l13In.mono _ _ _ _)
   | (with_reducible exact LeO.refl _)
   | (with_reducible exact LeO.none _)
   | (with_reducible refine LeO.ite ?_ ?_)
   | (with_reducible refine LeO.bind ?_ (fun _ => ?_))
   | exact ih0 _ _ _ _ _ _ _ _ _ _ _ _
   | exact spec_l05Next.mono _ _ _ _ _ _ _ _
   | exact spec_l13In.mono _ _ _ _
   | exact LeO.none _
   | refine LeO.ite ?_ ?_
   | refine LeO.bind ?_ (fun _ => ?_)
theorem spec_l13Grow.mono : ∀ a0 a1 a2 a3 a4 a5 a6 a7 a8 a9 a10 k, LeO (spec_l13Grow.f k a0 a1 a2 a3 a4 a5 a6 a7 a8 a9 a10) (spec_l13Grow.f (k + 1) a0 a1 a2 a3 a4 a5 a6 a7 a8 a9 a10) := by
 intro a0 a1 a2 a3 a4 a5 a6 a7 a8 a9 a10 k
 have ih0 := spec_l13Grow.mono_l k
 unfold spec_l13Grow.f
 repeat' first
   | (with_reducible exact ih0 _ _ _ _ _ _ _ _ _ _ _ _)
   | (with_reducible exact spec_l05Next.mono _ _ _ _ _ _ _ _)
   | (with_reducible exact spec_l13In.mono _ _ _ _)
   | (with_reducible exact LeO.refl _)
   | (with_reducible exact LeO.none _)
   | (with_reducible refine LeO.ite ?_ ?_)
   | (with_reducible refine LeO.bind ?_ (fun _ => ?_))
   | exact ih0 _ _ _ _ _ _ _ _ _ _ _ _
   | exact spec_l05Next.mono _ _ _ _ _ _ _ _
   | exact spec_l13In.mono _ _ _ _
   | exact LeO.none _
   | refine LeO.ite ?_ ?_
   | refine LeO.bind ?_ (fun _ => ?_)
set_option maxHeartbeats 8000000 in
set_option maxRecDepth 100000 in
theorem spec_l13Grow.calls (k : Nat) (g0 : Nat) (a0_0 : ByteArray) (A0_1 : Option Addr) (c0_1 : Nat) (l0_1 : List Int) (A0_2 : Option Addr) (c0_2 : Nat) (l0_2 : List Int) (a0_3 : Int) (a0_4 : Int) (A0_5 : Option Addr) (c0_5 : Nat) (l0_5 : List (List Int)) (a1 : Int) (P2_ : Nat → Prop) (u9000_ : Value) (l2 : List Int) (a3 : Int) (a4 : Int) (a5 : Int) (r1 : List Int) (r2 : Int) (r3 : Bool) (w0 w : World) (hB : Below w0.heap.size w0 w) (hp0 : w.heap[g0]? = some (.cells #[.string a0_0, .slice A0_1 l0_1.length c0_1, .slice A0_2 l0_2.length c0_2, .int .i64 a0_3, .int .i64 a0_4, .slice A0_5 l0_5.length c0_5] 29 (0, 0))) (hr0_1 : ∀ W_, Kept w W_ (fun k_ => P2_ k_) → Kd.C (Kd.int .i64) W_ A0_1 l0_1.length l0_1) (hc0_1 : l0_1.length ≤ c0_1) (hr0_2 : ∀ W_, Kept w W_ (fun k_ => P2_ k_) → Kd.C (Kd.int .i64) W_ A0_2 l0_2.length l0_2) (hc0_2 : l0_2.length ≤ c0_2) (hr0_5 : ∀ W_, Kept w W_ (fun k_ => P2_ k_) → Kd.C (Kd.slice 2 (Kd.int .i64)) W_ A0_5 l0_5.length l0_5) (hc0_5 : l0_5.length ≤ c0_5) (ho2 : Kd.R (Kd.int .i64) 2 w w0.heap.size P2_ u9000_ l2) (h : spec_l13Grow.f k a0_0 l0_1 l0_2 a0_3 a0_4 l0_5 a1 l2 a3 a4 a5 = some (r1, r2, r3)) :
  Calls Try.prog 61 #[.pointer (some ⟨g0, 0, none⟩), .int .i64 a1, u9000_, .int .i64 a3, .int .i64 a4, .int .i64 a5] w fun e w' => ∃ v0_ : Value, e = .returned (.tuple #[v0_, .int .i64 r2, .bool r3]) ∧ Kd.R (Kd.int .i64) 2 w' w0.heap.size (fun k_ => (P2_ k_ ∨ w.heap.size ≤ k_)) v0_ r1 ∧ Below w0.heap.size w0 w' ∧ Kept w w' (fun k_ => P2_ k_) := by
 have HR0_1 := Aside0.mk hr0_1
 have HC0_1 := Aside0.mk hc0_1
 clear hr0_1 hc0_1
 have HR0_2 := Aside0.mk hr0_2
 have HC0_2 := Aside0.mk hc0_2
 clear hr0_2 hc0_2
 have HR0_5 := Aside0.mk hr0_5
 have HC0_5 := Aside0.mk hc0_5
 clear hr0_5 hc0_5
 have HO2 := Aside0.mk (show Kd.R (Kd.int .i64) 2 w w0.heap.size (fun k_ => (P2_ k_ ∨ w.heap.size ≤ k_)) u9000_ l2 from Kd.R_mono ho2 (fun k_ hk => (.inl hk)))
 have HK := Aside0.mk (Kept.refl w (fun k_ => P2_ k_))
 have HW0 := Aside0.mk hB.size
 have HB := Aside0.mk hB
 clear hB
 have HBX0 := Aside0.mk hp0
 have HBP0 := Aside0.mk hp0
 clear hp0
 have H : (spec_l13Grow.l0 k a1 l2 a3 a4 a5 0 a0_0 l0_1 l0_2 a0_3 a0_4 l0_5) = some (r1, r2, r3) := h
 clear h
 have H' := Aside0.mk H
 clear H
 go_enter Try.func61, Try.ntmps61
 go_wp2
 go_loopg [1, 2, 15] k (fun kq v1 v2 v15 w' => ∃ (x1_1 : Int) (x2_1 : List Int) (x15_1 : Int), v1 = .int .i64 x1_1 ∧ v15 = .int .i64 x15_1 ∧ Aside0 (spec_l13Grow.l0 kq x1_1 x2_1 a3 a4 a5 x15_1 a0_0 l0_1 l0_2 a0_3 a0_4 l0_5 = some (r1, r2, r3)) ∧ Aside0 (kq ≤ k) ∧ Aside0 (Kd.R (Kd.int .i64) 2 w' w0.heap.size (fun k_ => (P2_ k_ ∨ w.heap.size ≤ k_)) v2 x2_1) ∧ Aside0 (w'.heap[g0]? = some (.cells #[.string a0_0, (.slice A0_1 l0_1.length c0_1), (.slice A0_2 l0_2.length c0_2), .int .i64 a0_3, .int .i64 a0_4, (.slice A0_5 l0_5.length c0_5)] 29 (0, 0))) ∧ Aside0 (Kept w w' (fun k_ => P2_ k_)) ∧ Aside0 (Below w0.heap.size w0 w'))
 case atStart => exact ⟨(a1), (l2), (0), (by first | rfl | (simp; done) | (simp [*]; done)), (by first | rfl | (simp; done) | (simp [*]; done)), H', ⟨Nat.le_refl _⟩, ⟨by (with_reducible repeat (first | apply Kd.R_alloc | apply Kd.R_drewN | apply Kd.R_drew)); exact HO2.out⟩, ⟨by (with_reducible repeat (first | refine blk_drewN ?_ _ | refine blk_drew ?_ | refine blk_alloc ?_ _)); exact HBX0.out⟩, ⟨by repeat (first | (with_reducible first | exact HK.out | apply Kept.alloc | apply Kept.drewN | apply Kept.drew | refine Kept.setCell ?_ (.inr GW185.out) _) | exact HK.out)⟩, ⟨by repeat (first | (with_reducible first | exact HB.out | apply below_alloc | apply pw_below_drewN | apply below_drew1 | refine below_set ?_ GE185.out) | exact HB.out)⟩⟩
 case round =>
  clear H'
  try clear p2
  try clear c6
  obtain ⟨x1_1, x2_1, x15_1, rfl, rfl, HA, HK1, HO_2, HBX0, HK, HB⟩ := hrel
  cases gk with
  | zero => exact absurd HA.out (by simp [spec_l13Grow.l0])
  | succ k1 =>
   have H := HA.out
   clear HA
   simp only [spec_l13Grow.l0] at H
   by_cases c7 : x15_1 < a3
   ·rw [if_pos c7] at H
    have c7b0 : decide (x15_1 < a3) = true := decide_eq_true c7
    clear c7
    obtain ⟨ji8, hji8⟩ : ∃ j_ : Int, (wrap64 ((x2_1.length : Int) - 1)) = j_ := ⟨_, rfl⟩
    replace H : (if 0 ≤ (ji8) then (if (ji8) < (x2_1.length : Int) then ((spec_l05Next.f k1 a0_0 l0_1 l0_2 a0_3 a0_4 l0_5 (rd x2_1 (ji8))).bind fun t187 => ((spec_l13In.f k1 t187 a4 a5).bind fun t190 => (if (t190.length : Int) = 0 then (some (([] : List Int), 0, false)) else ((spec_l13Pick.f x1_1 (t190.length : Int)).bind fun bt193 => (if 0 ≤ bt193.1 then (if bt193.1 < (t190.length : Int) then (if x2_1.length < 17592186044416 then (spec_l13Grow.l0 k1 bt193.2 (x2_1 ++ [rd t190 bt193.1]) a3 a4 a5 (wrap64 (x15_1 + 1)) a0_0 l0_1 l0_2 a0_3 a0_4 l0_5) else (none)) else (none)) else (none)))))) else (none)) else (none)) = some (r1, r2, r3) := by first | (rw [hji8] at H; exact H) | (simp only [hji8] at H ⊢; exact H)
    have hji8w : (IntKind.i64.wrap ((x2_1.length : Int) - 1)) = ji8 := (i64_w _).trans hji8
    by_cases c9 : 0 ≤ (ji8)
    ·rw [if_pos c9] at H
     have c9b0 : decide (0 ≤ (ji8)) = true := decide_eq_true c9
     clear c9
     by_cases c10 : (ji8) < (x2_1.length : Int)
     ·rw [if_pos c10] at H
      have c10b0 : decide ((ji8) < (x2_1.length : Int)) = true := decide_eq_true c10
      clear c10
      replace H := Option.bind_eq_some_iff.mp H
      obtain ⟨t187, A110, H⟩ := H
      replace H : ((spec_l13In.f k1 t187 a4 a5).bind fun t190 => (if (t190.length : Int) = 0 then (some (([] : List Int), 0, false)) else ((spec_l13Pick.f x1_1 (t190.length : Int)).bind fun bt193 => (if 0 ≤ bt193.1 then (if bt193.1 < (t190.length : Int) then (if x2_1.length < 17592186044416 then (spec_l13Grow.l0 k1 bt193.2 (x2_1 ++ [rd t190 bt193.1]) a3 a4 a5 (wrap64 (x15_1 + 1)) a0_0 l0_1 l0_2 a0_3 a0_4 l0_5) else (none)) else (none)) else (none))))) = some (r1, r2, r3) := H
      have A11 := Aside0.mk A110
      clear A110
      replace H := Option.bind_eq_some_iff.mp H
      obtain ⟨t190, A120, H⟩ := H
      replace H : (if (t190.length : Int) = 0 then (some (([] : List Int), 0, false)) else ((spec_l13Pick.f x1_1 (t190.length : Int)).bind fun bt193 => (if 0 ≤ bt193.1 then (if bt193.1 < (t190.length : Int) then (if x2_1.length < 17592186044416 then (spec_l13Grow.l0 k1 bt193.2 (x2_1 ++ [rd t190 bt193.1]) a3 a4 a5 (wrap64 (x15_1 + 1)) a0_0 l0_1 l0_2 a0_3 a0_4 l0_5) else (none)) else (none)) else (none)))) = some (r1, r2, r3) := H
      have A12 := Aside0.mk A120
      clear A120
      by_cases c13 : (t190.length : Int) = 0
      ·rw [if_pos c13] at H
       have c13b0 : ((t190.length : Int) == 0) = true := beq_iff_eq.mpr c13
       have c13b1 : ((t190.length : Int) != 0) = false := bne_eq_false_iff_eq.mpr c13
       clear c13
       simp only [Option.some.injEq, Prod.mk.injEq] at H
       obtain ⟨rfl, rfl, rfl⟩ := H
       obtain ⟨Ao14, co14, eo14⟩ := Kd.R_slice HO_2.out
       subst eo14
       have p186 : 0 ≤ ((ji8) : Int) := of_decide_eq_true (by assumption)
       have q186 : (ji8) < (x2_1.length : Int) := of_decide_eq_true (by assumption)
       obtain ⟨ad186, e186, hx186_0⟩ := Kd.at_int (Kd.R_reads' HO_2.out).2.2 (ji8) p186 q186
       cases e186
       replace p186 := eq_true p186
       replace q186 := eq_true q186
       go_wp2_with (first | ((with_reducible refine gate_callee (f := 112) rfl ?_); refine goesL_ (some 31) rfl rfl Try.func112 (by kernel_rfl) rfl #[.pointer (some ⟨g0, 0, none⟩), .int .i64 (rd x2_1 (ji8))] rfl (by (try simp only [List.map_toArray, List.map_cons, List.map_nil]); first | done | (simp only [hji8]; rfl) | rfl | (simp only [List.length_drop, List.length_take]; rfl)) ?_; (with_reducible refine (spec_l05Next.calls k1 g0 a0_0 A0_1 c0_1 l0_1 A0_2 c0_2 l0_2 a0_3 a0_4 A0_5 c0_5 l0_5 (rd x2_1 (ji8)) t187 _ ?side1 ?side2 ?side3 ?side4 ?side5 ?side6 ?side7 A11.out).mono ?_); (case side1 => (with_reducible repeat (first | refine blk_drewN ?_ _ | refine blk_drew ?_ | refine blk_alloc ?_ _)); exact HBX0.out); (case side2 => exact Kd.C_kept_now HR0_1.out (by repeat (first | (with_reducible first | exact HK.out | apply Kept.alloc | apply Kept.drewN | apply Kept.drew | refine Kept.setCell ?_ (.inr GW185.out) _) | exact HK.out))); (case side3 => exact HC0_1.out); (case side4 => exact Kd.C_kept_now HR0_2.out (by repeat (first | (with_reducible first | exact HK.out | apply Kept.alloc | apply Kept.drewN | apply Kept.drew | refine Kept.setCell ?_ (.inr GW185.out) _) | exact HK.out))); (case side5 => exact HC0_2.out); (case side6 => exact Kd.C_kept_now HR0_5.out (by repeat (first | (with_reducible first | exact HK.out | apply Kept.alloc | apply Kept.drewN | apply Kept.drew | refine Kept.setCell ?_ (.inr GW185.out) _) | exact HK.out))); (case side7 => exact HC0_5.out); rintro e w15 ⟨v188, rfl, ho0, hb⟩; refine ⟨_, rfl, ?_⟩; have n0_ := Aside0.mk (Kd.R_elder' (by (with_reducible repeat (first | apply Kd.R_alloc | apply Kd.R_drewN | apply Kd.R_drew)); exact HO_2.out) (Kd.R_base ho0) hb); have n1_ := Aside0.mk (Kd.R_lower (Kd.R_new' (Kd.R_newM (M := fun k_ => (P2_ k_ ∨ w.heap.size ≤ k_)) ho0 (by first | exact HK.out.1 | exact (show Kept w _ (fun k_ => P2_ k_) from by repeat (first | (with_reducible first | exact HK.out | apply Kept.alloc | apply Kept.drewN | apply Kept.drew | refine Kept.setCell ?_ (.inr GW185.out) _) | exact HK.out)).1) (fun k_ h_ => .inr h_)) (Kd.R_lt (by (with_reducible repeat (first | apply Kd.R_alloc | apply Kd.R_drewN | apply Kd.R_drew)); exact HO_2.out))) (below_size (by repeat (first | (with_reducible first | exact HB.out | apply below_alloc | apply pw_below_drewN | apply below_drew1 | refine below_set ?_ GE185.out) | exact HB.out)))); have n2_ := Aside0.mk (blk_below (g := g0) (o := .cells #[.string a0_0, .slice A0_1 l0_1.length c0_1, .slice A0_2 l0_2.length c0_2, .int .i64 a0_3, .int .i64 a0_4, .slice A0_5 l0_5.length c0_5] 29 (0, 0)) (by repeat first | exact HBX0.out | refine blk_drewN ?_ _ | refine blk_drew ?_ | refine blk_alloc ?_ _) hb); have n3_ := Aside0.mk (Kept.below (S := (fun k_ => P2_ k_)) (by repeat (first | (with_reducible first | exact HK.out | apply Kept.alloc | apply Kept.drewN | apply Kept.drew | refine Kept.setCell ?_ (.inr GW185.out) _) | exact HK.out)) hb); have n4_ := Aside0.mk (below_step (by repeat (first | (with_reducible first | exact HB.out | apply below_alloc | apply pw_below_drewN | apply below_drew1 | refine below_set ?_ GE185.out) | exact HB.out)) hb); clear HO_2; clear HBX0; clear HK; clear HB; have HO_2 := n0_; have HO189 := n1_; have HBX0 := n2_; have HK := n3_; have HB := n4_; clear n0_ n1_ n2_ n3_ n4_; (try clear hb); (try clear hb2); (try clear hk); (try clear hi); (try clear ho0); obtain ⟨Ao16, co16, eo16⟩ := Kd.R_slice HO189.out; subst eo16) | ((with_reducible refine gate_callee (f := 111) rfl ?_); refine goesL_ (some 34) rfl rfl Try.func111 (by kernel_rfl) rfl #[.slice Ao16 t187.length co16, .int .i64 a4, .int .i64 a5] rfl (by first | rfl | (simp only [List.map_toArray, List.map_cons, List.map_nil]; done) | (simp only [List.map_toArray, List.map_cons, List.map_nil]; rfl)) ?_; (with_reducible refine (spec_l13In.calls k1 _ _ t187 a4 a5 t190 _ ?side1 ?side2 A12.out).mono ?_); (case side1 => repeat (first | exact (Kd.R_reads' HO189.out).2.2 | (with_reducible refine Kd.C_alloc ?_ _) | (with_reducible refine Kd.C_drewN ?_ _) | (with_reducible refine Kd.C_drew ?_))); (case side2 => exact (Kd.R_reads' HO189.out).2.1); rintro e w17 ⟨v191, rfl, ho0, hb⟩; refine ⟨_, rfl, ?_⟩; have n0_ := Aside0.mk (Kd.R_elder' (by (with_reducible repeat (first | apply Kd.R_alloc | apply Kd.R_drewN | apply Kd.R_drew)); exact HO_2.out) (Kd.R_base ho0) hb); have n1_ := Aside0.mk (Kd.R_elder' (by (with_reducible repeat (first | apply Kd.R_alloc | apply Kd.R_drewN | apply Kd.R_drew)); exact HO189.out) (Kd.R_base ho0) hb); have n2_ := Aside0.mk (Kd.R_lower (Kd.R_new' (Kd.R_new' (Kd.R_newM (M := fun k_ => (P2_ k_ ∨ w.heap.size ≤ k_)) ho0 (by first | exact HK.out.1 | exact (show Kept w _ (fun k_ => P2_ k_) from by repeat (first | (with_reducible first | exact HK.out | apply Kept.alloc | apply Kept.drewN | apply Kept.drew | refine Kept.setCell ?_ (.inr GW185.out) _) | exact HK.out)).1) (fun k_ h_ => .inr h_)) (Kd.R_lt (by (with_reducible repeat (first | apply Kd.R_alloc | apply Kd.R_drewN | apply Kd.R_drew)); exact HO_2.out))) (Kd.R_lt (by (with_reducible repeat (first | apply Kd.R_alloc | apply Kd.R_drewN | apply Kd.R_drew)); exact HO189.out))) (below_size (by repeat (first | (with_reducible first | exact HB.out | apply below_alloc | apply pw_below_drewN | apply below_drew1 | refine below_set ?_ GE185.out) | exact HB.out)))); have n3_ := Aside0.mk (blk_below (g := g0) (o := .cells #[.string a0_0, .slice A0_1 l0_1.length c0_1, .slice A0_2 l0_2.length c0_2, .int .i64 a0_3, .int .i64 a0_4, .slice A0_5 l0_5.length c0_5] 29 (0, 0)) (by repeat first | exact HBX0.out | refine blk_drewN ?_ _ | refine blk_drew ?_ | refine blk_alloc ?_ _) hb); have n4_ := Aside0.mk (Kept.below (S := (fun k_ => P2_ k_)) (by repeat (first | (with_reducible first | exact HK.out | apply Kept.alloc | apply Kept.drewN | apply Kept.drew | refine Kept.setCell ?_ (.inr GW185.out) _) | exact HK.out)) hb); have n5_ := Aside0.mk (below_step (by repeat (first | (with_reducible first | exact HB.out | apply below_alloc | apply pw_below_drewN | apply below_drew1 | refine below_set ?_ GE185.out) | exact HB.out)) hb); clear HO_2; clear HO189; clear HBX0; clear HK; clear HB; have HO_2 := n0_; have HO189 := n1_; have HO192 := n2_; have HBX0 := n3_; have HK := n4_; have HB := n5_; clear n0_ n1_ n2_ n3_ n4_ n5_; (try clear hb); (try clear hb2); (try clear hk); (try clear hi); (try clear ho0); obtain ⟨Ao18, co18, eo18⟩ := Kd.R_slice HO192.out; subst eo18))
       go_ret3
       exact ⟨_, by first | rfl | (simp [errW_none, errW_some] <;> rfl) | (simp only [← hji8]; first | rfl | (simp [errW_none, errW_some] <;> rfl)) | (simp [*, errW_none, errW_some] <;> rfl), by first | exact Kd.R_nil _ _ _ _ _ | exact Kd.N_nil _ _ _ _ _ | exact Kd.V_nil _ _ _ _ _ | exact Kd.Q_nil _ _ _ _ _ | exact Kd.S_nil _ _ _ _ _, by repeat (first | (with_reducible first | exact HB.out | apply below_alloc | apply pw_below_drewN | apply below_drew1 | refine below_set ?_ GE185.out) | exact HB.out), by repeat (first | (with_reducible first | exact HK.out | apply Kept.alloc | apply Kept.drewN | apply Kept.drew | refine Kept.setCell ?_ (.inr GW185.out) _) | exact HK.out)⟩
      ·rw [if_neg c13] at H
       have c13b0 : ((t190.length : Int) == 0) = false := beq_eq_false_iff_ne.mpr c13
       have c13b1 : ((t190.length : Int) != 0) = true := bne_iff_ne.mpr c13
       have c13b2 : ¬ (t190 = []) := fun h_ => c13 (by rw [h_]; rfl)
       replace H := Option.bind_eq_some_iff.mp H
       obtain ⟨⟨t193, t194⟩, A190, H⟩ := H
       replace H : (if 0 ≤ t193 then (if t193 < (t190.length : Int) then (if x2_1.length < 17592186044416 then (spec_l13Grow.l0 k1 t194 (x2_1 ++ [rd t190 t193]) a3 a4 a5 (wrap64 (x15_1 + 1)) a0_0 l0_1 l0_2 a0_3 a0_4 l0_5) else (none)) else (none)) else (none)) = some (r1, r2, r3) := H
       have A19 := Aside0.mk A190
       clear A190
       by_cases c20 : 0 ≤ t193
       ·rw [if_pos c20] at H
        have c20b0 : decide (0 ≤ t193) = true := decide_eq_true c20
        clear c20
        by_cases c21 : t193 < (t190.length : Int)
        ·rw [if_pos c21] at H
         have c21b0 : decide (t193 < (t190.length : Int)) = true := decide_eq_true c21
         clear c21
         by_cases c22 : x2_1.length < 17592186044416
         ·rw [if_pos c22] at H
          have LMc22 := Aside0.mk c22
          clear c22
          obtain ⟨y196, hy196⟩ : ∃ y_ : List Int, y_ = (x2_1 ++ [rd t190 t193]) := ⟨_, rfl⟩
          replace H : (spec_l13Grow.l0 k1 t194 y196 a3 a4 a5 (wrap64 (x15_1 + 1)) a0_0 l0_1 l0_2 a0_3 a0_4 l0_5) = some (r1, r2, r3) := by first | (rw [hy196]; with_reducible exact H) | (have H2_ := (Option.bind_some _ _).symm.trans H; rw [hy196]; with_reducible exact H2_) | (have H2_ := (Option.bind_some _ _).symm.trans H; with_reducible exact H2_) | with_reducible exact H | (rw [hy196]; exact H) | exact H
          have Ny196 := Aside0.mk hy196
          clear hy196
          have H' := Aside0.mk H
          clear H
          obtain ⟨Ao23, co23, eo23⟩ := Kd.R_slice HO_2.out
          subst eo23
          have p186 : 0 ≤ ((ji8) : Int) := of_decide_eq_true (by assumption)
          have q186 : (ji8) < (x2_1.length : Int) := of_decide_eq_true (by assumption)
          obtain ⟨ad186, e186, hx186_0⟩ := Kd.at_int (Kd.R_reads' HO_2.out).2.2 (ji8) p186 q186
          cases e186
          replace p186 := eq_true p186
          replace q186 := eq_true q186
          go_wp2_with (first | ((with_reducible refine gate_callee (f := 112) rfl ?_); refine goesL_ (some 31) rfl rfl Try.func112 (by kernel_rfl) rfl #[.pointer (some ⟨g0, 0, none⟩), .int .i64 (rd x2_1 (ji8))] rfl (by (try simp only [List.map_toArray, List.map_cons, List.map_nil]); first | done | (simp only [hji8]; rfl) | rfl | (simp only [List.length_drop, List.length_take]; rfl)) ?_; (with_reducible refine (spec_l05Next.calls k1 g0 a0_0 A0_1 c0_1 l0_1 A0_2 c0_2 l0_2 a0_3 a0_4 A0_5 c0_5 l0_5 (rd x2_1 (ji8)) t187 _ ?side1 ?side2 ?side3 ?side4 ?side5 ?side6 ?side7 A11.out).mono ?_); (case side1 => (with_reducible repeat (first | refine blk_drewN ?_ _ | refine blk_drew ?_ | refine blk_alloc ?_ _)); exact HBX0.out); (case side2 => exact Kd.C_kept_now HR0_1.out (by repeat (first | (with_reducible first | exact HK.out | apply Kept.alloc | apply Kept.drewN | apply Kept.drew | refine Kept.setCell ?_ (.inr GW185.out) _) | exact HK.out))); (case side3 => exact HC0_1.out); (case side4 => exact Kd.C_kept_now HR0_2.out (by repeat (first | (with_reducible first | exact HK.out | apply Kept.alloc | apply Kept.drewN | apply Kept.drew | refine Kept.setCell ?_ (.inr GW185.out) _) | exact HK.out))); (case side5 => exact HC0_2.out); (case side6 => exact Kd.C_kept_now HR0_5.out (by repeat (first | (with_reducible first | exact HK.out | apply Kept.alloc | apply Kept.drewN | apply Kept.drew | refine Kept.setCell ?_ (.inr GW185.out) _) | exact HK.out))); (case side7 => exact HC0_5.out); rintro e w24 ⟨v188, rfl, ho0, hb⟩; refine ⟨_, rfl, ?_⟩; have n0_ := Aside0.mk (Kd.R_elder' (by (with_reducible repeat (first | apply Kd.R_alloc | apply Kd.R_drewN | apply Kd.R_drew)); exact HO_2.out) (Kd.R_base ho0) hb); have n1_ := Aside0.mk (Kd.R_lower (Kd.R_new' (Kd.R_newM (M := fun k_ => (P2_ k_ ∨ w.heap.size ≤ k_)) ho0 (by first | exact HK.out.1 | exact (show Kept w _ (fun k_ => P2_ k_) from by repeat (first | (with_reducible first | exact HK.out | apply Kept.alloc | apply Kept.drewN | apply Kept.drew | refine Kept.setCell ?_ (.inr GW185.out) _) | exact HK.out)).1) (fun k_ h_ => .inr h_)) (Kd.R_lt (by (with_reducible repeat (first | apply Kd.R_alloc | apply Kd.R_drewN | apply Kd.R_drew)); exact HO_2.out))) (below_size (by repeat (first | (with_reducible first | exact HB.out | apply below_alloc | apply pw_below_drewN | apply below_drew1 | refine below_set ?_ GE185.out) | exact HB.out)))); have n2_ := Aside0.mk (blk_below (g := g0) (o := .cells #[.string a0_0, .slice A0_1 l0_1.length c0_1, .slice A0_2 l0_2.length c0_2, .int .i64 a0_3, .int .i64 a0_4, .slice A0_5 l0_5.length c0_5] 29 (0, 0)) (by repeat first | exact HBX0.out | refine blk_drewN ?_ _ | refine blk_drew ?_ | refine blk_alloc ?_ _) hb); have n3_ := Aside0.mk (Kept.below (S := (fun k_ => P2_ k_)) (by repeat (first | (with_reducible first | exact HK.out | apply Kept.alloc | apply Kept.drewN | apply Kept.drew | refine Kept.setCell ?_ (.inr GW185.out) _) | exact HK.out)) hb); have n4_ := Aside0.mk (below_step (by repeat (first | (with_reducible first | exact HB.out | apply below_alloc | apply pw_below_drewN | apply below_drew1 | refine below_set ?_ GE185.out) | exact HB.out)) hb); clear HO_2; clear HBX0; clear HK; clear HB; have HO_2 := n0_; have HO189 := n1_; have HBX0 := n2_; have HK := n3_; have HB := n4_; clear n0_ n1_ n2_ n3_ n4_; (try clear hb); (try clear hb2); (try clear hk); (try clear hi); (try clear ho0); obtain ⟨Ao25, co25, eo25⟩ := Kd.R_slice HO189.out; subst eo25) | ((with_reducible refine gate_callee (f := 111) rfl ?_); refine goesL_ (some 34) rfl rfl Try.func111 (by kernel_rfl) rfl #[.slice Ao25 t187.length co25, .int .i64 a4, .int .i64 a5] rfl (by first | rfl | (simp only [List.map_toArray, List.map_cons, List.map_nil]; done) | (simp only [List.map_toArray, List.map_cons, List.map_nil]; rfl)) ?_; (with_reducible refine (spec_l13In.calls k1 _ _ t187 a4 a5 t190 _ ?side1 ?side2 A12.out).mono ?_); (case side1 => repeat (first | exact (Kd.R_reads' HO189.out).2.2 | (with_reducible refine Kd.C_alloc ?_ _) | (with_reducible refine Kd.C_drewN ?_ _) | (with_reducible refine Kd.C_drew ?_))); (case side2 => exact (Kd.R_reads' HO189.out).2.1); rintro e w26 ⟨v191, rfl, ho0, hb⟩; refine ⟨_, rfl, ?_⟩; have n0_ := Aside0.mk (Kd.R_elder' (by (with_reducible repeat (first | apply Kd.R_alloc | apply Kd.R_drewN | apply Kd.R_drew)); exact HO_2.out) (Kd.R_base ho0) hb); have n1_ := Aside0.mk (Kd.R_elder' (by (with_reducible repeat (first | apply Kd.R_alloc | apply Kd.R_drewN | apply Kd.R_drew)); exact HO189.out) (Kd.R_base ho0) hb); have n2_ := Aside0.mk (Kd.R_lower (Kd.R_new' (Kd.R_new' (Kd.R_newM (M := fun k_ => (P2_ k_ ∨ w.heap.size ≤ k_)) ho0 (by first | exact HK.out.1 | exact (show Kept w _ (fun k_ => P2_ k_) from by repeat (first | (with_reducible first | exact HK.out | apply Kept.alloc | apply Kept.drewN | apply Kept.drew | refine Kept.setCell ?_ (.inr GW185.out) _) | exact HK.out)).1) (fun k_ h_ => .inr h_)) (Kd.R_lt (by (with_reducible repeat (first | apply Kd.R_alloc | apply Kd.R_drewN | apply Kd.R_drew)); exact HO_2.out))) (Kd.R_lt (by (with_reducible repeat (first | apply Kd.R_alloc | apply Kd.R_drewN | apply Kd.R_drew)); exact HO189.out))) (below_size (by repeat (first | (with_reducible first | exact HB.out | apply below_alloc | apply pw_below_drewN | apply below_drew1 | refine below_set ?_ GE185.out) | exact HB.out)))); have n3_ := Aside0.mk (blk_below (g := g0) (o := .cells #[.string a0_0, .slice A0_1 l0_1.length c0_1, .slice A0_2 l0_2.length c0_2, .int .i64 a0_3, .int .i64 a0_4, .slice A0_5 l0_5.length c0_5] 29 (0, 0)) (by repeat first | exact HBX0.out | refine blk_drewN ?_ _ | refine blk_drew ?_ | refine blk_alloc ?_ _) hb); have n4_ := Aside0.mk (Kept.below (S := (fun k_ => P2_ k_)) (by repeat (first | (with_reducible first | exact HK.out | apply Kept.alloc | apply Kept.drewN | apply Kept.drew | refine Kept.setCell ?_ (.inr GW185.out) _) | exact HK.out)) hb); have n5_ := Aside0.mk (below_step (by repeat (first | (with_reducible first | exact HB.out | apply below_alloc | apply pw_below_drewN | apply below_drew1 | refine below_set ?_ GE185.out) | exact HB.out)) hb); clear HO_2; clear HO189; clear HBX0; clear HK; clear HB; have HO_2 := n0_; have HO189 := n1_; have HO192 := n2_; have HBX0 := n3_; have HK := n4_; have HB := n5_; clear n0_ n1_ n2_ n3_ n4_ n5_; (try clear hb); (try clear hb2); (try clear hk); (try clear hi); (try clear ho0); obtain ⟨Ao27, co27, eo27⟩ := Kd.R_slice HO192.out; subst eo27) | ((with_reducible refine gate_callee (f := 67) rfl ?_); refine goesL_ (some 42) rfl rfl Try.func67 (by kernel_rfl) rfl #[.int .i64 x1_1, .int .i64 (t190.length : Int)] rfl (by first | rfl | (simp only [List.map_toArray, List.map_cons, List.map_nil]; done) | (simp only [List.map_toArray, List.map_cons, List.map_nil]; rfl)) ?_; (with_reducible refine (spec_l13Pick.calls x1_1 (t190.length : Int) t193 t194 _ A19.out).mono ?_); rintro e w' ⟨rfl, ⟨nd, rfl⟩⟩; refine ⟨_, rfl, ?_⟩; have p195 : 0 ≤ (t193 : Int) := of_decide_eq_true (by assumption); have q195 : t193 < (t190.length : Int) := of_decide_eq_true (by assumption); obtain ⟨ad195, e195, hx195_0⟩ := Kd.at_int (Kd.R_reads' HO192.out).2.2 t193 p195 q195; cases e195; replace p195 := eq_true p195; replace q195 := eq_true q195) | ((with_reducible refine gate_builtin (b := .append) (xs := #[.tmp 45, .tmp 50]) rfl ?_); at_builtin; refine Kd.R_append (Kd.int .i64) (w0 := w0) w0.heap.size rfl (.tmp 45) (.tmp 50) 22 2 (.int .i64 0) 8 rfl Try.underlying22 info2 rfl (by decide) (by omega) (.slice (some ad186) x2_1.length co23) x2_1 (rd t190 t193) [.int .i64 (rd t190 t193)] (fun k_ => (P2_ k_ ∨ w.heap.size ≤ k_) ∧ some k_ ≠ (.slice Ao25 t187.length co25 : Value).ownBlock ∧ some k_ ≠ (.slice (some ad195) t190.length co27 : Value).ownBlock) (fun _ => False) rfl rfl ?aP (fun _ hk => hk.elim) ?aF ?aO ?aB ?aS ?aL ?_; (case aP => exact rfl); (case aB => exact (by repeat (first | (with_reducible first | exact HB.out | apply below_alloc | apply pw_below_drewN | apply below_drew1 | refine below_set ?_ GE185.out) | exact HB.out))); (case aF => exact (fun k_ hk => ⟨(.inr (Nat.le_trans (by first | exact HK.out.1 | exact (show Kept w _ (fun k_ => P2_ k_) from by repeat (first | (with_reducible first | exact HK.out | apply Kept.alloc | apply Kept.drewN | apply Kept.drew | refine Kept.setCell ?_ (.inr GW185.out) _) | exact HK.out)).1) hk)), Kd.fresh' (Kd.R_lt (by (with_reducible repeat (first | apply Kd.R_alloc | apply Kd.R_drewN | apply Kd.R_drew)); exact HO189.out)) k_ hk, Kd.fresh' (Kd.R_lt (by (with_reducible repeat (first | apply Kd.R_alloc | apply Kd.R_drewN | apply Kd.R_drew)); exact HO192.out)) k_ hk⟩)); (case aO => exact (by (with_reducible repeat (first | apply Kd.R_alloc | apply Kd.R_drewN | apply Kd.R_drew)); exact Kd.R_mono HO_2.out (fun _ hk => ⟨hk.1.1, ⟨hk.1.2, hk.2⟩⟩))); (case aS => exact (below_size (by repeat (first | (with_reducible first | exact HB.out | apply below_alloc | apply pw_below_drewN | apply below_drew1 | refine below_set ?_ GE185.out) | exact HB.out)))); (case aL => have := LMc22.out; omega); intro v197 w28 ho hb hg hat; rw [← Ny196.out] at ho; have n0_ := Aside0.mk (blk_grown (g := g0) (o := .cells #[.string a0_0, .slice A0_1 l0_1.length c0_1, .slice A0_2 l0_2.length c0_2, .int .i64 a0_3, .int .i64 a0_4, .slice A0_5 l0_5.length c0_5] 29 (0, 0)) (by repeat first | exact HBX0.out | refine blk_drewN ?_ _ | refine blk_drew ?_ | refine blk_alloc ?_ _) hg (Kd.R_ne HO_2.out HBX0.out (by decide))); have n1_ := Aside0.mk (Kd.R_after (ok := (fun k_ => (P2_ k_ ∨ w.heap.size ≤ k_) ∧ some k_ ≠ (.slice (some ad195) t190.length co27 : Value).ownBlock)) (by (with_reducible repeat (first | apply Kd.R_alloc | apply Kd.R_drewN | apply Kd.R_drew)); exact Kd.R_mono HO189.out (fun _ hk => ⟨⟨hk.1.1.1, hk.2⟩, hk.1.2⟩)) hg hat); have n2_ := Aside0.mk (Kd.R_after (ok := (fun k_ => (P2_ k_ ∨ w.heap.size ≤ k_) ∧ some k_ ≠ (.slice Ao25 t187.length co25 : Value).ownBlock)) (by (with_reducible repeat (first | apply Kd.R_alloc | apply Kd.R_drewN | apply Kd.R_drew)); exact Kd.R_mono HO192.out (fun _ hk => ⟨⟨hk.1.1.1, hk.2⟩, hk.1.2⟩)) hg hat); have n3_ := Aside0.mk (hb); have n4_ := Aside0.mk (Kept.of_grown (S := (fun k_ => P2_ k_)) hg (by repeat (first | (with_reducible first | exact HK.out | apply Kept.alloc | apply Kept.drewN | apply Kept.drew | refine Kept.setCell ?_ (.inr GW185.out) _) | exact HK.out)) (fun k_ e_ => (HO_2.out.1 k_ e_).1.1)); have n5_ := Aside0.mk (ho); clear HBX0; clear HO189; clear HO192; clear HB; clear HK; clear HO_2; have HBX0 := n0_; have HO189 := n1_; have HO192 := n2_; have HB := n3_; have HK := n4_; have HO198 := n5_; clear n0_ n1_ n2_ n3_ n4_ n5_; clear ho hb hg hat))
          go_roundg k1
          case measure => have := HK1.out; omega
          case rel => exact ⟨(t194), (y196), (wrap64 (x15_1 + 1)), (by first | rfl | (simp; done) | (simp [*]; done)), (by first | rfl | (simp; done) | (simp [*]; done)), H', ⟨by have := HK1.out; omega⟩, ⟨by (with_reducible repeat (first | apply Kd.R_alloc | apply Kd.R_drewN | apply Kd.R_drew)); exact Kd.R_mono HO198.out (fun _ hk => hk.1)⟩, ⟨by (with_reducible repeat (first | refine blk_drewN ?_ _ | refine blk_drew ?_ | refine blk_alloc ?_ _)); exact HBX0.out⟩, ⟨by repeat (first | (with_reducible first | exact HK.out | apply Kept.alloc | apply Kept.drewN | apply Kept.drew | refine Kept.setCell ?_ (.inr GW185.out) _) | exact HK.out)⟩, ⟨by repeat (first | (with_reducible first | exact HB.out | apply below_alloc | apply pw_below_drewN | apply below_drew1 | refine below_set ?_ GE185.out) | exact HB.out)⟩⟩
         ·rw [if_neg c22] at H
          exact absurd H (by simp)
        ·rw [if_neg c21] at H
         exact absurd H (by simp)
       ·rw [if_neg c20] at H
        exact absurd H (by simp)
     ·rw [if_neg c10] at H
      exact absurd H (by simp)
    ·rw [if_neg c9] at H
     exact absurd H (by simp)
   ·rw [if_neg c7] at H
    have c7b0 : decide (x15_1 < a3) = false := decide_eq_false c7
    clear c7
    simp only [Option.some.injEq, Prod.mk.injEq] at H
    obtain ⟨rfl, rfl, rfl⟩ := H
    go_wp2
    go_ret3
    exact ⟨_, by first | rfl | (simp [errW_none, errW_some] <;> rfl) | (simp [*, errW_none, errW_some] <;> rfl), by (with_reducible repeat (first | apply Kd.R_alloc | apply Kd.R_drewN | apply Kd.R_drew)); exact HO_2.out, by repeat (first | (with_reducible first | exact HB.out | apply below_alloc | apply pw_below_drewN | apply below_drew1 | refine below_set ?_ GE185.out) | exact HB.out), by repeat (first | (with_reducible first | exact HK.out | apply Kept.alloc | apply Kept.drewN | apply Kept.drew | refine Kept.setCell ?_ (.inr GW185.out) _) | exact HK.out)⟩
/-! ### spec_GrowMelody: function 22 -/
def spec_GrowMelody.l0 : Nat → Int → Int → Int → List Int → List (S90) → Int → ByteArray → List Int → List Int → Int → Int → List (List Int) → Option ((List (S90)) × Int)
  | 0, _, _, _, _, _, _, _, _, _, _, _, _ => none
  | k + 1, x1, x4, x5, x15, x16, x17, x329000, x329001, x329002, x329003, x329004, x329005 => if x17 > 0 then ((spec_l00Min.f 4 x17).bind fun t339 => ((spec_l13Pick.f x1 t339).bind fun bt340 => (if 0 ≤ (wrap64 ((x15.length : Int) - 1)) then (if (wrap64 ((x15.length : Int) - 1)) < (x15.length : Int) then (if x16.length < 8796093022208 then ((some (x16 ++ [(⟨rd x15 (wrap64 ((x15.length : Int) - 1)), wrap64 (bt340.1 + 1)⟩ : S90)] : List (S90))).bind fun y343 => (if (wrap64 (x17 - (wrap64 (bt340.1 + 1)))) = 0 then (some (y343, 0)) else ((spec_l13Grow.f k x329000 x329001 x329002 x329003 x329004 x329005 bt340.2 x15 1 x4 x5).bind fun bt346 => (if bt346.2.2 = true then (spec_GrowMelody.l0 k bt346.2.1 x4 x5 bt346.1 y343 (wrap64 (x17 - (wrap64 (bt340.1 + 1)))) x329000 x329001 x329002 x329003 x329004 x329005) else (some (([] : List (S90)), 3)))))) else (none)) else (none)) else (none)))) else (some (x16, 0))
def spec_GrowMelody.f (k : Nat) (a0_0 : ByteArray) (l0_1 : List Int) (l0_2 : List Int) (a0_3 : Int) (a0_4 : Int) (l0_5 : List (List Int)) (a1 : Int) (a2 : Int) (a3 : Int) (a4 : Int) (a5 : Int) : Option ((List (S90)) × Int) := (spec_l13Ask.f k a0_0 l0_1 l0_2 a0_3 a0_4 l0_5 a1 a2 a4 a5).bind fun t329 => (if t329 = 0 then ((spec_l00In.f a3 1 48).bind fun t330 => (if t330 = true then ((spec_l03Tone.f a2).bind fun t331 => ((spec_l05Tone.f k a0_0 l0_1 l0_2 a0_3 a0_4 l0_5 t331).bind fun t332 => (if t332 = true then (spec_GrowMelody.l0 k a1 a4 a5 (([a2] : List Int)) (([] : List (S90))) a3 a0_0 l0_1 l0_2 a0_3 a0_4 l0_5) else (some (([] : List (S90)), 3))))) else (some (([] : List (S90)), 2)))) else (some (([] : List (S90)), t329)))
theorem spec_GrowMelody.mono_l : ∀ k, (∀ y0 y1 y2 y3 y4 y5 y6 y7 y8 y9 y10 y11, LeO (spec_GrowMelody.l0 k y0 y1 y2 y3 y4 y5 y6 y7 y8 y9 y10 y11) (spec_GrowMelody.l0 (k + 1) y0 y1 y2 y3 y4 y5 y6 y7 y8 y9 y10 y11))
  | 0 => fun _ _ _ _ _ _ _ _ _ _ _ _ r h => by simp [spec_GrowMelody.l0] at h
  | k + 1 => by
    have ih0 := spec_GrowMelody.mono_l k
    · intro y0 y1 y2 y3 y4 y5 y6 y7 y8 y9 y10 y11
      unfold spec_GrowMelody.l0
      repeat' first
      | (with_reducible exact ih0 _ _ _ _ _ _ _ _ _ _ _ _)
      | (with_reducible exact spec_l05Tone.mono _ _ _ _ _ _ _ _)
      | (with_reducible exact spec_l13Ask.mono _ _ _ _ _ _ _ _ _ _ _)
      | (with_reducible exact spec_l13Grow.mono _ _ _ _ _ _ _ _ _ _ _ _)
      | (with_reducible exact LeO.refl _)
      | (with_reducible exact LeO.none _)
      | (with_reducible refine LeO.ite ?_ ?_)
      | (with_reducible refine LeO.bind ?_ (fun _ => ?_))
      | exact ih0 _ _ _ _ _ _ _ _ _ _ _ _
      | exact spec_l05Tone.mono _ _ _ _ _ _ _ _
      | exact spec_l13Ask.mono _ _ _ _ _ _ _ _ _ _ _
      | exact spec_l13Grow.mono _ _ _ _ _ _ _ _ _ _ _ _
      | exact LeO.none _
      | refine LeO.ite ?_ ?_
      | refine LeO.bind ?_ (fun _ => ?_)
theorem spec_GrowMelody.mono : ∀ a0 a1 a2 a3 a4 a5 a6 a7 a8 a9 a10 k, LeO (spec_GrowMelody.f k a0 a1 a2 a3 a4 a5 a6 a7 a8 a9 a10) (spec_GrowMelody.f (k + 1) a0 a1 a2 a3 a4 a5 a6 a7 a8 a9 a10) := by
  intro a0 a1 a2 a3 a4 a5 a6 a7 a8 a9 a10 k
  have ih0 := spec_GrowMelody.mono_l k
  unfold spec_GrowMelody.f
  repeat' first
      | (with_reducible exact ih0 _ _ _ _ _ _ _ _ _ _ _ _)
      | (with_reducible exact spec_l05Tone.mono _ _ _ _ _ _ _ _)
      | (with_reducible exact spec_l13Ask.mono _ _ _ _ _ _ _ _ _ _ _)
      | (with_reducible exact spec_l13Grow.mono _ _ _ _ _ _ _ _ _ _ _ _)
      | (with_reducible exact LeO.refl _)
      | (with_reducible exact LeO.none _)
      | (with_reducible refine LeO.ite ?_ ?_)
      | (with_reducible refine LeO.bind ?_ (fun _ => ?_))
      | exact ih0 _ _ _ _ _ _ _ _ _ _ _ _
      | exact spec_l05Tone.mono _ _ _ _ _ _ _ _
      | exact spec_l13Ask.mono _ _ _ _ _ _ _ _ _ _ _
      | exact spec_l13Grow.mono _ _ _ _ _ _ _ _ _ _ _ _
      | exact LeO.none _
      | refine LeO.ite ?_ ?_
      | refine LeO.bind ?_ (fun _ => ?_)
set_option maxHeartbeats 8000000 in
set_option maxRecDepth 100000 in
theorem spec_GrowMelody.calls (k : Nat) (a0_0 : ByteArray) (A0_1 : Option Addr) (c0_1 : Nat) (l0_1 : List Int) (A0_2 : Option Addr) (c0_2 : Nat) (l0_2 : List Int) (a0_3 : Int) (a0_4 : Int) (A0_5 : Option Addr) (c0_5 : Nat) (l0_5 : List (List Int)) (a1 : Int) (a2 : Int) (a3 : Int) (a4 : Int) (a5 : Int) (r1 : List (S90)) (r2 : Int) (w : World) (hr0_1 : Kd.C (Kd.int .i64) w A0_1 l0_1.length l0_1) (hc0_1 : l0_1.length ≤ c0_1) (hr0_2 : Kd.C (Kd.int .i64) w A0_2 l0_2.length l0_2) (hc0_2 : l0_2.length ≤ c0_2) (hr0_5 : Kd.C (Kd.slice 2 (Kd.int .i64)) w A0_5 l0_5.length l0_5) (hc0_5 : l0_5.length ≤ c0_5) (h : spec_GrowMelody.f k a0_0 l0_1 l0_2 a0_3 a0_4 l0_5 a1 a2 a3 a4 a5 = some (r1, r2)) :
    Calls Try.prog 22 #[.agg #[.string a0_0, .slice A0_1 l0_1.length c0_1, .slice A0_2 l0_2.length c0_2, .int .i64 a0_3, .int .i64 a0_4, .slice A0_5 l0_5.length c0_5], .int .i64 a1, .int .i64 a2, .int .i64 a3, .int .i64 a4, .int .i64 a5] w fun e w' => ∃ v0_ : Value, e = .returned (.tuple #[v0_, .int .i64 r2]) ∧ Kd.R k90 90 w' w.heap.size (fun _ => True) v0_ r1 ∧ Below w.heap.size w w' := by
  have hu29 := Try.underlying29
  have hu90 := Try.underlying90
  have HR0_1 := Aside0.mk hr0_1
  have HC0_1 := Aside0.mk hc0_1
  clear hr0_1 hc0_1
  have HR0_2 := Aside0.mk hr0_2
  have HC0_2 := Aside0.mk hc0_2
  clear hr0_2 hc0_2
  have HR0_5 := Aside0.mk hr0_5
  have HC0_5 := Aside0.mk hc0_5
  clear hr0_5 hc0_5
  have HB := Aside0.mk (Below.refl w.heap.size w)
  have H : ((spec_l13Ask.f k a0_0 l0_1 l0_2 a0_3 a0_4 l0_5 a1 a2 a4 a5).bind fun t329 => (if t329 = 0 then ((spec_l00In.f a3 1 48).bind fun t330 => (if t330 = true then ((spec_l03Tone.f a2).bind fun t331 => ((spec_l05Tone.f k a0_0 l0_1 l0_2 a0_3 a0_4 l0_5 t331).bind fun t332 => (if t332 = true then (spec_GrowMelody.l0 k a1 a4 a5 (([a2] : List Int)) (([] : List (S90))) a3 a0_0 l0_1 l0_2 a0_3 a0_4 l0_5) else (some (([] : List (S90)), 3))))) else (some (([] : List (S90)), 2)))) else (some (([] : List (S90)), t329)))) = some (r1, r2) := h
  clear h
  replace H := Option.bind_eq_some_iff.mp H
  obtain ⟨t329, A70, H⟩ := H
  replace H : (if t329 = 0 then ((spec_l00In.f a3 1 48).bind fun t330 => (if t330 = true then ((spec_l03Tone.f a2).bind fun t331 => ((spec_l05Tone.f k a0_0 l0_1 l0_2 a0_3 a0_4 l0_5 t331).bind fun t332 => (if t332 = true then (spec_GrowMelody.l0 k a1 a4 a5 (([a2] : List Int)) (([] : List (S90))) a3 a0_0 l0_1 l0_2 a0_3 a0_4 l0_5) else (some (([] : List (S90)), 3))))) else (some (([] : List (S90)), 2)))) else (some (([] : List (S90)), t329))) = some (r1, r2) := H
  have A7 := Aside0.mk A70
  clear A70
  by_cases c8 : t329 = 0
  · rw [if_pos c8] at H
    have c8b0 : (t329 == 0) = true := beq_iff_eq.mpr c8
    have c8b1 : (t329 != 0) = false := bne_eq_false_iff_eq.mpr c8
    clear c8
    replace H := Option.bind_eq_some_iff.mp H
    obtain ⟨t330, A90, H⟩ := H
    replace H : (if t330 = true then ((spec_l03Tone.f a2).bind fun t331 => ((spec_l05Tone.f k a0_0 l0_1 l0_2 a0_3 a0_4 l0_5 t331).bind fun t332 => (if t332 = true then (spec_GrowMelody.l0 k a1 a4 a5 (([a2] : List Int)) (([] : List (S90))) a3 a0_0 l0_1 l0_2 a0_3 a0_4 l0_5) else (some (([] : List (S90)), 3))))) else (some (([] : List (S90)), 2))) = some (r1, r2) := H
    have A9 := Aside0.mk A90
    clear A90
    by_cases c10 : t330 = true
    · subst c10
      have H1 : ((spec_l03Tone.f a2).bind fun t331 => ((spec_l05Tone.f k a0_0 l0_1 l0_2 a0_3 a0_4 l0_5 t331).bind fun t332 => (if t332 = true then (spec_GrowMelody.l0 k a1 a4 a5 (([a2] : List Int)) (([] : List (S90))) a3 a0_0 l0_1 l0_2 a0_3 a0_4 l0_5) else (some (([] : List (S90)), 3))))) = some (r1, r2) := by rw [if_pos rfl] at H; exact H
      clear H
      have H := H1
      clear H1
      replace H := Option.bind_eq_some_iff.mp H
      obtain ⟨t331, A110, H⟩ := H
      replace H : ((spec_l05Tone.f k a0_0 l0_1 l0_2 a0_3 a0_4 l0_5 t331).bind fun t332 => (if t332 = true then (spec_GrowMelody.l0 k a1 a4 a5 (([a2] : List Int)) (([] : List (S90))) a3 a0_0 l0_1 l0_2 a0_3 a0_4 l0_5) else (some (([] : List (S90)), 3)))) = some (r1, r2) := H
      have A11 := Aside0.mk A110
      clear A110
      replace H := Option.bind_eq_some_iff.mp H
      obtain ⟨t332, A120, H⟩ := H
      replace H : (if t332 = true then (spec_GrowMelody.l0 k a1 a4 a5 (([a2] : List Int)) (([] : List (S90))) a3 a0_0 l0_1 l0_2 a0_3 a0_4 l0_5) else (some (([] : List (S90)), 3))) = some (r1, r2) := H
      have A12 := Aside0.mk A120
      clear A120
      by_cases c13 : t332 = true
      · subst c13
        have H1 : (spec_GrowMelody.l0 k a1 a4 a5 (([a2] : List Int)) (([] : List (S90))) a3 a0_0 l0_1 l0_2 a0_3 a0_4 l0_5) = some (r1, r2) := by rw [if_pos rfl] at H; exact H
        clear H
        have H := H1
        clear H1
        obtain ⟨y333, hy333⟩ : ∃ y_ : List Int, y_ = (([a2] : List Int)) := ⟨_, rfl⟩
        replace H : (spec_GrowMelody.l0 k a1 a4 a5 y333 (([] : List (S90))) a3 a0_0 l0_1 l0_2 a0_3 a0_4 l0_5) = some (r1, r2) := by first | (rw [hy333]; with_reducible exact H) | (have H2_ := (Option.bind_some _ _).symm.trans H; rw [hy333]; with_reducible exact H2_) | (have H2_ := (Option.bind_some _ _).symm.trans H; with_reducible exact H2_) | with_reducible exact H | (rw [hy333]; exact H) | exact H
        have Ny333 := Aside0.mk hy333
        clear hy333
        obtain ⟨y336, hy336⟩ : ∃ y_ : List (S90), y_ = (([] : List (S90))) := ⟨_, rfl⟩
        replace H : (spec_GrowMelody.l0 k a1 a4 a5 y333 y336 a3 a0_0 l0_1 l0_2 a0_3 a0_4 l0_5) = some (r1, r2) := by first | (rw [hy336]; with_reducible exact H) | (have H2_ := (Option.bind_some _ _).symm.trans H; rw [hy336]; with_reducible exact H2_) | (have H2_ := (Option.bind_some _ _).symm.trans H; with_reducible exact H2_) | with_reducible exact H | (rw [hy336]; exact H) | exact H
        have Ny336 := Aside0.mk hy336
        clear hy336
        have H' := Aside0.mk H
        clear H
        go_enter Try.func22, Try.ntmps22
        go_wp2_with (first | ((with_reducible refine gate_dst (N := 6) rfl ?_); refine box_event ?hg (N := 6) ?hd (cs := #[.string a0_0, .slice A0_1 l0_1.length c0_1, .slice A0_2 l0_2.length c0_2, .int .i64 a0_3, .int .i64 a0_4, .slice A0_5 l0_5.length c0_5]) (t := 29) ?hr ?_; (case hd => rfl); (case hg => rfl); (case hr => first | (go_simp; done) | (go_simp; rfl)); intro gb328 hg w14 hbox hb; have n0_ := Aside0.mk (below_step (by repeat (first | (with_reducible first | exact HB.out | apply below_alloc | apply pw_below_drewN | apply below_drew1) | exact HB.out)) hb); have n1_ := Aside0.mk (hbox); have n2_ := Aside0.mk ((by rw [hg]; exact (below_size (by repeat (first | (with_reducible first | exact HB.out | apply below_alloc | apply pw_below_drewN | apply below_drew1) | exact HB.out))) : w.heap.size ≤ gb328)); have n3_ := Aside0.mk ((by rw [hg]; exact (below_size (by repeat (first | (with_reducible first | exact HB.out | apply below_alloc | apply pw_below_drewN | apply below_drew1) | exact HB.out))) : w.heap.size ≤ gb328)); clear HB; have HB := n0_; have BK328 := n1_; have GW328 := n2_; have GE328 := n3_; clear n0_ n1_ n2_ n3_; clear hb hbox hg) | ((with_reducible refine gate_callee (f := 57) rfl ?_); refine goesL_ (some 27) rfl rfl Try.func57 (by kernel_rfl) rfl #[.pointer (some ⟨gb328, 0, none⟩), .int .i64 a1, .int .i64 a2, .int .i64 a4, .int .i64 a5] rfl (by (try simp only [List.map_toArray, List.map_cons, List.map_nil]); first | done | rfl | (simp only [List.length_drop, List.length_take]; rfl)) ?_; (with_reducible refine (spec_l13Ask.calls k gb328 a0_0 A0_1 c0_1 l0_1 A0_2 c0_2 l0_2 a0_3 a0_4 A0_5 c0_5 l0_5 a1 a2 a4 a5 t329 _ ?side1 ?side2 ?side3 ?side4 ?side5 ?side6 ?side7 A7.out).mono ?_); (case side1 => (with_reducible repeat (first | refine blk_drewN ?_ _ | refine blk_drew ?_ | refine blk_alloc ?_ _)); exact BK328.out); (case side2 => repeat (first | exact (Kd.C_below HR0_1.out HB.out) | (with_reducible refine Kd.C_alloc ?_ _) | (with_reducible refine Kd.C_drewN ?_ _) | (with_reducible refine Kd.C_drew ?_))); (case side3 => exact HC0_1.out); (case side4 => repeat (first | exact (Kd.C_below HR0_2.out HB.out) | (with_reducible refine Kd.C_alloc ?_ _) | (with_reducible refine Kd.C_drewN ?_ _) | (with_reducible refine Kd.C_drew ?_))); (case side5 => exact HC0_2.out); (case side6 => repeat (first | exact (Kd.C_below HR0_5.out HB.out) | (with_reducible refine Kd.C_alloc ?_ _) | (with_reducible refine Kd.C_drewN ?_ _) | (with_reducible refine Kd.C_drew ?_))); (case side7 => exact HC0_5.out); rintro e w' ⟨rfl, ⟨nd, rfl⟩⟩; refine ⟨_, rfl, ?_⟩) | ((with_reducible refine gate_callee (f := 58) rfl ?_); refine goesL_ (some 32) rfl rfl Try.func58 (by kernel_rfl) rfl #[.int .i64 a3, .int .i64 1, .int .i64 48] rfl (by (try simp only [List.map_toArray, List.map_cons, List.map_nil]); first | done | rfl | (simp only [List.length_drop, List.length_take]; rfl)) ?_; (with_reducible refine (spec_l00In.calls a3 1 48 true _ A9.out).mono ?_); rintro e w' ⟨rfl, ⟨nd, rfl⟩⟩; refine ⟨_, rfl, ?_⟩) | ((with_reducible refine gate_callee (f := 60) rfl ?_); refine goesL_ (some 35) rfl rfl Try.func60 (by kernel_rfl) rfl #[.int .i64 a2] rfl (by (try simp only [List.map_toArray, List.map_cons, List.map_nil]); first | done | rfl | (simp only [List.length_drop, List.length_take]; rfl)) ?_; (with_reducible refine (spec_l03Tone.calls a2 t331 _ A11.out).mono ?_); rintro e w' ⟨rfl, ⟨nd, rfl⟩⟩; refine ⟨_, rfl, ?_⟩) | ((with_reducible refine gate_callee (f := 59) rfl ?_); refine goesL_ (some 36) rfl rfl Try.func59 (by kernel_rfl) rfl #[.pointer (some ⟨gb328, 0, none⟩), .int .i64 t331] rfl (by (try simp only [List.map_toArray, List.map_cons, List.map_nil]); first | done | rfl | (simp only [List.length_drop, List.length_take]; rfl)) ?_; (with_reducible refine (spec_l05Tone.calls k gb328 a0_0 A0_1 c0_1 l0_1 A0_2 c0_2 l0_2 a0_3 a0_4 A0_5 c0_5 l0_5 t331 true _ ?side1 ?side2 ?side3 ?side4 ?side5 ?side6 ?side7 A12.out).mono ?_); (case side1 => (with_reducible repeat (first | refine blk_drewN ?_ _ | refine blk_drew ?_ | refine blk_alloc ?_ _)); exact BK328.out); (case side2 => repeat (first | exact (Kd.C_below HR0_1.out (by repeat (first | (with_reducible first | exact HB.out | apply below_alloc | apply pw_below_drewN | apply below_drew1 | refine below_set ?_ GE328.out) | exact HB.out))) | (with_reducible refine Kd.C_alloc ?_ _) | (with_reducible refine Kd.C_drewN ?_ _) | (with_reducible refine Kd.C_drew ?_))); (case side3 => exact HC0_1.out); (case side4 => repeat (first | exact (Kd.C_below HR0_2.out (by repeat (first | (with_reducible first | exact HB.out | apply below_alloc | apply pw_below_drewN | apply below_drew1 | refine below_set ?_ GE328.out) | exact HB.out))) | (with_reducible refine Kd.C_alloc ?_ _) | (with_reducible refine Kd.C_drewN ?_ _) | (with_reducible refine Kd.C_drew ?_))); (case side5 => exact HC0_2.out); (case side6 => repeat (first | exact (Kd.C_below HR0_5.out (by repeat (first | (with_reducible first | exact HB.out | apply below_alloc | apply pw_below_drewN | apply below_drew1 | refine below_set ?_ GE328.out) | exact HB.out))) | (with_reducible refine Kd.C_alloc ?_ _) | (with_reducible refine Kd.C_drewN ?_ _) | (with_reducible refine Kd.C_drew ?_))); (case side7 => exact HC0_5.out); rintro e w' ⟨rfl, ⟨nd, rfl⟩⟩; refine ⟨_, rfl, ?_⟩) | ((with_reducible refine gate_dst (N := 39) rfl ?_); refine Kd.R_lit (Kd.int .i64) _ 2 ?hg (N := 39) ?hd (xs := ([a2] : List Int)) (inner := [.int .i64 a2]) (ok := fun _ => True) (okp := fun _ => True) ?hr ?hp (fun _ hk => hk) trivial (Below.refl _ _) (Nat.le_refl _) (by simp) ?_; (case hd => rfl); (case hg => rfl); (case hr => first | (go_simp; done) | (go_simp; rfl)); (case hp => exact (Reps.one (show Kd.M (Kd.int .i64) _ _ _ a2 [.int .i64 a2] from rfl) (Reps.none _ _))); intro v334 w15 ho16 hb hg_ hnew_; clear hg_ hnew_; (first | rw [← Ny333.out] at ho16 | (simp only [Int.reduceToNat] at ho16; rw [← Ny333.out] at ho16)); have n0_ := Aside0.mk (Kd.R_lower ho16 (below_size (by repeat (first | (with_reducible first | exact HB.out | apply below_alloc | apply pw_below_drewN | apply below_drew1 | refine below_set ?_ GE328.out) | exact HB.out)))); have n1_ := Aside0.mk (blk_below (g := gb328) (o := .cells #[.string a0_0, .slice A0_1 l0_1.length c0_1, .slice A0_2 l0_2.length c0_2, .int .i64 a0_3, .int .i64 a0_4, .slice A0_5 l0_5.length c0_5] 29 (0, 0)) (by (with_reducible repeat (first | refine blk_drewN ?_ _ | refine blk_drew ?_ | refine blk_alloc ?_ _)); exact BK328.out) hb); have n2_ := Aside0.mk (below_step (by repeat (first | (with_reducible first | exact HB.out | apply below_alloc | apply pw_below_drewN | apply below_drew1 | refine below_set ?_ GE328.out) | exact HB.out)) hb); clear BK328; clear HB; have HO335 := n0_; have BK328 := n1_; have HB := n2_; clear n0_ n1_ n2_; clear hb ho16) | ((with_reducible refine gate_dst (N := 40) rfl ?_); refine Kd.R_lit k90 _ 90 ?hg (N := 40) ?hd (xs := ([] : List (S90))) (inner := []) (ok := fun _ => True) (okp := fun _ => True) ?hr ?hp (fun _ hk => hk) trivial (Below.refl _ _) (Nat.le_refl _) (by simp) ?_; (case hd => rfl); (case hg => rfl); (case hr => first | (go_simp; done) | (go_simp; rfl)); (case hp => exact (Reps.none _ _)); intro v337 w17 ho18 hb hg_ hnew_; clear hg_ hnew_; (first | rw [← Ny336.out] at ho18 | (simp only [Int.reduceToNat] at ho18; rw [← Ny336.out] at ho18)); have n0_ := Aside0.mk (Kd.R_below (by (with_reducible repeat (first | apply Kd.R_alloc | apply Kd.R_drewN | apply Kd.R_drew)); exact HO335.out) hb); have n1_ := Aside0.mk (Kd.R_lower ho18 (below_size (by repeat (first | (with_reducible first | exact HB.out | apply below_alloc | apply pw_below_drewN | apply below_drew1 | refine below_set ?_ GE328.out) | exact HB.out)))); have n2_ := Aside0.mk (blk_below (g := gb328) (o := .cells #[.string a0_0, .slice A0_1 l0_1.length c0_1, .slice A0_2 l0_2.length c0_2, .int .i64 a0_3, .int .i64 a0_4, .slice A0_5 l0_5.length c0_5] 29 (0, 0)) (by (with_reducible repeat (first | refine blk_drewN ?_ _ | refine blk_drew ?_ | refine blk_alloc ?_ _)); exact BK328.out) hb); have n3_ := Aside0.mk (below_step (by repeat (first | (with_reducible first | exact HB.out | apply below_alloc | apply pw_below_drewN | apply below_drew1 | refine below_set ?_ GE328.out) | exact HB.out)) hb); clear HO335; clear BK328; clear HB; have HO335 := n0_; have HO338 := n1_; have BK328 := n2_; have HB := n3_; clear n0_ n1_ n2_ n3_; clear hb ho18))
        go_loopg [1, 15, 16, 17] k (fun kq v1 v15 v16 v17 w' => ∃ (x1_1 : Int) (x15_1 : List Int) (x16_1 : List (S90)) (x17_1 : Int), v1 = .int .i64 x1_1 ∧ v17 = .int .i64 x17_1 ∧ Aside0 (spec_GrowMelody.l0 kq x1_1 a4 a5 x15_1 x16_1 x17_1 a0_0 l0_1 l0_2 a0_3 a0_4 l0_5 = some (r1, r2)) ∧ Aside0 (kq ≤ k) ∧ Aside0 (Kd.R (Kd.int .i64) 2 w' w.heap.size (fun _ => True) v15 x15_1) ∧ Aside0 (Kd.R k90 90 w' w.heap.size (fun _ => True) v16 x16_1) ∧ Aside0 (w'.heap[gb328]? = some (.cells #[.string a0_0, (.slice A0_1 l0_1.length c0_1), (.slice A0_2 l0_2.length c0_2), .int .i64 a0_3, .int .i64 a0_4, (.slice A0_5 l0_5.length c0_5)] 29 (0, 0))) ∧ Aside0 (Below w.heap.size w w'))
        case atStart => exact ⟨(a1), (y333), (y336), (a3), (by first | rfl | (simp; done) | (simp [*]; done)), (by first | rfl | (simp; done) | (simp [*]; done)), H', ⟨Nat.le_refl _⟩, ⟨by (with_reducible repeat (first | apply Kd.R_alloc | apply Kd.R_drewN | apply Kd.R_drew)); exact HO335.out⟩, ⟨by (with_reducible repeat (first | apply Kd.R_alloc | apply Kd.R_drewN | apply Kd.R_drew)); exact HO338.out⟩, ⟨by (with_reducible repeat (first | refine blk_drewN ?_ _ | refine blk_drew ?_ | refine blk_alloc ?_ _)); exact BK328.out⟩, ⟨by repeat (first | (with_reducible first | exact HB.out | apply below_alloc | apply pw_below_drewN | apply below_drew1 | refine below_set ?_ GE328.out) | exact HB.out)⟩⟩
        case round =>
          clear H'
          try clear c1
          try clear c2
          try clear p2
          try clear c5
          try clear c6
          try clear c8
          try clear c8b0
          try clear c8b1
          try clear c10
          try clear c13
          obtain ⟨x1_1, x15_1, x16_1, x17_1, rfl, rfl, HA, HK1, HO_15, HO_16, BK328, HB⟩ := hrel
          cases gk with
          | zero => exact absurd HA.out (by simp [spec_GrowMelody.l0])
          | succ k1 =>
            have H := HA.out
            clear HA
            simp only [spec_GrowMelody.l0] at H
            by_cases c19 : x17_1 > 0
            · rw [if_pos c19] at H
              have c19b0 : decide (0 < x17_1) = true := decide_eq_true c19
              clear c19
              replace H := Option.bind_eq_some_iff.mp H
              obtain ⟨t339, A200, H⟩ := H
              replace H : ((spec_l13Pick.f x1_1 t339).bind fun bt340 => (if 0 ≤ (wrap64 ((x15_1.length : Int) - 1)) then (if (wrap64 ((x15_1.length : Int) - 1)) < (x15_1.length : Int) then (if x16_1.length < 8796093022208 then ((some (x16_1 ++ [(⟨rd x15_1 (wrap64 ((x15_1.length : Int) - 1)), wrap64 (bt340.1 + 1)⟩ : S90)] : List (S90))).bind fun y343 => (if (wrap64 (x17_1 - (wrap64 (bt340.1 + 1)))) = 0 then (some (y343, 0)) else ((spec_l13Grow.f k1 a0_0 l0_1 l0_2 a0_3 a0_4 l0_5 bt340.2 x15_1 1 a4 a5).bind fun bt346 => (if bt346.2.2 = true then (spec_GrowMelody.l0 k1 bt346.2.1 a4 a5 bt346.1 y343 (wrap64 (x17_1 - (wrap64 (bt340.1 + 1)))) a0_0 l0_1 l0_2 a0_3 a0_4 l0_5) else (some (([] : List (S90)), 3)))))) else (none)) else (none)) else (none))) = some (r1, r2) := H
              have A20 := Aside0.mk A200
              clear A200
              replace H := Option.bind_eq_some_iff.mp H
              obtain ⟨⟨t340, t341⟩, A210, H⟩ := H
              replace H : (if 0 ≤ (wrap64 ((x15_1.length : Int) - 1)) then (if (wrap64 ((x15_1.length : Int) - 1)) < (x15_1.length : Int) then (if x16_1.length < 8796093022208 then ((some (x16_1 ++ [(⟨rd x15_1 (wrap64 ((x15_1.length : Int) - 1)), wrap64 (t340 + 1)⟩ : S90)] : List (S90))).bind fun y343 => (if (wrap64 (x17_1 - (wrap64 (t340 + 1)))) = 0 then (some (y343, 0)) else ((spec_l13Grow.f k1 a0_0 l0_1 l0_2 a0_3 a0_4 l0_5 t341 x15_1 1 a4 a5).bind fun bt346 => (if bt346.2.2 = true then (spec_GrowMelody.l0 k1 bt346.2.1 a4 a5 bt346.1 y343 (wrap64 (x17_1 - (wrap64 (t340 + 1)))) a0_0 l0_1 l0_2 a0_3 a0_4 l0_5) else (some (([] : List (S90)), 3)))))) else (none)) else (none)) else (none)) = some (r1, r2) := H
              have A21 := Aside0.mk A210
              clear A210
              obtain ⟨ji22, hji22⟩ : ∃ j_ : Int, (wrap64 ((x15_1.length : Int) - 1)) = j_ := ⟨_, rfl⟩
              replace H : (if 0 ≤ (ji22) then (if (ji22) < (x15_1.length : Int) then (if x16_1.length < 8796093022208 then ((some (x16_1 ++ [(⟨rd x15_1 (ji22), wrap64 (t340 + 1)⟩ : S90)] : List (S90))).bind fun y343 => (if (wrap64 (x17_1 - (wrap64 (t340 + 1)))) = 0 then (some (y343, 0)) else ((spec_l13Grow.f k1 a0_0 l0_1 l0_2 a0_3 a0_4 l0_5 t341 x15_1 1 a4 a5).bind fun bt346 => (if bt346.2.2 = true then (spec_GrowMelody.l0 k1 bt346.2.1 a4 a5 bt346.1 y343 (wrap64 (x17_1 - (wrap64 (t340 + 1)))) a0_0 l0_1 l0_2 a0_3 a0_4 l0_5) else (some (([] : List (S90)), 3)))))) else (none)) else (none)) else (none)) = some (r1, r2) := by first | (rw [hji22] at H; exact H) | (simp only [hji22] at H ⊢; exact H)
              (try rw [hji22] at A20)
              (try rw [hji22] at A21)
              have hji22w : (IntKind.i64.wrap ((x15_1.length : Int) - 1)) = ji22 := (i64_w _).trans hji22
              by_cases c23 : 0 ≤ (ji22)
              · rw [if_pos c23] at H
                have c23b0 : decide (0 ≤ (ji22)) = true := decide_eq_true c23
                clear c23
                by_cases c24 : (ji22) < (x15_1.length : Int)
                · rw [if_pos c24] at H
                  have c24b0 : decide ((ji22) < (x15_1.length : Int)) = true := decide_eq_true c24
                  clear c24
                  by_cases c25 : x16_1.length < 8796093022208
                  · rw [if_pos c25] at H
                    have LMc25 := Aside0.mk c25
                    clear c25
                    obtain ⟨y343, hy343⟩ : ∃ y_ : List (S90), y_ = (x16_1 ++ [(⟨rd x15_1 (ji22), wrap64 (t340 + 1)⟩ : S90)]) := ⟨_, rfl⟩
                    replace H : (if (wrap64 (x17_1 - (wrap64 (t340 + 1)))) = 0 then (some (y343, 0)) else ((spec_l13Grow.f k1 a0_0 l0_1 l0_2 a0_3 a0_4 l0_5 t341 x15_1 1 a4 a5).bind fun bt346 => (if bt346.2.2 = true then (spec_GrowMelody.l0 k1 bt346.2.1 a4 a5 bt346.1 y343 (wrap64 (x17_1 - (wrap64 (t340 + 1)))) a0_0 l0_1 l0_2 a0_3 a0_4 l0_5) else (some (([] : List (S90)), 3))))) = some (r1, r2) := by first | (rw [hy343]; with_reducible exact H) | (have H2_ := (Option.bind_some _ _).symm.trans H; rw [hy343]; with_reducible exact H2_) | (have H2_ := (Option.bind_some _ _).symm.trans H; with_reducible exact H2_) | with_reducible exact H | (rw [hy343]; exact H) | exact H
                    have Ny343 := Aside0.mk hy343
                    clear hy343
                    by_cases c26 : (wrap64 (x17_1 - (wrap64 (t340 + 1)))) = 0
                    · rw [if_pos c26] at H
                      have c26b0 : ((wrap64 (x17_1 - (wrap64 (t340 + 1)))) == 0) = true := beq_iff_eq.mpr c26
                      have c26b1 : ((wrap64 (x17_1 - (wrap64 (t340 + 1)))) != 0) = false := bne_eq_false_iff_eq.mpr c26
                      clear c26
                      simp only [Option.some.injEq, Prod.mk.injEq] at H
                      obtain ⟨rfl, rfl⟩ := H
                      go_wp2_with (first | ((with_reducible refine gate_callee (f := 68) rfl ?_); refine goesL_ (some 47) rfl rfl Try.func68 (by kernel_rfl) rfl #[.int .i64 4, .int .i64 x17_1] rfl (by (try simp only [List.map_toArray, List.map_cons, List.map_nil]); first | done | rfl | (simp only [List.length_drop, List.length_take]; rfl)) ?_; (with_reducible refine (spec_l00Min.calls 4 x17_1 t339 _ A20.out).mono ?_); rintro e w' ⟨rfl, ⟨nd, rfl⟩⟩; refine ⟨_, rfl, ?_⟩) | ((with_reducible refine gate_callee (f := 67) rfl ?_); refine goesL_ (some 48) rfl rfl Try.func67 (by kernel_rfl) rfl #[.int .i64 x1_1, .int .i64 t339] rfl (by (try simp only [List.map_toArray, List.map_cons, List.map_nil]); first | done | rfl | (simp only [List.length_drop, List.length_take]; rfl)) ?_; (with_reducible refine (spec_l13Pick.calls x1_1 t339 t340 t341 _ A21.out).mono ?_); rintro e w' ⟨rfl, ⟨nd, rfl⟩⟩; refine ⟨_, rfl, ?_⟩; obtain ⟨Ao27, co27, eo27⟩ := Kd.R_slice HO_15.out; subst eo27; have p342 : 0 ≤ ((ji22) : Int) := of_decide_eq_true (by first | (with_reducible assumption) | assumption); have q342 : (ji22) < (x15_1.length : Int) := of_decide_eq_true (by first | (with_reducible assumption) | assumption); obtain ⟨ad342, e342, hx342_0⟩ := Kd.at_int (Kd.R_reads' HO_15.out).2.2 (ji22) p342 q342; cases e342; replace p342 := eq_true p342; replace q342 := eq_true q342) | ((with_reducible refine gate_builtin (b := .append) (xs := #[.tmp 52, .tmp 62]) rfl ?_); at_builtin; refine Kd.R_append k90 (w0 := w) w.heap.size rfl (.tmp 52) (.tmp 62) 36 90 (.agg #[(.int .i64 0), (.int .i64 0)]) 16 rfl Try.underlying36 info90 rfl (by decide) (by omega) u16 x16_1 (⟨rd x15_1 (ji22), wrap64 (t340 + 1)⟩ : S90) [.int .i64 (rd x15_1 (ji22)), .int .i64 (wrap64 (t340 + 1))] (fun _ => True) (fun _ => False) rfl rfl ?aP (fun _ hk => hk.elim) ?aF ?aO ?aB ?aS ?aL ?_; (case aP => exact k90_mkM _ _ _ (⟨rd x15_1 (ji22), wrap64 (t340 + 1)⟩ : S90)); (case aB => exact (by repeat (first | (with_reducible first | exact HB.out | apply below_alloc | apply pw_below_drewN | apply below_drew1 | refine below_set ?_ GE328.out) | exact HB.out))); (case aF => exact (fun _ _ => trivial)); (case aO => exact (by (with_reducible repeat (first | apply Kd.R_alloc | apply Kd.R_drewN | apply Kd.R_drew)); exact HO_16.out)); (case aS => exact (below_size (by repeat (first | (with_reducible first | exact HB.out | apply below_alloc | apply pw_below_drewN | apply below_drew1 | refine below_set ?_ GE328.out) | exact HB.out)))); (case aL => have := LMc25.out; omega); intro v344 w28 ho hb hg hat; rw [← Ny343.out] at ho; have n0_ := Aside0.mk (Kd.R_over' (by (with_reducible repeat (first | apply Kd.R_alloc | apply Kd.R_drewN | apply Kd.R_drew)); exact HO_15.out) (Kd.R_typed (by (with_reducible repeat (first | apply Kd.R_alloc | apply Kd.R_drewN | apply Kd.R_drew)); exact HO_16.out)) (by decide) hg); have n1_ := Aside0.mk (blk_grown (g := gb328) (o := .cells #[.string a0_0, .slice A0_1 l0_1.length c0_1, .slice A0_2 l0_2.length c0_2, .int .i64 a0_3, .int .i64 a0_4, .slice A0_5 l0_5.length c0_5] 29 (0, 0)) (by (with_reducible repeat (first | refine blk_drewN ?_ _ | refine blk_drew ?_ | refine blk_alloc ?_ _)); exact BK328.out) hg (Kd.R_ne HO_16.out BK328.out (by decide))); have n2_ := Aside0.mk (hb); have n3_ := Aside0.mk (ho); clear HO_15; clear BK328; clear HB; clear HO_16; have HO_15 := n0_; have BK328 := n1_; have HB := n2_; have HO345 := n3_; clear n0_ n1_ n2_ n3_; clear ho hb hg hat))
                      go_ret2
                      exact ⟨_, by first | rfl | (simp [errW_none, errW_some] <;> rfl) | (simp only [← hji22]; first | rfl | (simp [errW_none, errW_some] <;> rfl)) | (simp [*, errW_none, errW_some] <;> rfl), by (with_reducible repeat (first | apply Kd.R_alloc | apply Kd.R_drewN | apply Kd.R_drew)); exact HO345.out, by repeat (first | (with_reducible first | exact HB.out | apply below_alloc | apply pw_below_drewN | apply below_drew1 | refine below_set ?_ GE328.out) | exact HB.out)⟩
                    · rw [if_neg c26] at H
                      have c26b0 : ((wrap64 (x17_1 - (wrap64 (t340 + 1)))) == 0) = false := beq_eq_false_iff_ne.mpr c26
                      have c26b1 : ((wrap64 (x17_1 - (wrap64 (t340 + 1)))) != 0) = true := bne_iff_ne.mpr c26
                      replace H := Option.bind_eq_some_iff.mp H
                      obtain ⟨⟨t346, t349, t350⟩, A290, H⟩ := H
                      replace H : (if t350 = true then (spec_GrowMelody.l0 k1 t349 a4 a5 t346 y343 (wrap64 (x17_1 - (wrap64 (t340 + 1)))) a0_0 l0_1 l0_2 a0_3 a0_4 l0_5) else (some (([] : List (S90)), 3))) = some (r1, r2) := H
                      have A29 := Aside0.mk A290
                      clear A290
                      by_cases c30 : t350 = true
                      · subst c30
                        have H1 : (spec_GrowMelody.l0 k1 t349 a4 a5 t346 y343 (wrap64 (x17_1 - (wrap64 (t340 + 1)))) a0_0 l0_1 l0_2 a0_3 a0_4 l0_5) = some (r1, r2) := by rw [if_pos rfl] at H; exact H
                        clear H
                        have H := H1
                        clear H1
                        have H' := Aside0.mk H
                        clear H
                        go_wp2_with (first | ((with_reducible refine gate_callee (f := 68) rfl ?_); refine goesL_ (some 47) rfl rfl Try.func68 (by kernel_rfl) rfl #[.int .i64 4, .int .i64 x17_1] rfl (by (try simp only [List.map_toArray, List.map_cons, List.map_nil]); first | done | rfl | (simp only [List.length_drop, List.length_take]; rfl)) ?_; (with_reducible refine (spec_l00Min.calls 4 x17_1 t339 _ A20.out).mono ?_); rintro e w' ⟨rfl, ⟨nd, rfl⟩⟩; refine ⟨_, rfl, ?_⟩) | ((with_reducible refine gate_callee (f := 67) rfl ?_); refine goesL_ (some 48) rfl rfl Try.func67 (by kernel_rfl) rfl #[.int .i64 x1_1, .int .i64 t339] rfl (by (try simp only [List.map_toArray, List.map_cons, List.map_nil]); first | done | rfl | (simp only [List.length_drop, List.length_take]; rfl)) ?_; (with_reducible refine (spec_l13Pick.calls x1_1 t339 t340 t341 _ A21.out).mono ?_); rintro e w' ⟨rfl, ⟨nd, rfl⟩⟩; refine ⟨_, rfl, ?_⟩; obtain ⟨Ao31, co31, eo31⟩ := Kd.R_slice HO_15.out; subst eo31; have p342 : 0 ≤ ((ji22) : Int) := of_decide_eq_true (by first | (with_reducible assumption) | assumption); have q342 : (ji22) < (x15_1.length : Int) := of_decide_eq_true (by first | (with_reducible assumption) | assumption); obtain ⟨ad342, e342, hx342_0⟩ := Kd.at_int (Kd.R_reads' HO_15.out).2.2 (ji22) p342 q342; cases e342; replace p342 := eq_true p342; replace q342 := eq_true q342) | ((with_reducible refine gate_builtin (b := .append) (xs := #[.tmp 52, .tmp 62]) rfl ?_); at_builtin; refine Kd.R_append k90 (w0 := w) w.heap.size rfl (.tmp 52) (.tmp 62) 36 90 (.agg #[(.int .i64 0), (.int .i64 0)]) 16 rfl Try.underlying36 info90 rfl (by decide) (by omega) u16 x16_1 (⟨rd x15_1 (ji22), wrap64 (t340 + 1)⟩ : S90) [.int .i64 (rd x15_1 (ji22)), .int .i64 (wrap64 (t340 + 1))] (fun _ => True) (fun _ => False) rfl rfl ?aP (fun _ hk => hk.elim) ?aF ?aO ?aB ?aS ?aL ?_; (case aP => exact k90_mkM _ _ _ (⟨rd x15_1 (ji22), wrap64 (t340 + 1)⟩ : S90)); (case aB => exact (by repeat (first | (with_reducible first | exact HB.out | apply below_alloc | apply pw_below_drewN | apply below_drew1 | refine below_set ?_ GE328.out) | exact HB.out))); (case aF => exact (fun _ _ => trivial)); (case aO => exact (by (with_reducible repeat (first | apply Kd.R_alloc | apply Kd.R_drewN | apply Kd.R_drew)); exact HO_16.out)); (case aS => exact (below_size (by repeat (first | (with_reducible first | exact HB.out | apply below_alloc | apply pw_below_drewN | apply below_drew1 | refine below_set ?_ GE328.out) | exact HB.out)))); (case aL => have := LMc25.out; omega); intro v344 w32 ho hb hg hat; rw [← Ny343.out] at ho; have n0_ := Aside0.mk (Kd.R_over' (by (with_reducible repeat (first | apply Kd.R_alloc | apply Kd.R_drewN | apply Kd.R_drew)); exact HO_15.out) (Kd.R_typed (by (with_reducible repeat (first | apply Kd.R_alloc | apply Kd.R_drewN | apply Kd.R_drew)); exact HO_16.out)) (by decide) hg); have n1_ := Aside0.mk (blk_grown (g := gb328) (o := .cells #[.string a0_0, .slice A0_1 l0_1.length c0_1, .slice A0_2 l0_2.length c0_2, .int .i64 a0_3, .int .i64 a0_4, .slice A0_5 l0_5.length c0_5] 29 (0, 0)) (by (with_reducible repeat (first | refine blk_drewN ?_ _ | refine blk_drew ?_ | refine blk_alloc ?_ _)); exact BK328.out) hg (Kd.R_ne HO_16.out BK328.out (by decide))); have n2_ := Aside0.mk (hb); have n3_ := Aside0.mk (ho); clear HO_15; clear BK328; clear HB; clear HO_16; have HO_15 := n0_; have BK328 := n1_; have HB := n2_; have HO345 := n3_; clear n0_ n1_ n2_ n3_; clear ho hb hg hat) | ((with_reducible refine gate_callee (f := 61) rfl ?_); refine goesL_ (some 75) rfl rfl Try.func61 (by kernel_rfl) rfl #[.pointer (some ⟨gb328, 0, none⟩), .int .i64 t341, .slice (some ad342) x15_1.length co31, .int .i64 1, .int .i64 a4, .int .i64 a5] rfl (by (try simp only [List.map_toArray, List.map_cons, List.map_nil]); first | done | rfl | (simp only [List.length_drop, List.length_take]; rfl)) ?_; (with_reducible refine (spec_l13Grow.calls k1 gb328 a0_0 A0_1 c0_1 l0_1 A0_2 c0_2 l0_2 a0_3 a0_4 A0_5 c0_5 l0_5 t341 (fun k_ => some k_ = (.slice (some ad342) x15_1.length co31 : Value).ownBlock) (.slice (some ad342) x15_1.length co31) x15_1 1 a4 a5 t346 t349 true w _ ?side1 ?side2 ?side3 ?side4 ?side5 ?side6 ?side7 ?side8 ?side9 A29.out).mono ?_); (case side1 => repeat (first | (with_reducible first | exact HB.out | apply below_alloc | apply pw_below_drewN | apply below_drew1 | refine below_set ?_ GE328.out) | exact HB.out)); (case side2 => (with_reducible repeat (first | refine blk_drewN ?_ _ | refine blk_drew ?_ | refine blk_alloc ?_ _)); exact BK328.out); (case side3 => exact Kd.C_kept_came (Kd.heap_int .i64) HR0_1.out (by repeat (first | (with_reducible first | exact HB.out | apply below_alloc | apply pw_below_drewN | apply below_drew1 | refine below_set ?_ GE328.out) | exact HB.out)) (fun k_ hs_ => (fun e_ => Kd.R_base HO_15.out k_ e_.symm) hs_)); (case side4 => exact HC0_1.out); (case side5 => exact Kd.C_kept_came (Kd.heap_int .i64) HR0_2.out (by repeat (first | (with_reducible first | exact HB.out | apply below_alloc | apply pw_below_drewN | apply below_drew1 | refine below_set ?_ GE328.out) | exact HB.out)) (fun k_ hs_ => (fun e_ => Kd.R_base HO_15.out k_ e_.symm) hs_)); (case side6 => exact HC0_2.out); (case side7 => exact Kd.C_kept_came (Kd.heap_slice 2 (Kd.heap_int .i64)) HR0_5.out (by repeat (first | (with_reducible first | exact HB.out | apply below_alloc | apply pw_below_drewN | apply below_drew1 | refine below_set ?_ GE328.out) | exact HB.out)) (fun k_ hs_ => (fun e_ => Kd.R_base HO_15.out k_ e_.symm) hs_)); (case side8 => exact HC0_5.out); (case side9 => exact Kd.R_tight rfl HO_15.out); rintro e w33 ⟨v347, rfl, ho0, hb, hkp⟩; refine ⟨_, rfl, ?_⟩; have n0_ := Aside0.mk (blk_kept (by (with_reducible repeat (first | refine blk_drewN ?_ _ | refine blk_drew ?_ | refine blk_alloc ?_ _)); exact BK328.out) hkp (fun hs_ => (fun e_ => (Kd.R_ne HO_15.out BK328.out (by decide)) e_) hs_)); have n1_ := Aside0.mk (Kd.R_mono (ok' := fun k_ => True) (Kd.R_keptB ((Kd.R_apart' HO345.out (Kd.R_typed HO_15.out) (by decide))) hkp (fun k_ hk_ hs_ => (hk_.2) hs_)) (fun k_ hk_ => trivial)); have n2_ := Aside0.mk (Kd.R_mono (ok' := fun k_ => True) ho0 (fun k_ hk_ => trivial)); have n3_ := Aside0.mk (hb); clear BK328; clear HO345; clear HB; clear HO_15; have BK328 := n0_; have HO345 := n1_; have HO348 := n2_; have HB := n3_; clear n0_ n1_ n2_ n3_; (try clear hb); (try clear hkp); (try clear ho0)))
                        go_roundg k1
                        case measure => have := HK1.out; omega
                        case rel => exact ⟨(t349), (t346), (y343), (wrap64 (x17_1 - (wrap64 (t340 + 1)))), (by first | rfl | (simp; done) | (simp [*]; done)), (by first | rfl | (simp; done) | (simp [*]; done)), H', ⟨by have := HK1.out; omega⟩, ⟨by (with_reducible repeat (first | apply Kd.R_alloc | apply Kd.R_drewN | apply Kd.R_drew)); exact HO348.out⟩, ⟨by (with_reducible repeat (first | apply Kd.R_alloc | apply Kd.R_drewN | apply Kd.R_drew)); exact HO345.out⟩, ⟨by (with_reducible repeat (first | refine blk_drewN ?_ _ | refine blk_drew ?_ | refine blk_alloc ?_ _)); exact BK328.out⟩, ⟨by repeat (first | (with_reducible first | exact HB.out | apply below_alloc | apply pw_below_drewN | apply below_drew1 | refine below_set ?_ GE328.out) | exact HB.out)⟩⟩
                      · replace c30 := Bool.eq_false_iff.mpr c30
                        subst c30
                        have H1 : (some (([] : List (S90)), 3)) = some (r1, r2) := by rw [if_neg (show ¬ (false = true) by decide)] at H; exact H
                        clear H
                        have H := H1
                        clear H1
                        simp only [Option.some.injEq, Prod.mk.injEq] at H
                        obtain ⟨rfl, rfl⟩ := H
                        go_wp2_with (first | ((with_reducible refine gate_callee (f := 68) rfl ?_); refine goesL_ (some 47) rfl rfl Try.func68 (by kernel_rfl) rfl #[.int .i64 4, .int .i64 x17_1] rfl (by (try simp only [List.map_toArray, List.map_cons, List.map_nil]); first | done | rfl | (simp only [List.length_drop, List.length_take]; rfl)) ?_; (with_reducible refine (spec_l00Min.calls 4 x17_1 t339 _ A20.out).mono ?_); rintro e w' ⟨rfl, ⟨nd, rfl⟩⟩; refine ⟨_, rfl, ?_⟩) | ((with_reducible refine gate_callee (f := 67) rfl ?_); refine goesL_ (some 48) rfl rfl Try.func67 (by kernel_rfl) rfl #[.int .i64 x1_1, .int .i64 t339] rfl (by (try simp only [List.map_toArray, List.map_cons, List.map_nil]); first | done | rfl | (simp only [List.length_drop, List.length_take]; rfl)) ?_; (with_reducible refine (spec_l13Pick.calls x1_1 t339 t340 t341 _ A21.out).mono ?_); rintro e w' ⟨rfl, ⟨nd, rfl⟩⟩; refine ⟨_, rfl, ?_⟩; obtain ⟨Ao34, co34, eo34⟩ := Kd.R_slice HO_15.out; subst eo34; have p342 : 0 ≤ ((ji22) : Int) := of_decide_eq_true (by first | (with_reducible assumption) | assumption); have q342 : (ji22) < (x15_1.length : Int) := of_decide_eq_true (by first | (with_reducible assumption) | assumption); obtain ⟨ad342, e342, hx342_0⟩ := Kd.at_int (Kd.R_reads' HO_15.out).2.2 (ji22) p342 q342; cases e342; replace p342 := eq_true p342; replace q342 := eq_true q342) | ((with_reducible refine gate_builtin (b := .append) (xs := #[.tmp 52, .tmp 62]) rfl ?_); at_builtin; refine Kd.R_append k90 (w0 := w) w.heap.size rfl (.tmp 52) (.tmp 62) 36 90 (.agg #[(.int .i64 0), (.int .i64 0)]) 16 rfl Try.underlying36 info90 rfl (by decide) (by omega) u16 x16_1 (⟨rd x15_1 (ji22), wrap64 (t340 + 1)⟩ : S90) [.int .i64 (rd x15_1 (ji22)), .int .i64 (wrap64 (t340 + 1))] (fun _ => True) (fun _ => False) rfl rfl ?aP (fun _ hk => hk.elim) ?aF ?aO ?aB ?aS ?aL ?_; (case aP => exact k90_mkM _ _ _ (⟨rd x15_1 (ji22), wrap64 (t340 + 1)⟩ : S90)); (case aB => exact (by repeat (first | (with_reducible first | exact HB.out | apply below_alloc | apply pw_below_drewN | apply below_drew1 | refine below_set ?_ GE328.out) | exact HB.out))); (case aF => exact (fun _ _ => trivial)); (case aO => exact (by (with_reducible repeat (first | apply Kd.R_alloc | apply Kd.R_drewN | apply Kd.R_drew)); exact HO_16.out)); (case aS => exact (below_size (by repeat (first | (with_reducible first | exact HB.out | apply below_alloc | apply pw_below_drewN | apply below_drew1 | refine below_set ?_ GE328.out) | exact HB.out)))); (case aL => have := LMc25.out; omega); intro v344 w35 ho hb hg hat; rw [← Ny343.out] at ho; have n0_ := Aside0.mk (Kd.R_over' (by (with_reducible repeat (first | apply Kd.R_alloc | apply Kd.R_drewN | apply Kd.R_drew)); exact HO_15.out) (Kd.R_typed (by (with_reducible repeat (first | apply Kd.R_alloc | apply Kd.R_drewN | apply Kd.R_drew)); exact HO_16.out)) (by decide) hg); have n1_ := Aside0.mk (blk_grown (g := gb328) (o := .cells #[.string a0_0, .slice A0_1 l0_1.length c0_1, .slice A0_2 l0_2.length c0_2, .int .i64 a0_3, .int .i64 a0_4, .slice A0_5 l0_5.length c0_5] 29 (0, 0)) (by (with_reducible repeat (first | refine blk_drewN ?_ _ | refine blk_drew ?_ | refine blk_alloc ?_ _)); exact BK328.out) hg (Kd.R_ne HO_16.out BK328.out (by decide))); have n2_ := Aside0.mk (hb); have n3_ := Aside0.mk (ho); clear HO_15; clear BK328; clear HB; clear HO_16; have HO_15 := n0_; have BK328 := n1_; have HB := n2_; have HO345 := n3_; clear n0_ n1_ n2_ n3_; clear ho hb hg hat) | ((with_reducible refine gate_callee (f := 61) rfl ?_); refine goesL_ (some 75) rfl rfl Try.func61 (by kernel_rfl) rfl #[.pointer (some ⟨gb328, 0, none⟩), .int .i64 t341, .slice (some ad342) x15_1.length co34, .int .i64 1, .int .i64 a4, .int .i64 a5] rfl (by (try simp only [List.map_toArray, List.map_cons, List.map_nil]); first | done | rfl | (simp only [List.length_drop, List.length_take]; rfl)) ?_; (with_reducible refine (spec_l13Grow.calls k1 gb328 a0_0 A0_1 c0_1 l0_1 A0_2 c0_2 l0_2 a0_3 a0_4 A0_5 c0_5 l0_5 t341 (fun k_ => some k_ = (.slice (some ad342) x15_1.length co34 : Value).ownBlock) (.slice (some ad342) x15_1.length co34) x15_1 1 a4 a5 t346 t349 false w _ ?side1 ?side2 ?side3 ?side4 ?side5 ?side6 ?side7 ?side8 ?side9 A29.out).mono ?_); (case side1 => repeat (first | (with_reducible first | exact HB.out | apply below_alloc | apply pw_below_drewN | apply below_drew1 | refine below_set ?_ GE328.out) | exact HB.out)); (case side2 => (with_reducible repeat (first | refine blk_drewN ?_ _ | refine blk_drew ?_ | refine blk_alloc ?_ _)); exact BK328.out); (case side3 => exact Kd.C_kept_came (Kd.heap_int .i64) HR0_1.out (by repeat (first | (with_reducible first | exact HB.out | apply below_alloc | apply pw_below_drewN | apply below_drew1 | refine below_set ?_ GE328.out) | exact HB.out)) (fun k_ hs_ => (fun e_ => Kd.R_base HO_15.out k_ e_.symm) hs_)); (case side4 => exact HC0_1.out); (case side5 => exact Kd.C_kept_came (Kd.heap_int .i64) HR0_2.out (by repeat (first | (with_reducible first | exact HB.out | apply below_alloc | apply pw_below_drewN | apply below_drew1 | refine below_set ?_ GE328.out) | exact HB.out)) (fun k_ hs_ => (fun e_ => Kd.R_base HO_15.out k_ e_.symm) hs_)); (case side6 => exact HC0_2.out); (case side7 => exact Kd.C_kept_came (Kd.heap_slice 2 (Kd.heap_int .i64)) HR0_5.out (by repeat (first | (with_reducible first | exact HB.out | apply below_alloc | apply pw_below_drewN | apply below_drew1 | refine below_set ?_ GE328.out) | exact HB.out)) (fun k_ hs_ => (fun e_ => Kd.R_base HO_15.out k_ e_.symm) hs_)); (case side8 => exact HC0_5.out); (case side9 => exact Kd.R_tight rfl HO_15.out); rintro e w36 ⟨v347, rfl, ho0, hb, hkp⟩; refine ⟨_, rfl, ?_⟩; have n0_ := Aside0.mk (blk_kept (by (with_reducible repeat (first | refine blk_drewN ?_ _ | refine blk_drew ?_ | refine blk_alloc ?_ _)); exact BK328.out) hkp (fun hs_ => (fun e_ => (Kd.R_ne HO_15.out BK328.out (by decide)) e_) hs_)); have n1_ := Aside0.mk (Kd.R_mono (ok' := fun k_ => True) (Kd.R_keptB ((Kd.R_apart' HO345.out (Kd.R_typed HO_15.out) (by decide))) hkp (fun k_ hk_ hs_ => (hk_.2) hs_)) (fun k_ hk_ => trivial)); have n2_ := Aside0.mk (Kd.R_mono (ok' := fun k_ => True) ho0 (fun k_ hk_ => trivial)); have n3_ := Aside0.mk (hb); clear BK328; clear HO345; clear HB; clear HO_15; have BK328 := n0_; have HO345 := n1_; have HO348 := n2_; have HB := n3_; clear n0_ n1_ n2_ n3_; (try clear hb); (try clear hkp); (try clear ho0)))
                        go_ret2
                        exact ⟨_, by first | rfl | (simp [errW_none, errW_some] <;> rfl) | (simp only [← hji22]; first | rfl | (simp [errW_none, errW_some] <;> rfl)) | (simp [*, errW_none, errW_some] <;> rfl), by first | exact Kd.R_nil _ _ _ _ _ | exact Kd.N_nil _ _ _ _ _ | exact Kd.V_nil _ _ _ _ _ | exact Kd.Q_nil _ _ _ _ _ | exact Kd.S_nil _ _ _ _ _, by repeat (first | (with_reducible first | exact HB.out | apply below_alloc | apply pw_below_drewN | apply below_drew1 | refine below_set ?_ GE328.out) | exact HB.out)⟩
                  · rw [if_neg c25] at H
                    exact absurd H (by simp)
                · rw [if_neg c24] at H
                  exact absurd H (by simp)
              · rw [if_neg c23] at H
                exact absurd H (by simp)
            · rw [if_neg c19] at H
              have c19b0 : decide (0 < x17_1) = false := decide_eq_false c19
              clear c19
              simp only [Option.some.injEq, Prod.mk.injEq] at H
              obtain ⟨rfl, rfl⟩ := H
              go_wp2
              go_ret2
              exact ⟨_, by first | rfl | (simp [errW_none, errW_some] <;> rfl) | (simp [*, errW_none, errW_some] <;> rfl), by (with_reducible repeat (first | apply Kd.R_alloc | apply Kd.R_drewN | apply Kd.R_drew)); exact HO_16.out, by repeat (first | (with_reducible first | exact HB.out | apply below_alloc | apply pw_below_drewN | apply below_drew1 | refine below_set ?_ GE328.out) | exact HB.out)⟩
      · replace c13 := Bool.eq_false_iff.mpr c13
        subst c13
        have H1 : (some (([] : List (S90)), 3)) = some (r1, r2) := by rw [if_neg (show ¬ (false = true) by decide)] at H; exact H
        clear H
        have H := H1
        clear H1
        simp only [Option.some.injEq, Prod.mk.injEq] at H
        obtain ⟨rfl, rfl⟩ := H
        go_enter Try.func22, Try.ntmps22
        go_wp2_with (first | ((with_reducible refine gate_dst (N := 6) rfl ?_); refine box_event ?hg (N := 6) ?hd (cs := #[.string a0_0, .slice A0_1 l0_1.length c0_1, .slice A0_2 l0_2.length c0_2, .int .i64 a0_3, .int .i64 a0_4, .slice A0_5 l0_5.length c0_5]) (t := 29) ?hr ?_; (case hd => rfl); (case hg => rfl); (case hr => first | (go_simp; done) | (go_simp; rfl)); intro gb328 hg w37 hbox hb; have n0_ := Aside0.mk (below_step (by repeat (first | (with_reducible first | exact HB.out | apply below_alloc | apply pw_below_drewN | apply below_drew1) | exact HB.out)) hb); have n1_ := Aside0.mk (hbox); have n2_ := Aside0.mk ((by rw [hg]; exact (below_size (by repeat (first | (with_reducible first | exact HB.out | apply below_alloc | apply pw_below_drewN | apply below_drew1) | exact HB.out))) : w.heap.size ≤ gb328)); have n3_ := Aside0.mk ((by rw [hg]; exact (below_size (by repeat (first | (with_reducible first | exact HB.out | apply below_alloc | apply pw_below_drewN | apply below_drew1) | exact HB.out))) : w.heap.size ≤ gb328)); clear HB; have HB := n0_; have BK328 := n1_; have GW328 := n2_; have GE328 := n3_; clear n0_ n1_ n2_ n3_; clear hb hbox hg) | ((with_reducible refine gate_callee (f := 57) rfl ?_); refine goesL_ (some 27) rfl rfl Try.func57 (by kernel_rfl) rfl #[.pointer (some ⟨gb328, 0, none⟩), .int .i64 a1, .int .i64 a2, .int .i64 a4, .int .i64 a5] rfl (by (try simp only [List.map_toArray, List.map_cons, List.map_nil]); first | done | rfl | (simp only [List.length_drop, List.length_take]; rfl)) ?_; (with_reducible refine (spec_l13Ask.calls k gb328 a0_0 A0_1 c0_1 l0_1 A0_2 c0_2 l0_2 a0_3 a0_4 A0_5 c0_5 l0_5 a1 a2 a4 a5 t329 _ ?side1 ?side2 ?side3 ?side4 ?side5 ?side6 ?side7 A7.out).mono ?_); (case side1 => (with_reducible repeat (first | refine blk_drewN ?_ _ | refine blk_drew ?_ | refine blk_alloc ?_ _)); exact BK328.out); (case side2 => repeat (first | exact (Kd.C_below HR0_1.out HB.out) | (with_reducible refine Kd.C_alloc ?_ _) | (with_reducible refine Kd.C_drewN ?_ _) | (with_reducible refine Kd.C_drew ?_))); (case side3 => exact HC0_1.out); (case side4 => repeat (first | exact (Kd.C_below HR0_2.out HB.out) | (with_reducible refine Kd.C_alloc ?_ _) | (with_reducible refine Kd.C_drewN ?_ _) | (with_reducible refine Kd.C_drew ?_))); (case side5 => exact HC0_2.out); (case side6 => repeat (first | exact (Kd.C_below HR0_5.out HB.out) | (with_reducible refine Kd.C_alloc ?_ _) | (with_reducible refine Kd.C_drewN ?_ _) | (with_reducible refine Kd.C_drew ?_))); (case side7 => exact HC0_5.out); rintro e w' ⟨rfl, ⟨nd, rfl⟩⟩; refine ⟨_, rfl, ?_⟩) | ((with_reducible refine gate_callee (f := 58) rfl ?_); refine goesL_ (some 32) rfl rfl Try.func58 (by kernel_rfl) rfl #[.int .i64 a3, .int .i64 1, .int .i64 48] rfl (by (try simp only [List.map_toArray, List.map_cons, List.map_nil]); first | done | rfl | (simp only [List.length_drop, List.length_take]; rfl)) ?_; (with_reducible refine (spec_l00In.calls a3 1 48 true _ A9.out).mono ?_); rintro e w' ⟨rfl, ⟨nd, rfl⟩⟩; refine ⟨_, rfl, ?_⟩) | ((with_reducible refine gate_callee (f := 60) rfl ?_); refine goesL_ (some 35) rfl rfl Try.func60 (by kernel_rfl) rfl #[.int .i64 a2] rfl (by (try simp only [List.map_toArray, List.map_cons, List.map_nil]); first | done | rfl | (simp only [List.length_drop, List.length_take]; rfl)) ?_; (with_reducible refine (spec_l03Tone.calls a2 t331 _ A11.out).mono ?_); rintro e w' ⟨rfl, ⟨nd, rfl⟩⟩; refine ⟨_, rfl, ?_⟩) | ((with_reducible refine gate_callee (f := 59) rfl ?_); refine goesL_ (some 36) rfl rfl Try.func59 (by kernel_rfl) rfl #[.pointer (some ⟨gb328, 0, none⟩), .int .i64 t331] rfl (by (try simp only [List.map_toArray, List.map_cons, List.map_nil]); first | done | rfl | (simp only [List.length_drop, List.length_take]; rfl)) ?_; (with_reducible refine (spec_l05Tone.calls k gb328 a0_0 A0_1 c0_1 l0_1 A0_2 c0_2 l0_2 a0_3 a0_4 A0_5 c0_5 l0_5 t331 false _ ?side1 ?side2 ?side3 ?side4 ?side5 ?side6 ?side7 A12.out).mono ?_); (case side1 => (with_reducible repeat (first | refine blk_drewN ?_ _ | refine blk_drew ?_ | refine blk_alloc ?_ _)); exact BK328.out); (case side2 => repeat (first | exact (Kd.C_below HR0_1.out (by repeat (first | (with_reducible first | exact HB.out | apply below_alloc | apply pw_below_drewN | apply below_drew1 | refine below_set ?_ GE328.out) | exact HB.out))) | (with_reducible refine Kd.C_alloc ?_ _) | (with_reducible refine Kd.C_drewN ?_ _) | (with_reducible refine Kd.C_drew ?_))); (case side3 => exact HC0_1.out); (case side4 => repeat (first | exact (Kd.C_below HR0_2.out (by repeat (first | (with_reducible first | exact HB.out | apply below_alloc | apply pw_below_drewN | apply below_drew1 | refine below_set ?_ GE328.out) | exact HB.out))) | (with_reducible refine Kd.C_alloc ?_ _) | (with_reducible refine Kd.C_drewN ?_ _) | (with_reducible refine Kd.C_drew ?_))); (case side5 => exact HC0_2.out); (case side6 => repeat (first | exact (Kd.C_below HR0_5.out (by repeat (first | (with_reducible first | exact HB.out | apply below_alloc | apply pw_below_drewN | apply below_drew1 | refine below_set ?_ GE328.out) | exact HB.out))) | (with_reducible refine Kd.C_alloc ?_ _) | (with_reducible refine Kd.C_drewN ?_ _) | (with_reducible refine Kd.C_drew ?_))); (case side7 => exact HC0_5.out); rintro e w' ⟨rfl, ⟨nd, rfl⟩⟩; refine ⟨_, rfl, ?_⟩))
        go_ret2
        exact ⟨_, by first | rfl | (simp [errW_none, errW_some] <;> rfl) | (simp [*, errW_none, errW_some] <;> rfl), by first | exact Kd.R_nil _ _ _ _ _ | exact Kd.N_nil _ _ _ _ _ | exact Kd.V_nil _ _ _ _ _ | exact Kd.Q_nil _ _ _ _ _ | exact Kd.S_nil _ _ _ _ _, by repeat (first | (with_reducible first | exact HB.out | apply below_alloc | apply pw_below_drewN | apply below_drew1 | refine below_set ?_ GE328.out) | exact HB.out)⟩
    · replace c10 := Bool.eq_false_iff.mpr c10
      subst c10
      have H1 : (some (([] : List (S90)), 2)) = some (r1, r2) := by rw [if_neg (show ¬ (false = true) by decide)] at H; exact H
      clear H
      have H := H1
      clear H1
      simp only [Option.some.injEq, Prod.mk.injEq] at H
      obtain ⟨rfl, rfl⟩ := H
      go_enter Try.func22, Try.ntmps22
      go_wp2_with (first | ((with_reducible refine gate_dst (N := 6) rfl ?_); refine box_event ?hg (N := 6) ?hd (cs := #[.string a0_0, .slice A0_1 l0_1.length c0_1, .slice A0_2 l0_2.length c0_2, .int .i64 a0_3, .int .i64 a0_4, .slice A0_5 l0_5.length c0_5]) (t := 29) ?hr ?_; (case hd => rfl); (case hg => rfl); (case hr => first | (go_simp; done) | (go_simp; rfl)); intro gb328 hg w38 hbox hb; have n0_ := Aside0.mk (below_step (by repeat (first | (with_reducible first | exact HB.out | apply below_alloc | apply pw_below_drewN | apply below_drew1) | exact HB.out)) hb); have n1_ := Aside0.mk (hbox); have n2_ := Aside0.mk ((by rw [hg]; exact (below_size (by repeat (first | (with_reducible first | exact HB.out | apply below_alloc | apply pw_below_drewN | apply below_drew1) | exact HB.out))) : w.heap.size ≤ gb328)); have n3_ := Aside0.mk ((by rw [hg]; exact (below_size (by repeat (first | (with_reducible first | exact HB.out | apply below_alloc | apply pw_below_drewN | apply below_drew1) | exact HB.out))) : w.heap.size ≤ gb328)); clear HB; have HB := n0_; have BK328 := n1_; have GW328 := n2_; have GE328 := n3_; clear n0_ n1_ n2_ n3_; clear hb hbox hg) | ((with_reducible refine gate_callee (f := 57) rfl ?_); refine goesL_ (some 27) rfl rfl Try.func57 (by kernel_rfl) rfl #[.pointer (some ⟨gb328, 0, none⟩), .int .i64 a1, .int .i64 a2, .int .i64 a4, .int .i64 a5] rfl (by (try simp only [List.map_toArray, List.map_cons, List.map_nil]); first | done | rfl | (simp only [List.length_drop, List.length_take]; rfl)) ?_; (with_reducible refine (spec_l13Ask.calls k gb328 a0_0 A0_1 c0_1 l0_1 A0_2 c0_2 l0_2 a0_3 a0_4 A0_5 c0_5 l0_5 a1 a2 a4 a5 t329 _ ?side1 ?side2 ?side3 ?side4 ?side5 ?side6 ?side7 A7.out).mono ?_); (case side1 => (with_reducible repeat (first | refine blk_drewN ?_ _ | refine blk_drew ?_ | refine blk_alloc ?_ _)); exact BK328.out); (case side2 => repeat (first | exact (Kd.C_below HR0_1.out HB.out) | (with_reducible refine Kd.C_alloc ?_ _) | (with_reducible refine Kd.C_drewN ?_ _) | (with_reducible refine Kd.C_drew ?_))); (case side3 => exact HC0_1.out); (case side4 => repeat (first | exact (Kd.C_below HR0_2.out HB.out) | (with_reducible refine Kd.C_alloc ?_ _) | (with_reducible refine Kd.C_drewN ?_ _) | (with_reducible refine Kd.C_drew ?_))); (case side5 => exact HC0_2.out); (case side6 => repeat (first | exact (Kd.C_below HR0_5.out HB.out) | (with_reducible refine Kd.C_alloc ?_ _) | (with_reducible refine Kd.C_drewN ?_ _) | (with_reducible refine Kd.C_drew ?_))); (case side7 => exact HC0_5.out); rintro e w' ⟨rfl, ⟨nd, rfl⟩⟩; refine ⟨_, rfl, ?_⟩) | ((with_reducible refine gate_callee (f := 58) rfl ?_); refine goesL_ (some 32) rfl rfl Try.func58 (by kernel_rfl) rfl #[.int .i64 a3, .int .i64 1, .int .i64 48] rfl (by (try simp only [List.map_toArray, List.map_cons, List.map_nil]); first | done | rfl | (simp only [List.length_drop, List.length_take]; rfl)) ?_; (with_reducible refine (spec_l00In.calls a3 1 48 false _ A9.out).mono ?_); rintro e w' ⟨rfl, ⟨nd, rfl⟩⟩; refine ⟨_, rfl, ?_⟩))
      go_ret2
      exact ⟨_, by first | rfl | (simp [errW_none, errW_some] <;> rfl) | (simp [*, errW_none, errW_some] <;> rfl), by first | exact Kd.R_nil _ _ _ _ _ | exact Kd.N_nil _ _ _ _ _ | exact Kd.V_nil _ _ _ _ _ | exact Kd.Q_nil _ _ _ _ _ | exact Kd.S_nil _ _ _ _ _, by repeat (first | (with_reducible first | exact HB.out | apply below_alloc | apply pw_below_drewN | apply below_drew1 | refine below_set ?_ GE328.out) | exact HB.out)⟩
  · rw [if_neg c8] at H
    have c8b0 : (t329 == 0) = false := beq_eq_false_iff_ne.mpr c8
    have c8b1 : (t329 != 0) = true := bne_iff_ne.mpr c8
    simp only [Option.some.injEq, Prod.mk.injEq] at H
    obtain ⟨rfl, rfl⟩ := H
    go_enter Try.func22, Try.ntmps22
    go_wp2_with (first | ((with_reducible refine gate_dst (N := 6) rfl ?_); refine box_event ?hg (N := 6) ?hd (cs := #[.string a0_0, .slice A0_1 l0_1.length c0_1, .slice A0_2 l0_2.length c0_2, .int .i64 a0_3, .int .i64 a0_4, .slice A0_5 l0_5.length c0_5]) (t := 29) ?hr ?_; (case hd => rfl); (case hg => rfl); (case hr => first | (go_simp; done) | (go_simp; rfl)); intro gb328 hg w39 hbox hb; have n0_ := Aside0.mk (below_step (by repeat (first | (with_reducible first | exact HB.out | apply below_alloc | apply pw_below_drewN | apply below_drew1) | exact HB.out)) hb); have n1_ := Aside0.mk (hbox); have n2_ := Aside0.mk ((by rw [hg]; exact (below_size (by repeat (first | (with_reducible first | exact HB.out | apply below_alloc | apply pw_below_drewN | apply below_drew1) | exact HB.out))) : w.heap.size ≤ gb328)); have n3_ := Aside0.mk ((by rw [hg]; exact (below_size (by repeat (first | (with_reducible first | exact HB.out | apply below_alloc | apply pw_below_drewN | apply below_drew1) | exact HB.out))) : w.heap.size ≤ gb328)); clear HB; have HB := n0_; have BK328 := n1_; have GW328 := n2_; have GE328 := n3_; clear n0_ n1_ n2_ n3_; clear hb hbox hg) | ((with_reducible refine gate_callee (f := 57) rfl ?_); refine goesL_ (some 27) rfl rfl Try.func57 (by kernel_rfl) rfl #[.pointer (some ⟨gb328, 0, none⟩), .int .i64 a1, .int .i64 a2, .int .i64 a4, .int .i64 a5] rfl (by (try simp only [List.map_toArray, List.map_cons, List.map_nil]); first | done | rfl | (simp only [List.length_drop, List.length_take]; rfl)) ?_; (with_reducible refine (spec_l13Ask.calls k gb328 a0_0 A0_1 c0_1 l0_1 A0_2 c0_2 l0_2 a0_3 a0_4 A0_5 c0_5 l0_5 a1 a2 a4 a5 t329 _ ?side1 ?side2 ?side3 ?side4 ?side5 ?side6 ?side7 A7.out).mono ?_); (case side1 => (with_reducible repeat (first | refine blk_drewN ?_ _ | refine blk_drew ?_ | refine blk_alloc ?_ _)); exact BK328.out); (case side2 => repeat (first | exact (Kd.C_below HR0_1.out HB.out) | (with_reducible refine Kd.C_alloc ?_ _) | (with_reducible refine Kd.C_drewN ?_ _) | (with_reducible refine Kd.C_drew ?_))); (case side3 => exact HC0_1.out); (case side4 => repeat (first | exact (Kd.C_below HR0_2.out HB.out) | (with_reducible refine Kd.C_alloc ?_ _) | (with_reducible refine Kd.C_drewN ?_ _) | (with_reducible refine Kd.C_drew ?_))); (case side5 => exact HC0_2.out); (case side6 => repeat (first | exact (Kd.C_below HR0_5.out HB.out) | (with_reducible refine Kd.C_alloc ?_ _) | (with_reducible refine Kd.C_drewN ?_ _) | (with_reducible refine Kd.C_drew ?_))); (case side7 => exact HC0_5.out); rintro e w' ⟨rfl, ⟨nd, rfl⟩⟩; refine ⟨_, rfl, ?_⟩))
    go_ret2
    exact ⟨_, by first | rfl | (simp [errW_none, errW_some] <;> rfl) | (simp [*, errW_none, errW_some] <;> rfl), by first | exact Kd.R_nil _ _ _ _ _ | exact Kd.N_nil _ _ _ _ _ | exact Kd.V_nil _ _ _ _ _ | exact Kd.Q_nil _ _ _ _ _ | exact Kd.S_nil _ _ _ _ _, by repeat (first | (with_reducible first | exact HB.out | apply below_alloc | apply pw_below_drewN | apply below_drew1 | refine below_set ?_ GE328.out) | exact HB.out)⟩
end Go.Proofs.Ytinlejhffokbaaa.P
end

section
/- How the arguments of this seat's laws read, as the kinds of the printed words: an argument that the row reads has the cells of its kind, and its numbers, texts and lengths are in bounds. No condition. -/
namespace Go.Proofs.Ytinlejhffokbaaa.P
open Go.RowKit Go.ChangeShapes Go.WideShapes Go.Proofs.YtinlejhffokbaaaW.PrintWords Go.Proofs.YtinlejhffokbaaaW.PrintLast
set_option linter.unusedVariables false

section
variable {H : Type} {enc : TypeId × Value → H} {P : Program} {w : World} {held : Bool}

theorem list_choose {α : Type} (p : Nat → α → Prop) : ∀ n, (∀ i, i < n → ∃ y, p i y) → ∃ ys : List α, ys.length = n ∧ ∀ (i : Nat) (y : α), ys[i]? = some y → p i y := by
  intro n
  induction n with
  | zero => exact fun _ => ⟨[], rfl, fun i y h => by simp at h⟩
  | succ n ih =>
    intro h
    obtain ⟨ys, hl, hp⟩ := ih (fun i hi => h i (by omega))
    obtain ⟨z, hz⟩ := h n (by omega)
    refine ⟨ys ++ [z], by simp [hl], fun i y hy => ?_⟩
    rcases Nat.lt_or_ge i ys.length with hi | hi
    · rw [List.getElem?_append_left hi] at hy
      exact hp i y hy
    · rw [List.getElem?_append_right hi] at hy
      have h0 : i - ys.length = 0 := by
        rcases Nat.eq_zero_or_pos (i - ys.length) with h1 | h1
        · exact h1
        · rw [List.getElem?_eq_none (by simp; omega)] at hy
          cases hy
      rw [h0] at hy
      simp only [List.getElem?_cons_zero, Option.some.injEq] at hy
      subst hy
      have : i = n := by omega
      subst this
      exact hz

theorem len_cons {n : Nat} {cs : List Value} (h : cs.length = n + 1) : ∃ c t, cs = c :: t ∧ t.length = n := by
  cases cs with
  | nil => simp at h
  | cons c t => exact ⟨c, t, rfl, by simpa using h⟩

theorem opn_int {t : TypeId} {k : IntKind} (ht : P.underlying t = some (.int k)) {fuel : Nat} {cs : List Value} {x : DataW H × List MemPlace} (h : DataW.trod enc P w 0 (fun _ => true) held fuel t cs = some x) :
    ∃ y : Int, (Kd.int k).K w y cs ∧ (Lit.int k y).wf = true := by
  obtain ⟨n, hcs, _, hw⟩ := DataW.trod_int ht h
  exact ⟨n, hcs, hw⟩

theorem opn_bool {t : TypeId} (ht : P.underlying t = some .bool) {fuel : Nat} {cs : List Value} {x : DataW H × List MemPlace} (h : DataW.trod enc P w 0 (fun _ => true) held fuel t cs = some x) :
    ∃ y : Bool, Kd.bool.K w y cs ∧ True := by
  obtain ⟨b, hcs, _⟩ := DataW.trod_bool ht h
  exact ⟨b, hcs, trivial⟩

theorem opn_string {t : TypeId} (ht : P.underlying t = some .string) {fuel : Nat} {cs : List Value} {x : DataW H × List MemPlace} (h : DataW.trod enc P w 0 (fun _ => true) held fuel t cs = some x) :
    ∃ y : ByteArray, Kd.string.K w y cs ∧ y.size ≤ maxLen := by
  obtain ⟨s, hcs, _, hs⟩ := DataW.trod_string ht h
  exact ⟨s, hcs, hs⟩

theorem opn_slice {α : Type} (d : Kd α) (ok : α → Prop) {t e : TypeId} (ht : P.underlying t = some (.slice e)) (ce : P.cellsOf e = d.sz)
    (hE : ∀ {fuel : Nat} {cs : List Value} {x : DataW H × List MemPlace}, DataW.trod enc P w 0 (fun _ => true) held fuel e cs = some x → ∃ y : α, d.K w y cs ∧ ok y)
    {fuel : Nat} {cs : List Value} {x : DataW H × List MemPlace} (h : DataW.trod enc P w 0 (fun _ => true) held fuel t cs = some x) :
    ∃ ys : List α, (Kd.slice e d).K w ys cs ∧ ys.length ≤ maxLen ∧ ∀ y ∈ ys, ok y := by
  rcases Go.Deep.open_slice ht h with ⟨rfl, _⟩ | ⟨a, len, cap, m, n, D, Pl, rfl, hb, hl, hm, hmm, rfl, hx⟩
  · exact ⟨[], ⟨none, 0, rfl, Nat.le_refl _, rfl, by simp, fun h => absurd h (Nat.lt_irrefl 0)⟩, Nat.zero_le _, by simp⟩
  · simp only [if_true] at hmm
    subst hmm
    obtain ⟨ys, hyl, hy⟩ := list_choose (fun i (y : α) => (∃ cs', w.cells? 0 (a.add (i * P.cellsOf e)) (P.cellsOf e) = some cs' ∧ d.K w y cs') ∧ ok y) len (fun i hi => by
      obtain ⟨cs', h1, h2⟩ := hx i (by omega)
      obtain ⟨y, hk, ho⟩ := hE h2
      exact ⟨y, ⟨cs', h1, hk⟩, ho⟩)
    subst hyl
    refine ⟨ys, ⟨some a, m, rfl, hl, rfl, Nat.le_trans hl (by unfold maxLen at hm; exact hm), fun _ => ⟨a, rfl, fun j p hp => ?_⟩⟩, Nat.le_trans hl hm, fun y hmem => ?_⟩
    · obtain ⟨⟨cs', h1, hk⟩, _⟩ := hy j p hp
      obtain ⟨_, hlen, hcell⟩ := World.cells?_some h1
      rw [ce] at hlen hcell
      refine ⟨cs', hlen, hk, fun i u hu => ?_⟩
      have hi : i < d.sz := by
        rw [← hlen]
        exact (List.getElem?_eq_some_iff.1 hu).1
      have := hcell i hi
      rw [Go.Deep.add_add] at this
      rw [this, hu]
    · obtain ⟨i, hi⟩ := List.getElem?_of_mem hmem
      exact (hy i y hi).2
end
theorem opn_L22 {H : Type} {enc : TypeId × Value → H} {w : World} {held : Bool} {fuel : Nat} {cs : List Value} {x : DataW H × List MemPlace} (h : DataW.trod enc Try.prog w 0 (fun _ => true) held fuel 22 cs = some x) :
    ∃ y : List Int, (Kd.slice 2 (Kd.int .i64)).K w y cs ∧ y.length ≤ maxLen ∧ ∀ y0 ∈ y, (Lit.int .i64 y0).wf = true :=
  opn_slice (Kd.int .i64) (fun y0 => (Lit.int .i64 y0).wf = true) Try.underlying22 (show Try.prog.cellsOf 2 = _ by kernel_rfl) (fun h => (opn_int Try.underlying2) h) h
theorem opn_L23 {H : Type} {enc : TypeId × Value → H} {w : World} {held : Bool} {fuel : Nat} {cs : List Value} {x : DataW H × List MemPlace} (h : DataW.trod enc Try.prog w 0 (fun _ => true) held fuel 23 cs = some x) :
    ∃ y : List (List Int), (Kd.slice 22 (Kd.slice 2 (Kd.int .i64))).K w y cs ∧ y.length ≤ maxLen ∧ ∀ y0 ∈ y, (y0.length ≤ maxLen ∧ ∀ y1 ∈ y0, (Lit.int .i64 y1).wf = true) :=
  opn_slice (Kd.slice 2 (Kd.int .i64)) (fun y0 => (y0.length ≤ maxLen ∧ ∀ y1 ∈ y0, (Lit.int .i64 y1).wf = true)) Try.underlying23 (show Try.prog.cellsOf 22 = _ by kernel_rfl) (fun h => opn_L22 h) h
theorem opn_S25 {H : Type} {enc : TypeId × Value → H} {w : World} {held : Bool} {fuel : Nat} {cs : List Value} {x : DataW H × List MemPlace} (h : DataW.trod enc Try.prog w 0 (fun _ => true) held fuel 25 cs = some x) :
    ∃ y : S25, k25.K w y cs ∧ y.f0.size ≤ maxLen ∧ (y.f1.length ≤ maxLen ∧ ∀ y0 ∈ y.f1, (Lit.int .i64 y0).wf = true) ∧ (y.f2.length ≤ maxLen ∧ ∀ y0 ∈ y.f2, (Lit.int .i64 y0).wf = true) ∧ (Lit.int .i64 y.f3).wf = true ∧ (Lit.int .i64 y.f4).wf = true ∧ (y.f5.length ≤ maxLen ∧ ∀ y0 ∈ y.f5, (y0.length ≤ maxLen ∧ ∀ y1 ∈ y0, (Lit.int .i64 y1).wf = true)) := by
  obtain ⟨xs, n, _, _, hl, hlen, hf⟩ := DataW.trod_struct Try.underlying25 h
  rw [show Try.prog.cellsOf 25 = 6 from by kernel_rfl] at hl
  obtain ⟨c0, t0, rfl, hl0⟩ := len_cons hl
  obtain ⟨c1, t1, rfl, hl1⟩ := len_cons hl0
  obtain ⟨c2, t2, rfl, hl2⟩ := len_cons hl1
  obtain ⟨c3, t3, rfl, hl3⟩ := len_cons hl2
  obtain ⟨c4, t4, rfl, hl4⟩ := len_cons hl3
  obtain ⟨c5, t5, rfl, hl5⟩ := len_cons hl4
  obtain rfl := List.eq_nil_of_length_eq_zero hl5
  have h0 := hf 0 _ rfl
  rw [List.getElem?_eq_getElem (show 0 < xs.length by rw [hlen]; decide)] at h0
  obtain ⟨y0, k0, w0⟩ := (opn_string Try.underlying9) (show DataW.trod enc Try.prog w 0 (fun _ => true) held n 9 [c0] = some _ from by simpa [show Try.prog.cellsOf 9 = 1 from by kernel_rfl] using h0)
  have h1 := hf 1 _ rfl
  rw [List.getElem?_eq_getElem (show 1 < xs.length by rw [hlen]; decide)] at h1
  obtain ⟨y1, k1, w1⟩ := opn_L22 (show DataW.trod enc Try.prog w 0 (fun _ => true) held n 22 [c1] = some _ from by simpa [show Try.prog.cellsOf 22 = 1 from by kernel_rfl] using h1)
  have h2 := hf 2 _ rfl
  rw [List.getElem?_eq_getElem (show 2 < xs.length by rw [hlen]; decide)] at h2
  obtain ⟨y2, k2, w2⟩ := opn_L22 (show DataW.trod enc Try.prog w 0 (fun _ => true) held n 22 [c2] = some _ from by simpa [show Try.prog.cellsOf 22 = 1 from by kernel_rfl] using h2)
  have h3 := hf 3 _ rfl
  rw [List.getElem?_eq_getElem (show 3 < xs.length by rw [hlen]; decide)] at h3
  obtain ⟨y3, k3, w3⟩ := (opn_int Try.underlying2) (show DataW.trod enc Try.prog w 0 (fun _ => true) held n 2 [c3] = some _ from by simpa [show Try.prog.cellsOf 2 = 1 from by kernel_rfl] using h3)
  have h4 := hf 4 _ rfl
  rw [List.getElem?_eq_getElem (show 4 < xs.length by rw [hlen]; decide)] at h4
  obtain ⟨y4, k4, w4⟩ := (opn_int Try.underlying2) (show DataW.trod enc Try.prog w 0 (fun _ => true) held n 2 [c4] = some _ from by simpa [show Try.prog.cellsOf 2 = 1 from by kernel_rfl] using h4)
  have h5 := hf 5 _ rfl
  rw [List.getElem?_eq_getElem (show 5 < xs.length by rw [hlen]; decide)] at h5
  obtain ⟨y5, k5, w5⟩ := opn_L23 (show DataW.trod enc Try.prog w 0 (fun _ => true) held n 23 [c5] = some _ from by simpa [show Try.prog.cellsOf 23 = 1 from by kernel_rfl] using h5)
  exact ⟨⟨y0, y1, y2, y3, y4, y5⟩, ⟨[c0], [c1, c2, c3, c4, c5], rfl, k0, ⟨[c1], [c2, c3, c4, c5], rfl, k1, ⟨[c2], [c3, c4, c5], rfl, k2, ⟨[c3], [c4, c5], rfl, k3, ⟨[c4], [c5], rfl, k4, k5⟩⟩⟩⟩⟩, w0, w1, w2, w3, w4, w5⟩
end Go.Proofs.Ytinlejhffokbaaa.P
end

section
namespace Go.Proofs.Ytinlejhffokbaaa.P
open Go.RowKit Go.Proofs.Ytinlejhffokbaaa.P Go.Proofs.YtinlejhffokbaaaW.PrintWords Go.Proofs.YtinlejhffokbaaaW.PrintLast Go.Proofs.YtinlejhffokbaaaW.PrintMore
set_option linter.unusedVariables false
set_option linter.unusedSimpArgs false
theorem Ev.succ {α : Type} {g : Nat → Option α} {r : α} (h : Ev (fun k => g (k + 1)) r) : Ev g r := Ev.step (f := fun k => g (k + 1)) (fun _ => rfl) h
theorem Ev.ite_pos {α : Type} {c : Prop} [Decidable c] {f g : Nat → Option α} {r : α} (hc : c) (h : Ev f r) : Ev (fun k => if c then f k else g k) r := Ev.congr (fun _ => if_pos hc) h
theorem Ev.ite_neg {α : Type} {c : Prop} [Decidable c] {f g : Nat → Option α} {r : α} (hc : ¬ c) (h : Ev g r) : Ev (fun k => if c then f k else g k) r := Ev.congr (fun _ => if_neg hc) h
theorem Ev.bindc {α β : Type} {o : Option α} {f : Nat → α → Option β} {a : α} {r : β} (ho : o = some a) (h : Ev (fun k => f k a) r) : Ev (fun k => o.bind (f k)) r := Ev.congr (fun _ => by rw [ho]; rfl) h
theorem Ev.konst {α : Type} {o : Option α} {r : α} (h : o = some r) : Ev (fun _ => o) r := ⟨0, fun _ _ => h⟩
theorem Ev.both {α : Type} {g : Nat → Option α} {r q : α} (h : Ev g r) (h' : Ev g q) : r = q := by
  obtain ⟨a, ha⟩ := h
  obtain ⟨b, hb⟩ := h'
  have h1 := ha (max a b) (Nat.le_max_left _ _)
  have h2 := hb (max a b) (Nat.le_max_right _ _)
  rw [h1] at h2
  exact Option.some.inj h2
theorem Ev.cast {α : Type} {g : Nat → Option α} {r q : α} (h : Ev g r) (e : r = q) : Ev g q := e ▸ h
theorem Ev.out {α : Type} {g : Nat → Option α} {r : α} (h : Ev g r) : ∃ k, g k = some r := h.rounds

/-- A sum, a difference that needs no wrap. -/
theorem w64 {x : Int} (h0 : -9223372036854775808 ≤ x) (h1 : x ≤ 9223372036854775807) : wrap64 x = x := by unfold wrap64; omega
theorem mn_eq (a b : Int) : mn a b = min a b := by unfold mn; split <;> omega
theorem mx_eq (a b : Int) : mx a b = max a b := by unfold mx; split <;> omega
theorem wf64 {x : Int} (h : (Lit.int .i64 x).wf = true) : -9223372036854775808 ≤ x ∧ x ≤ 9223372036854775807 := by
  simp [Lit.wf, IntKind.min, IntKind.max, IntKind.signed, IntKind.bits] at h
  omega
theorem Ev.and {α : Type} {g : Nat → Option α} {r : α} {P : Nat → Prop} (h : Ev g r) (h' : ∃ K, ∀ k, K ≤ k → P k) : ∃ K, ∀ k, K ≤ k → (g k = some r ∧ P k) := by
  obtain ⟨a, ha⟩ := h
  obtain ⟨b, hb⟩ := h'
  exact ⟨max a b, fun k hk => ⟨ha k (Nat.le_trans (Nat.le_max_left _ _) hk), hb k (Nat.le_trans (Nat.le_max_right _ _) hk)⟩⟩
theorem impl_abs_eq (a : Int) (h0 : -9223372036854775807 ≤ a) (h1 : a ≤ 9223372036854775807) : impl_abs.f a = some (max a (-a)) := by
  unfold impl_abs.f
  rw [w64 (x := -a) (by omega) (by omega), mx_eq]
end Go.Proofs.Ytinlejhffokbaaa.P
end

section
namespace Go.Proofs.Ytinlejhffokbaaa.P
open Go.RowKit Go.Proofs.YtinlejhffokbaaaW.PrintWords Go.Proofs.YtinlejhffokbaaaW.PrintLast Go.Proofs.YtinlejhffokbaaaW.PrintMore
attribute [local go_sem] max2_int min2_int max_two min_two max_three min_three max_four min_four   -- for this text's walks alone
set_option linter.unusedVariables false
set_option linter.unusedSimpArgs false
/-! ### laws_heldInt64S: function 21 -/
def laws_heldInt64S.l0 : Nat → List Int → Int → Int → Option (Int)
 | 0, _, _, _ => none
 | k + 1, x0, x1, x5 => if x5 < (x0.length : Int) then (if 0 ≤ x5 then (if (rd x0 x5) = x1 then (laws_heldInt64S.l0 k x0 (wrap64 (x1 + 1)) (wrap64 (x5 + 1))) else (some (-1))) else (none)) else (some x1)
def laws_heldInt64S.f (k : Nat) (l0 : List Int) (a1 : Int) : Option (Int) := laws_heldInt64S.l0 k l0 a1 0
theorem laws_heldInt64S.mono_l : ∀ k, (∀ y0 y1 y2, LeO (laws_heldInt64S.l0 k y0 y1 y2) (laws_heldInt64S.l0 (k + 1) y0 y1 y2))
 | 0 => fun _ _ _ r h => by simp [laws_heldInt64S.l0] at h
 | k + 1 => by
  have ih0 := laws_heldInt64S.mono_l k
  ·intro y0 y1 y2
   unfold laws_heldInt64S.l0
   repeat' first
   | (with_reducible exact ih0 _ _ _)
   | (with_reducible exact LeO.refl _)
   | (with_reducible exact LeO.none _)
   | (with_reducible refine LeO.ite ?_ ?_)
   | (with_reducible refine LeO.bind ?_ (fun _ => ?_))
   | exact ih0 _ _ _
   | exact LeO.none _
   | refine LeO.ite ?_ ?_
   | refine LeO.bind ?_ (fun _ => ?_)
theorem laws_heldInt64S.mono : ∀ a0 a1 k, LeO (laws_heldInt64S.f k a0 a1) (laws_heldInt64S.f (k + 1) a0 a1) := by
 intro a0 a1 k
 have ih0 := laws_heldInt64S.mono_l k
 unfold laws_heldInt64S.f
 repeat' first
   | (with_reducible exact ih0 _ _ _)
   | (with_reducible exact LeO.refl _)
   | (with_reducible exact LeO.none _)
   | (with_reducible refine LeO.ite ?_ ?_)
   | (with_reducible refine LeO.bind ?_ (fun _ => ?_))
   | exact ih0 _ _ _
   | exact LeO.none _
   | refine LeO.ite ?_ ?_
   | refine LeO.bind ?_ (fun _ => ?_)
set_option maxHeartbeats 8000000 in
set_option maxRecDepth 100000 in
theorem laws_heldInt64S.calls (k : Nat) (A0 : Option Addr) (c0 : Nat) (l0 : List Int) (a1 : Int) (r : Int) (w : World) (hr0 : Kd.C (Kd.int .i64) w A0 l0.length l0) (hc0 : l0.length ≤ c0) (h : laws_heldInt64S.f k l0 a1 = some r) :
  Calls Try.prog 21 #[.slice A0 l0.length c0, .int .i64 a1] w fun e w' => e = .returned (.int .i64 r) ∧ Drawn0 w w' := by
 have HR0 := Aside0.mk hr0
 have HC0 := Aside0.mk hc0
 clear hr0 hc0
 have H : (laws_heldInt64S.l0 k l0 a1 0) = some r := h
 clear h
 have H' := Aside0.mk H
 clear H
 go_enter Try.func21, Try.ntmps21
 go_wp2
 go_loopg [1, 5] k (fun kq v1 v5 w' => ∃ (x1_1 : Int) (x5_1 : Int), v1 = .int .i64 x1_1 ∧ v5 = .int .i64 x5_1 ∧ Aside0 (laws_heldInt64S.l0 kq l0 x1_1 x5_1 = some r) ∧ Aside0 (kq ≤ k) ∧ Drawn0 w w')
 case atStart => exact ⟨(a1), (0), (by first | rfl | (simp; done) | (simp [*]; done)), (by first | rfl | (simp; done) | (simp [*]; done)), H', ⟨Nat.le_refl _⟩, by repeat (first | exact Drawn0.refl _ | apply Drawn0.step)⟩
 case round =>
  clear H'
  try clear c2
  try clear p2
  obtain ⟨x1_1, x5_1, rfl, rfl, HA, HK1, ⟨m1, rfl⟩⟩ := hrel
  cases gk with
  | zero => exact absurd HA.out (by simp [laws_heldInt64S.l0])
  | succ k1 =>
   have H := HA.out
   clear HA
   simp only [laws_heldInt64S.l0] at H
   by_cases c3 : x5_1 < (l0.length : Int)
   ·rw [if_pos c3] at H
    have c3b0 : decide (x5_1 < (l0.length : Int)) = true := decide_eq_true c3
    clear c3
    by_cases c4 : 0 ≤ x5_1
    ·rw [if_pos c4] at H
     have c4b0 : decide (0 ≤ x5_1) = true := decide_eq_true c4
     clear c4
     by_cases c5 : (rd l0 x5_1) = x1_1
     ·rw [if_pos c5] at H
      have c5b0 : ((rd l0 x5_1) == x1_1) = true := beq_iff_eq.mpr c5
      have c5b1 : ((rd l0 x5_1) != x1_1) = false := bne_eq_false_iff_eq.mpr c5
      clear c5
      have H' := Aside0.mk H
      clear H
      have p327 : 0 ≤ (x5_1 : Int) := of_decide_eq_true (by assumption)
      have q327 : x5_1 < (l0.length : Int) := of_decide_eq_true (by assumption)
      obtain ⟨ad327, e327, hx327_0⟩ := Kd.at_int HR0.out x5_1 p327 q327
      cases e327
      replace p327 := eq_true p327
      replace q327 := eq_true q327
      go_wp2
      go_roundg k1
      case measure => have := HK1.out; omega
      case rel => exact ⟨(wrap64 (x1_1 + 1)), (wrap64 (x5_1 + 1)), (by first | rfl | (simp; done) | (simp [*]; done)), (by first | rfl | (simp; done) | (simp [*]; done)), H', ⟨by have := HK1.out; omega⟩, by repeat (first | exact Drawn0.refl _ | apply Drawn0.step)⟩
     ·rw [if_neg c5] at H
      have c5b0 : ((rd l0 x5_1) == x1_1) = false := beq_eq_false_iff_ne.mpr c5
      have c5b1 : ((rd l0 x5_1) != x1_1) = true := bne_iff_ne.mpr c5
      obtain rfl := Option.some.inj H
      have p327 : 0 ≤ (x5_1 : Int) := of_decide_eq_true (by assumption)
      have q327 : x5_1 < (l0.length : Int) := of_decide_eq_true (by assumption)
      obtain ⟨ad327, e327, hx327_0⟩ := Kd.at_int HR0.out x5_1 p327 q327
      cases e327
      replace p327 := eq_true p327
      replace q327 := eq_true q327
      go_wp2
      go_ret
      exact ⟨by first | rfl | (simp; done) | (simp [*]; done), by repeat (first | exact Drawn0.refl _ | apply Drawn0.step)⟩
    ·rw [if_neg c4] at H
     exact absurd H (by simp)
   ·rw [if_neg c3] at H
    have c3b0 : decide (x5_1 < (l0.length : Int)) = false := decide_eq_false c3
    clear c3
    obtain rfl := Option.some.inj H
    go_wp2
    go_ret
    exact ⟨by first | rfl | (simp; done) | (simp [*]; done), by repeat (first | exact Drawn0.refl _ | apply Drawn0.step)⟩
end Go.Proofs.Ytinlejhffokbaaa.P
end

section
namespace Go.Proofs.Ytinlejhffokbaaa.P
open Go.RowKit Go.Proofs.Ytinlejhffokbaaa.P Go.Proofs.YtinlejhffokbaaaW.PrintWords Go.Proofs.YtinlejhffokbaaaW.PrintLast Go.Proofs.YtinlejhffokbaaaW.PrintMore
set_option linter.unusedVariables false
set_option linter.unusedSimpArgs false
theorem set_at {l : List Int} {i : Nat} {v : Int} {m : List Int} (h : i < l.length) (e : l.take i = m) : (l.set i v).take (i + 1) = m ++ [v] := by
  rw [List.take_succ_eq_append_getElem (by simpa using h)]
  simp [List.take_set_of_le, e]
theorem rd_at {l : List Int} {i : Nat} (h : i < l.length) : rd l (i : Int) = l[i] := by simp [rd, h]

theorem toInt64S_l0 (l : List Int) (hl : l.length ≤ 9223372036854775807) : ∀ (d i : Nat) (m : List Int), l.length - i = d → i ≤ l.length → m.length = l.length → m.take i = l.take i → Ev (fun k => laws_toInt64S.l0 k l m i) l := by
  intro d
  induction d with
  | zero =>
    intro i m hd hi hm ht
    have : i = l.length := by omega
    subst this
    refine Ev.succ ?_
    simp only [laws_toInt64S.l0]
    refine Ev.ite_neg (by omega) ?_
    rw [List.take_of_length_le (by omega), List.take_of_length_le (Nat.le_refl _)] at ht
    rw [ht]
    exact Ev.now _
  | succ d ih =>
    intro i m hd hi hm ht
    refine Ev.succ ?_
    simp only [laws_toInt64S.l0]
    refine Ev.ite_pos (by omega) ?_
    refine Ev.ite_pos (by omega) ?_
    refine Ev.ite_pos (by omega) ?_
    rw [w64 (x := (i : Int) + 1) (by omega) (by omega), rd_at (show i < l.length by omega), Int.toNat_natCast]
    have := ih (i + 1) (m.set i l[i]) (by omega) (by omega) (by simpa using hm) (by
      rw [set_at (by omega) ht, ← List.take_succ_eq_append_getElem (by omega)])
    simpa using this
theorem toInt64S_ev (l : List Int) (h : l.length ≤ 35184372088832) : Ev (fun k => laws_toInt64S.f k l) l := by
  unfold laws_toInt64S.f
  refine Ev.ite_pos (by omega) ?_
  refine Ev.ite_pos (by omega) ?_
  exact toInt64S_l0 l (by omega) l.length 0 _ (by omega) (by omega) (by simp) (by simp)

theorem eqInt64S_l0 (a b : List Int) (hl : a.length ≤ 9223372036854775807) (hab : a.length = b.length) : ∀ (d i : Nat), a.length - i = d → i ≤ a.length → a.take i = b.take i → Ev (fun k => laws_eqInt64S.l0 k a b i) (decide (a = b)) := by
  intro d
  induction d with
  | zero =>
    intro i hd hi ht
    refine Ev.succ ?_
    simp only [laws_eqInt64S.l0]
    refine Ev.ite_neg (by omega) ?_
    rw [List.take_of_length_le (by omega), List.take_of_length_le (by omega)] at ht
    simpa [ht] using Ev.now true
  | succ d ih =>
    intro i hd hi ht
    refine Ev.succ ?_
    simp only [laws_eqInt64S.l0]
    refine Ev.ite_pos (by omega) ?_
    refine Ev.ite_pos (by omega) ?_
    refine Ev.ite_pos (by omega) ?_
    by_cases he : rd a i = rd b i
    · refine Ev.ite_pos he ?_
      rw [w64 (x := (i : Int) + 1) (by omega) (by omega)]
      rw [rd_at (show i < a.length by omega), rd_at (show i < b.length by omega)] at he
      have := ih (i + 1) (by omega) (by omega) (by
        rw [List.take_succ_eq_append_getElem (by omega), List.take_succ_eq_append_getElem (by omega), ht, he])
      simpa using this
    · refine Ev.ite_neg he ?_
      have : ¬ a = b := fun e => he (by rw [e])
      simpa [this] using Ev.now false
theorem eqInt64S_ev (a b : List Int) (hl : a.length ≤ 9223372036854775807) : Ev (fun k => laws_eqInt64S.f k a b) (decide (a = b)) := by
  unfold laws_eqInt64S.f
  by_cases h : a.length = b.length
  · refine Ev.ite_pos (by omega) ?_
    exact eqInt64S_l0 a b hl h a.length 0 (by omega) (by omega) (by simp)
  · refine Ev.ite_neg (by omega) ?_
    have : ¬ a = b := fun e => h (by rw [e])
    simpa [this] using Ev.now false
theorem eqInt64S_self (a : List Int) (hl : a.length ≤ 9223372036854775807) : Ev (fun k => laws_eqInt64S.f k a a) true := by simpa using eqInt64S_ev a a hl

/-- The marks from v on: n of them. -/
def marks : Nat → Int → List Int
  | 0, _ => []
  | n + 1, v => v :: marks n (v + 1)
theorem marks_length : ∀ n v, (marks n v).length = n
  | 0, _ => rfl
  | n + 1, v => by simp [marks, marks_length n]
theorem marks_get : ∀ n v i, i < n → (marks n v)[i]? = some (v + i)
  | 0, _, i, h => by omega
  | n + 1, v, 0, _ => by simp [marks]
  | n + 1, v, i + 1, h => by
    simp only [marks, List.getElem?_cons_succ]
    rw [marks_get n (v + 1) i (by omega)]
    congr 1
    omega
theorem markInt64S_l0 (n : Nat) (v : Int) (hn : n ≤ 4611686018427387904) (h0 : 0 ≤ v) (hv : v ≤ 4611686018427387903) : ∀ (d i : Nat) (l : List Int), n - i = d → i ≤ n → l.length = n → (∀ j, j < i → l[j]? = some (v + j)) →
    Ev (fun k => laws_markInt64S.l0 k l (v + i) i) (v + n, marks n v) := by
  intro d
  induction d with
  | zero =>
    intro i l hd hi hl hj
    have : i = n := by omega
    subst this
    refine Ev.succ ?_
    simp only [laws_markInt64S.l0]
    refine Ev.ite_neg (by omega) ?_
    have : l = marks i v := by
      refine List.ext_getElem? fun j => ?_
      rcases Nat.lt_or_ge j i with h | h
      · rw [hj j h, marks_get i v j h]
      · rw [List.getElem?_eq_none (by omega), List.getElem?_eq_none (by rw [marks_length]; omega)]
    rw [this]
    exact Ev.now _
  | succ d ih =>
    intro i l hd hi hl hj
    refine Ev.succ ?_
    simp only [laws_markInt64S.l0]
    refine Ev.ite_pos (by omega) ?_
    refine Ev.ite_pos (by omega) ?_
    rw [w64 (x := (i : Int) + 1) (by omega) (by omega), w64 (x := v + (i : Int) + 1) (by omega) (by omega), Int.toNat_natCast]
    have := ih (i + 1) (l.set i (v + i)) (by omega) (by omega) (by simpa using hl) (fun j hj' => by
      rcases Nat.lt_or_ge j i with h | h
      · rw [List.getElem?_set_ne (by omega), hj j h]
      · have : j = i := by omega
        subst this
        rw [List.getElem?_set_self (by omega)])
    simpa [Int.add_assoc] using this
theorem markInt64S_ev (l : List Int) (v : Int) (hn : l.length ≤ 4611686018427387904) (h0 : 0 ≤ v) (hv : v ≤ 4611686018427387903) : Ev (fun k => laws_markInt64S.f k l v) (v + l.length, marks l.length v) := by
  unfold laws_markInt64S.f
  have := markInt64S_l0 l.length v hn h0 hv l.length 0 l (by omega) (by omega) rfl (fun j hj => by omega)
  simpa using this
theorem heldInt64S_l0 (n : Nat) (v : Int) (hn : n ≤ 4611686018427387904) (h0 : 0 ≤ v) (hv : v ≤ 4611686018427387903) : ∀ (d i : Nat), n - i = d → i ≤ n →
    Ev (fun k => laws_heldInt64S.l0 k (marks n v) (v + i) i) (v + n) := by
  intro d
  induction d with
  | zero =>
    intro i hd hi
    have : i = n := by omega
    subst this
    refine Ev.succ ?_
    simp only [laws_heldInt64S.l0]
    refine Ev.ite_neg (by rw [marks_length]; omega) ?_
    exact Ev.now _
  | succ d ih =>
    intro i hd hi
    refine Ev.succ ?_
    simp only [laws_heldInt64S.l0]
    refine Ev.ite_pos (by rw [marks_length]; omega) ?_
    refine Ev.ite_pos (by omega) ?_
    refine Ev.ite_pos (by
      have h := marks_get n v i (by omega)
      simp only [rd, Int.toNat_natCast, List.getD_eq_getElem?_getD, h, Option.getD_some]) ?_
    rw [w64 (x := (i : Int) + 1) (by omega) (by omega), w64 (x := v + (i : Int) + 1) (by omega) (by omega)]
    have := ih (i + 1) (by omega) (by omega)
    simpa [Int.add_assoc] using this
theorem heldInt64S_ev (n : Nat) (v : Int) (hn : n ≤ 4611686018427387904) (h0 : 0 ≤ v) (hv : v ≤ 4611686018427387903) : Ev (fun k => laws_heldInt64S.f k (marks n v) v) (v + n) := by
  unfold laws_heldInt64S.f
  have := heldInt64S_l0 n v hn h0 hv n 0 (by omega) (by omega)
  simpa using this
end Go.Proofs.Ytinlejhffokbaaa.P
end
