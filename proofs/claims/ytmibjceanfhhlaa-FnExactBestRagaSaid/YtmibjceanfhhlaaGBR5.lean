/- Texts of this seat, merged: QImplRagasok1, QImplRagaAny, QImplRagasok. -/
import Derived.Test.YtmibjceanfhhlaaGBR1
import Derived.Test.YtmibjceanfhhlaaGBR2
import Derived.Test.YtmibjceanfhhlaaGBR4
section
namespace Go.Proofs.Ytmibjceanfhhlaa.P
open Go.RowKit Go.Proofs.YtmibjceanfhhlaaW.PrintWords Go.Proofs.YtmibjceanfhhlaaW.PrintLast Go.Proofs.YtmibjceanfhhlaaW.PrintMore
attribute [local go_sem] max2_int min2_int max_two min_two max_three min_three max_four min_four   -- for this text's walks alone
set_option linter.unusedVariables false
set_option linter.unusedSimpArgs false
/-! ### impl_ragasOk_1: function 32 -/
def impl_ragasOk_1.f (k : Nat) (a0_0 : ByteArray) (l0_1 : List Int) (l0_2 : List Int) (a0_3 : Int) (a0_4 : Int) (l0_5 : List (List Int)) : Option (Bool) := (impl_ValidRaga.f k a0_0 l0_1 l0_2 a0_3 a0_4 l0_5).bind fun t259 => (some (!t259))
set_option maxHeartbeats 8000000 in
set_option maxRecDepth 100000 in
theorem impl_ragasOk_1.calls (k : Nat) (a0_0 : ByteArray) (A0_1 : Option Addr) (c0_1 : Nat) (l0_1 : List Int) (A0_2 : Option Addr) (c0_2 : Nat) (l0_2 : List Int) (a0_3 : Int) (a0_4 : Int) (A0_5 : Option Addr) (c0_5 : Nat) (l0_5 : List (List Int)) (r : Bool) (w : World) (hr0_1 : Kd.C (Kd.int .i64) w A0_1 l0_1.length l0_1) (hc0_1 : l0_1.length ≤ c0_1) (hr0_2 : Kd.C (Kd.int .i64) w A0_2 l0_2.length l0_2) (hc0_2 : l0_2.length ≤ c0_2) (hr0_5 : Kd.C (Kd.slice 2 (Kd.int .i64)) w A0_5 l0_5.length l0_5) (hc0_5 : l0_5.length ≤ c0_5) (h : impl_ragasOk_1.f k a0_0 l0_1 l0_2 a0_3 a0_4 l0_5 = some r) :
  Calls Try.prog 32 #[.agg #[.string a0_0, .slice A0_1 l0_1.length c0_1, .slice A0_2 l0_2.length c0_2, .int .i64 a0_3, .int .i64 a0_4, .slice A0_5 l0_5.length c0_5]] w fun e w' => e = .returned (.bool r) ∧ Below w.heap.size w w' := by
 have hu42 := Try.underlying42
 have HR0_1 := Aside0.mk hr0_1
 have HC0_1 := Aside0.mk hc0_1
 clear hr0_1 hc0_1
 have HR0_2 := Aside0.mk hr0_2
 have HC0_2 := Aside0.mk hc0_2
 clear hr0_2 hc0_2
 have HR0_5 := Aside0.mk hr0_5
 have HC0_5 := Aside0.mk hc0_5
 clear hr0_5 hc0_5
 have HB := Aside0.mk (Below.refl w.heap.size w)
 have H : ((impl_ValidRaga.f k a0_0 l0_1 l0_2 a0_3 a0_4 l0_5).bind fun t259 => (some (!t259))) = some r := h
 clear h
 replace H := Option.bind_eq_some_iff.mp H
 obtain ⟨t259, A20, H⟩ := H
 replace H : (some (!t259)) = some r := H
 have A2 := Aside0.mk A20
 clear A20
 obtain rfl := Option.some.inj H
 go_enter Try.func32, Try.ntmps32
 go_wp2_with (first | ((with_reducible refine gate_dst (N := 1) rfl ?_); refine box_event ?hg (N := 1) ?hd (cs := #[.string a0_0, .slice A0_1 l0_1.length c0_1, .slice A0_2 l0_2.length c0_2, .int .i64 a0_3, .int .i64 a0_4, .slice A0_5 l0_5.length c0_5]) (t := 42) ?hr ?_; (case hd => rfl); (case hg => rfl); (case hr => first | (go_simp; done) | (go_simp; rfl)); intro gb258 hg w3 hbox hb; have n0_ := Aside0.mk (below_step (bb_ HB.out) hb); have n1_ := Aside0.mk (hbox); have n2_ := Aside0.mk ((by rw [hg]; exact (below_size (bb_ HB.out)) : w.heap.size ≤ gb258)); have n3_ := Aside0.mk ((by rw [hg]; exact (below_size (bb_ HB.out)) : w.heap.size ≤ gb258)); clear HB; have HB := n0_; have BK258 := n1_; have GW258 := n2_; have GE258 := n3_; clear n0_ n1_ n2_ n3_; clear hb hbox hg; obtain ⟨hcz4_0, hcz4_1, hcz4_2, hcz4_3, hcz4_4, hcz4_5, hfz4_0⟩ := bx6_ (w := w3) BK258.out) | ((with_reducible refine gate_callee (f := 33) rfl ?_); refine goesL_ (some 4) rfl rfl Try.func33 (by kernel_rfl) rfl #[.agg #[.string a0_0, .slice A0_1 l0_1.length c0_1, .slice A0_2 l0_2.length c0_2, .int .i64 a0_3, .int .i64 a0_4, .slice A0_5 l0_5.length c0_5]] rfl av_ ?_; (with_reducible refine (impl_ValidRaga.calls k a0_0 _ _ l0_1 _ _ l0_2 a0_3 a0_4 _ _ l0_5 t259 _ ?side1 ?side2 ?side3 ?side4 ?side5 ?side6 A2.out).mono ?_); (case side1 => exact (Kd.C_below HR0_1.out HB.out)); (case side2 => exact HC0_1.out); (case side3 => exact (Kd.C_below HR0_2.out HB.out)); (case side4 => exact HC0_2.out); (case side5 => exact (Kd.C_below HR0_5.out HB.out)); (case side6 => exact HC0_5.out); rintro e w5 ⟨rfl, hb⟩; refine ⟨_, rfl, ?_⟩; have n0_ := Aside0.mk (blk_below (g := gb258) (o := .cells #[.string a0_0, .slice A0_1 l0_1.length c0_1, .slice A0_2 l0_2.length c0_2, .int .i64 a0_3, .int .i64 a0_4, .slice A0_5 l0_5.length c0_5] 42 (0, 0)) (by repeat first | exact BK258.out | refine blk_drewN ?_ _ | refine blk_drew ?_ | refine blk_alloc ?_ _) hb); have n1_ := Aside0.mk (below_step (bg_ HB.out GE258.out) hb); clear BK258; clear HB; have BK258 := n0_; have HB := n1_; clear n0_ n1_; (try clear hb); (try clear hb2); (try clear hk); (try clear hi)))
 go_ret
 exact ⟨by first | rfl | (simp [errW_none, errW_some] <;> rfl) | (simp [*, errW_none, errW_some] <;> rfl), bg_ HB.out GE258.out⟩
/-! ### impl_raga_any: function 131032 (given) -/
def impl_raga_any.f (k : Nat) (l0 : List S42) : Option Bool := if (l0.all fun p => (impl_ragasOk_1.f k p.f0 p.f1 p.f2 p.f3 p.f4 p.f5).isSome) = true then some (l0.any fun p => impl_ragasOk_1.f k p.f0 p.f1 p.f2 p.f3 p.f4 p.f5 == some true) else none
theorem impl_raga_any.calls (k : Nat) (A0 : Option Addr) (c0 : Nat) (l0 : List S42) (r : Bool) (w : World) (hr0 : Kd.C k42 w A0 l0.length l0) (hc0 : l0.length ≤ c0) (h : impl_raga_any.f k l0 = some r) :
    Calls Try.prog 31 #[.slice A0 l0.length c0, .func (.func 32) #[] #[]] w fun e w' => e = .returned (.bool r) ∧ Below w.heap.size w w' := by
  unfold impl_raga_any.f at h
  split at h
  · rename_i ha
    have hr := Option.some.inj h
    have hs : ∀ j, j < l0.length → impl_ragasOk_1.f k (l0.getD j z42).f0 (l0.getD j z42).f1 (l0.getD j z42).f2 (l0.getD j z42).f3 (l0.getD j z42).f4 (l0.getD j z42).f5 = some (impl_ragasOk_1.f k (l0.getD j z42).f0 (l0.getD j z42).f1 (l0.getD j z42).f2 (l0.getD j z42).f3 (l0.getD j z42).f4 (l0.getD j z42).f5 == some true) := by
      intro j hj
      have h1 := List.all_eq_true.1 ha (l0.getD j z42) (by
        rw [List.getD_eq_getElem?_getD, List.getElem?_eq_getElem hj]
        exact List.getElem_mem hj)
      obtain ⟨b, hb⟩ := Option.isSome_iff_exists.1 h1
      rw [hb]
      cases b <;> rfl
    have hC := impl_Raga_31.calls 32 #[] (enters_of Try.func32 (by kernel_rfl) rfl) l0 (fun j => impl_ragasOk_1.f k (l0.getD j z42).f0 (l0.getD j z42).f1 (l0.getD j z42).f2 (l0.getD j z42).f3 (l0.getD j z42).f4 (l0.getD j z42).f5 == some true) A0 c0 w hr0 hr0.2.1
      (fun W j hj hb A1 c1 A2 c2 A5 c5 m1 g1 m2 g2 m5 g5 => (impl_ragasOk_1.calls k _ A1 c1 _ A2 c2 _ _ _ A5 c5 _ _ W g1 m1 g2 m2 g5 m5 (hs j hj)).mono fun e w' ⟨he, hw⟩ => ⟨he, below_step hb hw⟩)
    rw [range_any_list l0 z42 (fun p => impl_ragasOk_1.f k p.f0 p.f1 p.f2 p.f3 p.f4 p.f5 == some true), hr] at hC
    exact hC
  · exact absurd h (by simp)
/-! ### impl_ragasOk: function 17 -/
def impl_ragasOk.f (k : Nat) (l0 : List (S42)) : Option (Bool) := if (l0.length : Int) ≤ 12 then ((impl_raga_any.f k l0).bind fun t260 => (some (!t260))) else (some false)
set_option maxHeartbeats 8000000 in
set_option maxRecDepth 100000 in
theorem impl_ragasOk.calls (k : Nat) (A0 : Option Addr) (c0 : Nat) (l0 : List (S42)) (r : Bool) (w : World) (hr0 : Kd.C k42 w A0 l0.length l0) (hc0 : l0.length ≤ c0) (h : impl_ragasOk.f k l0 = some r) :
  Calls Try.prog 17 #[.slice A0 l0.length c0] w fun e w' => e = .returned (.bool r) ∧ Below w.heap.size w w' := by
 have HR0 := Aside0.mk hr0
 have HC0 := Aside0.mk hc0
 clear hr0 hc0
 have HB := Aside0.mk (Below.refl w.heap.size w)
 have H : (if (l0.length : Int) ≤ 12 then ((impl_raga_any.f k l0).bind fun t260 => (some (!t260))) else (some false)) = some r := h
 clear h
 by_cases c2 : (l0.length : Int) ≤ 12
 ·rw [if_pos c2] at H
  have c2b0 : decide ((l0.length : Int) ≤ 12) = true := decide_eq_true c2
  have c2b1 : decide (l0.length ≤ 12) = true := decide_eq_true (by omega)
  clear c2
  replace H := Option.bind_eq_some_iff.mp H
  obtain ⟨t260, A30, H⟩ := H
  replace H : (some (!t260)) = some r := H
  have A3 := Aside0.mk A30
  clear A30
  obtain rfl := Option.some.inj H
  go_enter Try.func17, Try.ntmps17
  go_wp2_with (first | (go_at_call 31; (with_reducible refine (impl_raga_any.calls k _ _ l0 t260 _ ?side1 ?side2 A3.out).mono ?_); (case side1 => exact cr_ HR0.out); (case side2 => exact HC0.out); rintro e w4 ⟨rfl, hb⟩; have n0_ := Aside0.mk (below_step (bb_ HB.out) hb); clear HB; have HB := n0_; clear n0_; (try clear hb); (try clear hb2); (try clear hk); (try clear hi)))
  go_ret
  exact ⟨by first | rfl | (simp [errW_none, errW_some] <;> rfl) | (simp [*, errW_none, errW_some] <;> rfl), bb_ HB.out⟩
 ·rw [if_neg c2] at H
  have c2b0 : decide ((l0.length : Int) ≤ 12) = false := decide_eq_false c2
  have c2b1 : decide (l0.length ≤ 12) = false := decide_eq_false (by omega)
  clear c2
  obtain rfl := Option.some.inj H
  go_enter Try.func17, Try.ntmps17
  go_wp2
  go_ret
  exact ⟨by first | rfl | (simp [errW_none, errW_some] <;> rfl) | (simp [*, errW_none, errW_some] <;> rfl), bb_ HB.out⟩
end Go.Proofs.Ytmibjceanfhhlaa.P
end
