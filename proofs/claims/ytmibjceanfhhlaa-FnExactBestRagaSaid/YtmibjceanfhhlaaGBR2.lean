/- Texts of this seat, merged: QImplRagaReason, QPreDn, QImplRagaWrongmoves, QImplRaga46, QImplRaga31, QImplOnlynamebytes, QImplIsname. -/
import Derived.Test.YtmibjceanfhhlaaGBR1
section
namespace Go.Proofs.Ytmibjceanfhhlaa.P
open Go.RowKit Go.Proofs.YtmibjceanfhhlaaW.PrintWords Go.Proofs.YtmibjceanfhhlaaW.PrintLast Go.Proofs.YtmibjceanfhhlaaW.PrintMore
attribute [local go_sem] max2_int min2_int max_two min_two max_three min_three max_four min_four   -- for this text's walks alone
set_option linter.unusedVariables false
set_option linter.unusedSimpArgs false
/-- A state of type 2 at block g of W; what its slices lead to came in by w0. -/
def IsS2 (w0 W : World) (g : Nat) (f0 : Int) : Prop := W.heap[g]? = some (.cells #[.int .i64 f0] 2 (0, 0)) ∧ w0.heap.size ≤ g
theorem IsS2.grown {w0 W : World} {g : Nat} {f0 : Int} {W1 : World} {row : Option Nat} (h : IsS2 w0 W g f0) (hw : W.grownBy W1 row) (hne : some g ≠ row) : IsS2 w0 W1 g f0 := by
 obtain ⟨hb, hg⟩ := h
 exact ⟨blk_grown hb hw hne, hg⟩
theorem IsS2.below {w0 W : World} {g : Nat} {f0 : Int} {W1 : World} (h : IsS2 w0 W g f0) (hw : Below W.heap.size W W1) : IsS2 w0 W1 g f0 := h.grown (grown_of_below hw none) (by simp)
theorem IsS2.alloc {w0 W : World} {g : Nat} {f0 : Int} (h : IsS2 w0 W g f0) (o : Obj) : IsS2 w0 (W.alloc o) g f0 := h.below (below_alloc (Below.refl _ _) o)
theorem IsS2.drewN {w0 W : World} {g : Nat} {f0 : Int} (h : IsS2 w0 W g f0) (m : Nat) : IsS2 w0 (W.drewN m) g f0 := h
theorem IsS2.drew {w0 W : World} {g : Nat} {f0 : Int} (h : IsS2 w0 W g f0) : IsS2 w0 W.drew g f0 := h
/-! ### impl_Raga_reason: function 36 -/
mutual
def impl_Raga_reason.j0 : Nat → Int → Int → Bool → ByteArray → List Int → List Int → Int → Int → List (List Int) → Int → Int → Option (Int)
 | 0, _, _, _, _, _, _, _, _, _, _, _ => none
 | k + 1, x1, x2, x13, x268000, x268001, x268002, x268003, x268004, x268005, x271000, x272000 => if x13 = true then (some 1) else ((impl_abs.f (wrap64 (x1 - x2))).bind fun t274 => (if t274 > 12 then (some 2) else (if x2 > x1 then ((slices_Contains_int64_int64.f k x268001 x272000).bind fun t275 => (impl_Raga_reason.j1 k x1 x2 (!t275) x268000 x268001 x268002 x268003 x268004 x268005 x271000 x272000)) else (impl_Raga_reason.j1 k x1 x2 false x268000 x268001 x268002 x268003 x268004 x268005 x271000 x272000))))
def impl_Raga_reason.j1 : Nat → Int → Int → Bool → ByteArray → List Int → List Int → Int → Int → List (List Int) → Int → Int → Option (Int)
 | 0, _, _, _, _, _, _, _, _, _, _, _ => none
 | k + 1, x1, x2, x30, x268000, x268001, x268002, x268003, x268004, x268005, x271000, x272000 => if x30 = true then (some 3) else (if x2 < x1 then ((slices_Contains_int64_int64.f k x268002 x272000).bind fun t276 => (impl_Raga_reason.j2 k (!t276) x268000 x268001 x268002 x268003 x268004 x268005 x271000 x272000)) else (impl_Raga_reason.j2 k false x268000 x268001 x268002 x268003 x268004 x268005 x271000 x272000))
def impl_Raga_reason.j2 : Nat → Bool → ByteArray → List Int → List Int → Int → Int → List (List Int) → Int → Int → Option (Int)
 | 0, _, _, _, _, _, _, _, _, _ => none
 | k + 1, x41, x268000, x268001, x268002, x268003, x268004, x268005, x271000, x272000 => if x41 = true then (some 4) else ((impl_reason_any.f x268005 x271000 x272000).bind fun t277 => (if t277 = true then (some 5) else (some 0)))
end
def impl_Raga_reason.f (k : Nat) (a0_0 : ByteArray) (l0_1 : List Int) (l0_2 : List Int) (a0_3 : Int) (a0_4 : Int) (l0_5 : List (List Int)) (a1 : Int) (a2 : Int) : Option (Int) := (impl_ToneOf.f a1).bind fun t268 => ((impl_ToneOf.f a2).bind fun t269 => ((impl_Raga_hasTone.f k a0_0 l0_1 l0_2 a0_3 a0_4 l0_5 t268).bind fun t272 => (if t272 = true then ((impl_Raga_hasTone.f k a0_0 l0_1 l0_2 a0_3 a0_4 l0_5 t269).bind fun t273 => (impl_Raga_reason.j0 k a1 a2 (!t273) a0_0 l0_1 l0_2 a0_3 a0_4 l0_5 t268 t269)) else (impl_Raga_reason.j0 k a1 a2 true a0_0 l0_1 l0_2 a0_3 a0_4 l0_5 t268 t269))))
set_option maxHeartbeats 8000000 in
set_option maxRecDepth 100000 in
theorem impl_Raga_reason.calls (k : Nat) (a0_0 : ByteArray) (A0_1 : Option Addr) (c0_1 : Nat) (l0_1 : List Int) (A0_2 : Option Addr) (c0_2 : Nat) (l0_2 : List Int) (a0_3 : Int) (a0_4 : Int) (A0_5 : Option Addr) (c0_5 : Nat) (l0_5 : List (List Int)) (a1 : Int) (a2 : Int) (r : Int) (w : World) (hr0_1 : Kd.C (Kd.int .i64) w A0_1 l0_1.length l0_1) (hc0_1 : l0_1.length ≤ c0_1) (hr0_2 : Kd.C (Kd.int .i64) w A0_2 l0_2.length l0_2) (hc0_2 : l0_2.length ≤ c0_2) (hr0_5 : Kd.C (Kd.slice 2 (Kd.int .i64)) w A0_5 l0_5.length l0_5) (hc0_5 : l0_5.length ≤ c0_5) (h : impl_Raga_reason.f k a0_0 l0_1 l0_2 a0_3 a0_4 l0_5 a1 a2 = some r) :
  Calls Try.prog 36 #[.agg #[.string a0_0, .slice A0_1 l0_1.length c0_1, .slice A0_2 l0_2.length c0_2, .int .i64 a0_3, .int .i64 a0_4, .slice A0_5 l0_5.length c0_5], .int .i64 a1, .int .i64 a2] w fun e w' => e = .returned (.int .i64 r) ∧ Below w.heap.size w w' := by
 have hu42 := Try.underlying42
 have HR0_1 := Aside0.mk hr0_1
 have HC0_1 := Aside0.mk hc0_1
 clear hr0_1 hc0_1
 have HR0_2 := Aside0.mk hr0_2
 have HC0_2 := Aside0.mk hc0_2
 clear hr0_2 hc0_2
 have HR0_5 := Aside0.mk hr0_5
 have HC0_5 := Aside0.mk hc0_5
 clear hr0_5 hc0_5
 have HB := Aside0.mk (Below.refl w.heap.size w)
 have H : ((impl_ToneOf.f a1).bind fun t268 => ((impl_ToneOf.f a2).bind fun t269 => ((impl_Raga_hasTone.f k a0_0 l0_1 l0_2 a0_3 a0_4 l0_5 t268).bind fun t272 => (if t272 = true then ((impl_Raga_hasTone.f k a0_0 l0_1 l0_2 a0_3 a0_4 l0_5 t269).bind fun t273 => (impl_Raga_reason.j0 k a1 a2 (!t273) a0_0 l0_1 l0_2 a0_3 a0_4 l0_5 t268 t269)) else (impl_Raga_reason.j0 k a1 a2 true a0_0 l0_1 l0_2 a0_3 a0_4 l0_5 t268 t269))))) = some r := h
 clear h
 replace H := Option.bind_eq_some_iff.mp H
 obtain ⟨t268, A40, H⟩ := H
 replace H : ((impl_ToneOf.f a2).bind fun t269 => ((impl_Raga_hasTone.f k a0_0 l0_1 l0_2 a0_3 a0_4 l0_5 t268).bind fun t272 => (if t272 = true then ((impl_Raga_hasTone.f k a0_0 l0_1 l0_2 a0_3 a0_4 l0_5 t269).bind fun t273 => (impl_Raga_reason.j0 k a1 a2 (!t273) a0_0 l0_1 l0_2 a0_3 a0_4 l0_5 t268 t269)) else (impl_Raga_reason.j0 k a1 a2 true a0_0 l0_1 l0_2 a0_3 a0_4 l0_5 t268 t269)))) = some r := H
 have A4 := Aside0.mk A40
 clear A40
 replace H := Option.bind_eq_some_iff.mp H
 obtain ⟨t269, A50, H⟩ := H
 replace H : ((impl_Raga_hasTone.f k a0_0 l0_1 l0_2 a0_3 a0_4 l0_5 t268).bind fun t272 => (if t272 = true then ((impl_Raga_hasTone.f k a0_0 l0_1 l0_2 a0_3 a0_4 l0_5 t269).bind fun t273 => (impl_Raga_reason.j0 k a1 a2 (!t273) a0_0 l0_1 l0_2 a0_3 a0_4 l0_5 t268 t269)) else (impl_Raga_reason.j0 k a1 a2 true a0_0 l0_1 l0_2 a0_3 a0_4 l0_5 t268 t269))) = some r := H
 have A5 := Aside0.mk A50
 clear A50
 have HC6 := Aside0.mk H
 clear H
 go_enter Try.func36, Try.ntmps36
 go_upto_region 2 with (first | ((with_reducible refine gate_dst (N := 3) rfl ?_); refine box_event ?hg (N := 3) ?hd (cs := #[.string a0_0, .slice A0_1 l0_1.length c0_1, .slice A0_2 l0_2.length c0_2, .int .i64 a0_3, .int .i64 a0_4, .slice A0_5 l0_5.length c0_5]) (t := 42) ?hr ?_; (case hd => rfl); (case hg => rfl); (case hr => first | (go_simp; done) | (go_simp; rfl)); intro gb267 hg w7 hbox hb; have n0_ := Aside0.mk (below_step (bb_ HB.out) hb); have n1_ := Aside0.mk (hbox); have n2_ := Aside0.mk ((by rw [hg]; exact (below_size (bb_ HB.out)) : w.heap.size ≤ gb267)); have n3_ := Aside0.mk ((by rw [hg]; exact (below_size (bb_ HB.out)) : w.heap.size ≤ gb267)); clear HB; have HB := n0_; have BK267 := n1_; have GW267 := n2_; have GE267 := n3_; clear n0_ n1_ n2_ n3_; clear hb hbox hg) | ((with_reducible refine gate_callee (f := 54) rfl ?_); refine goesL_ (some 10) rfl rfl Try.func54 (by kernel_rfl) rfl #[.int .i64 a1] rfl av_ ?_; (with_reducible refine (impl_ToneOf.calls a1 t268 _ A4.out).mono ?_); rintro e w' ⟨rfl, ⟨nd, rfl⟩⟩; refine ⟨_, rfl, ?_⟩; (try (rw [drewN_self w7]; generalize hq_ : World.drewN w7 _ = w7; have n0_ : Aside0 (w7.heap[gb267]? = some (.cells #[.string a0_0, .slice A0_1 l0_1.length c0_1, .slice A0_2 l0_2.length c0_2, .int .i64 a0_3, .int .i64 a0_4, .slice A0_5 l0_5.length c0_5] 42 (0, 0))) := ⟨by rw [← hq_]; exact (by repeat first | exact BK267.out | refine blk_drewN ?_ _ | refine blk_drew ?_ | refine blk_alloc ?_ _)⟩; have n1_ : Aside0 (Below w.heap.size w w7) := ⟨by rw [← hq_]; exact (bg_ HB.out GE267.out)⟩; clear BK267 HB hq_; have BK267 := n0_; have HB := n1_; clear n0_ n1_))) | ((with_reducible refine gate_callee (f := 54) rfl ?_); refine goesL_ (some 12) rfl rfl Try.func54 (by kernel_rfl) rfl #[.int .i64 a2] rfl av_ ?_; (with_reducible refine (impl_ToneOf.calls a2 t269 _ A5.out).mono ?_); rintro e w' ⟨rfl, ⟨nd, rfl⟩⟩; refine ⟨_, rfl, ?_⟩; (try (rw [drewN_self w7]; generalize hq_ : World.drewN w7 _ = w7; have n0_ : Aside0 (w7.heap[gb267]? = some (.cells #[.string a0_0, .slice A0_1 l0_1.length c0_1, .slice A0_2 l0_2.length c0_2, .int .i64 a0_3, .int .i64 a0_4, .slice A0_5 l0_5.length c0_5] 42 (0, 0))) := ⟨by rw [← hq_]; exact (by repeat first | exact BK267.out | refine blk_drewN ?_ _ | refine blk_drew ?_ | refine blk_alloc ?_ _)⟩; have n1_ : Aside0 (Below w.heap.size w w7) := ⟨by rw [← hq_]; exact (bg_ HB.out GE267.out)⟩; clear BK267 HB hq_; have BK267 := n0_; have HB := n1_; clear n0_ n1_))) | ((with_reducible refine gate_dst (N := 7) rfl ?_); refine box_event ?hg (N := 7) ?hd (cs := #[.int .i64 0]) (t := 2) ?hr ?_; (case hd => rfl); (case hg => rfl); (case hr => first | (go_simp; done) | (go_simp; rfl)); intro gb270 hg w8 hbox hb; have n0_ := Aside0.mk (blk_below (g := gb267) (o := .cells #[.string a0_0, .slice A0_1 l0_1.length c0_1, .slice A0_2 l0_2.length c0_2, .int .i64 a0_3, .int .i64 a0_4, .slice A0_5 l0_5.length c0_5] 42 (0, 0)) (by repeat first | exact BK267.out | refine blk_drewN ?_ _ | refine blk_drew ?_ | refine blk_alloc ?_ _) hb); have n1_ := Aside0.mk (below_step (bg_ HB.out GE267.out) hb); have n2_ := Aside0.mk (hbox); have n3_ := Aside0.mk ((by rw [hg]; exact (below_size (bg_ HB.out GE267.out)) : w.heap.size ≤ gb270)); have n4_ := Aside0.mk ((by rw [hg]; exact (below_size (bg_ HB.out GE267.out)) : w.heap.size ≤ gb270)); have n5_ := Aside0.mk ((by rw [hg]; exact Nat.ne_of_lt (blk_lt (g := gb267) (o := .cells #[.string a0_0, .slice A0_1 l0_1.length c0_1, .slice A0_2 l0_2.length c0_2, .int .i64 a0_3, .int .i64 a0_4, .slice A0_5 l0_5.length c0_5] 42 (0, 0)) (by repeat first | exact BK267.out | refine blk_drewN ?_ _ | refine blk_drew ?_ | refine blk_alloc ?_ _)) : gb267 ≠ gb270)); have n6_ := Aside0.mk ((by rw [hg]; exact Nat.ne_of_gt (blk_lt (g := gb267) (o := .cells #[.string a0_0, .slice A0_1 l0_1.length c0_1, .slice A0_2 l0_2.length c0_2, .int .i64 a0_3, .int .i64 a0_4, .slice A0_5 l0_5.length c0_5] 42 (0, 0)) (by repeat first | exact BK267.out | refine blk_drewN ?_ _ | refine blk_drew ?_ | refine blk_alloc ?_ _)) : gb270 ≠ gb267)); clear BK267; clear HB; have BK267 := n0_; have HB := n1_; have BK270 := n2_; have GW270 := n3_; have GE270 := n4_; have NB267_270 := n5_; have NB270_267 := n6_; clear n0_ n1_ n2_ n3_ n4_ n5_ n6_; clear hb hbox hg) | ((with_reducible refine gate_dst (N := 8) rfl ?_); refine box_event ?hg (N := 8) ?hd (cs := #[.int .i64 0]) (t := 2) ?hr ?_; (case hd => rfl); (case hg => rfl); (case hr => first | (go_simp; done) | (go_simp; rfl)); intro gb271 hg w9 hbox hb; have n0_ := Aside0.mk (blk_below (g := gb267) (o := .cells #[.string a0_0, .slice A0_1 l0_1.length c0_1, .slice A0_2 l0_2.length c0_2, .int .i64 a0_3, .int .i64 a0_4, .slice A0_5 l0_5.length c0_5] 42 (0, 0)) (by repeat first | exact BK267.out | refine blk_drewN ?_ _ | refine blk_drew ?_ | refine blk_alloc ?_ _) hb); have n1_ := Aside0.mk (blk_below (g := gb270) (o := .cells #[.int .i64 0] 2 (0, 0)) (by repeat first | exact BK270.out | refine blk_drewN ?_ _ | refine blk_drew ?_ | refine blk_alloc ?_ _) hb); have n2_ := Aside0.mk (below_step (bh_ HB.out GE267.out GE270.out) hb); have n3_ := Aside0.mk (hbox); have n4_ := Aside0.mk ((by rw [hg]; exact (below_size (bh_ HB.out GE267.out GE270.out)) : w.heap.size ≤ gb271)); have n5_ := Aside0.mk ((by rw [hg]; exact (below_size (bh_ HB.out GE267.out GE270.out)) : w.heap.size ≤ gb271)); have n6_ := Aside0.mk ((by rw [hg]; exact Nat.ne_of_lt (blk_lt (g := gb267) (o := .cells #[.string a0_0, .slice A0_1 l0_1.length c0_1, .slice A0_2 l0_2.length c0_2, .int .i64 a0_3, .int .i64 a0_4, .slice A0_5 l0_5.length c0_5] 42 (0, 0)) (by repeat first | exact BK267.out | refine blk_drewN ?_ _ | refine blk_drew ?_ | refine blk_alloc ?_ _)) : gb267 ≠ gb271)); have n7_ := Aside0.mk ((by rw [hg]; exact Nat.ne_of_gt (blk_lt (g := gb267) (o := .cells #[.string a0_0, .slice A0_1 l0_1.length c0_1, .slice A0_2 l0_2.length c0_2, .int .i64 a0_3, .int .i64 a0_4, .slice A0_5 l0_5.length c0_5] 42 (0, 0)) (by repeat first | exact BK267.out | refine blk_drewN ?_ _ | refine blk_drew ?_ | refine blk_alloc ?_ _)) : gb271 ≠ gb267)); have n8_ := Aside0.mk ((by rw [hg]; exact Nat.ne_of_lt (blk_lt (g := gb270) (o := .cells #[.int .i64 0] 2 (0, 0)) (by repeat first | exact BK270.out | refine blk_drewN ?_ _ | refine blk_drew ?_ | refine blk_alloc ?_ _)) : gb270 ≠ gb271)); have n9_ := Aside0.mk ((by rw [hg]; exact Nat.ne_of_gt (blk_lt (g := gb270) (o := .cells #[.int .i64 0] 2 (0, 0)) (by repeat first | exact BK270.out | refine blk_drewN ?_ _ | refine blk_drew ?_ | refine blk_alloc ?_ _)) : gb271 ≠ gb270)); clear BK267; clear BK270; clear HB; have BK267 := n0_; have BK270 := n1_; have HB := n2_; have BK271 := n3_; have GW271 := n4_; have GE271 := n5_; have NB267_271 := n6_; have NB271_267 := n7_; have NB270_271 := n8_; have NB271_270 := n9_; clear n0_ n1_ n2_ n3_ n4_ n5_ n6_ n7_ n8_ n9_; clear hb hbox hg; have hnb10 := NB270_267.out; have hnc10 := NB267_270.out; have hnb11 := NB270_271.out; have hnc11 := NB271_270.out; have hcz12_0 : w9.cell? ⟨gb270, 0, none⟩ = some (.int .i64 0) := (blk_cell BK270.out 0).trans rfl; have hfz12_0 := blk_frozen BK270.out 0; have hnb13 := NB271_267.out; have hnc13 := NB267_271.out; have hcz14_0 : w9.cell? ⟨gb271, 0, none⟩ = some (.int .i64 0) := (blk_cell BK271.out 0).trans rfl; have hfz14_0 := blk_frozen BK271.out 0))
 (try simp only [Act.put, List.setIfInBounds_toArray, List.set_cons_zero, List.set_cons_succ])
 go_cut [13] (fun v13 wc => ∃ (kq : Nat) (x13_5 : Bool), v13 = .bool x13_5 ∧ Aside0 (impl_Raga_reason.j0 kq a1 a2 x13_5 a0_0 l0_1 l0_2 a0_3 a0_4 l0_5 t268 t269 = some r) ∧ Aside0 (kq ≤ k) ∧ Aside0 (wc.heap[gb267]? = some (.cells #[.string a0_0, (.slice A0_1 l0_1.length c0_1), (.slice A0_2 l0_2.length c0_2), .int .i64 a0_3, .int .i64 a0_4, (.slice A0_5 l0_5.length c0_5)] 42 (0, 0))) ∧ Aside0 (wc.heap[gb270]? = some (.cells #[.int .i64 t268] 2 (0, 0))) ∧ Aside0 (wc.heap[gb271]? = some (.cells #[.int .i64 t269] 2 (0, 0))) ∧ Aside0 (Below w.heap.size w wc))
 case first =>
  have H := HC6.out
  clear HC6
  replace H := Option.bind_eq_some_iff.mp H
  obtain ⟨t272, A150, H⟩ := H
  replace H : (if t272 = true then ((impl_Raga_hasTone.f k a0_0 l0_1 l0_2 a0_3 a0_4 l0_5 t269).bind fun t273 => (impl_Raga_reason.j0 k a1 a2 (!t273) a0_0 l0_1 l0_2 a0_3 a0_4 l0_5 t268 t269)) else (impl_Raga_reason.j0 k a1 a2 true a0_0 l0_1 l0_2 a0_3 a0_4 l0_5 t268 t269)) = some r := H
  have A15 := Aside0.mk A150
  clear A150
  by_cases c16 : t272 = true
  ·subst c16
   have H1 : ((impl_Raga_hasTone.f k a0_0 l0_1 l0_2 a0_3 a0_4 l0_5 t269).bind fun t273 => (impl_Raga_reason.j0 k a1 a2 (!t273) a0_0 l0_1 l0_2 a0_3 a0_4 l0_5 t268 t269)) = some r := by rw [if_pos rfl] at H; exact H
   clear H
   have H := H1
   clear H1
   replace H := Option.bind_eq_some_iff.mp H
   obtain ⟨t273, A170, H⟩ := H
   replace H : (impl_Raga_reason.j0 k a1 a2 (!t273) a0_0 l0_1 l0_2 a0_3 a0_4 l0_5 t268 t269) = some r := H
   have A17 := Aside0.mk A170
   clear A170
   have H' := Aside0.mk H
   clear H
   have hnb18 := NB267_270.out
   have hnc18 := NB270_267.out
   have hnb19 := NB267_271.out
   have hnc19 := NB271_267.out
   obtain ⟨hcz20_0, hcz20_1, hcz20_2, hcz20_3, hcz20_4, hcz20_5, hfz20_0⟩ := bx6_ (w := w9) BK267.out
   have hnb21 := NB270_271.out
   have hnc21 := NB271_270.out
   have hcz22_0 : w9.cell? ⟨gb270, 0, none⟩ = some (.int .i64 0) := (blk_cell BK270.out 0).trans rfl
   have hfz22_0 := blk_frozen BK270.out 0
   go_wp2_with (first | ((with_reducible refine gate_callee (f := 37) rfl ?_); refine goesL_ (some 16) rfl rfl Try.func37 (by kernel_rfl) rfl #[.agg #[.string a0_0, .slice A0_1 l0_1.length c0_1, .slice A0_2 l0_2.length c0_2, .int .i64 a0_3, .int .i64 a0_4, .slice A0_5 l0_5.length c0_5], .int .i64 t268] rfl av_ ?_; (with_reducible refine (impl_Raga_hasTone.calls k a0_0 _ _ l0_1 _ _ l0_2 a0_3 a0_4 _ _ l0_5 t268 true _ ?side1 ?side2 ?side3 ?side4 ?side5 ?side6 A15.out).mono ?_); (case side1 => exact Kd.C_below HR0_1.out (bi_ HB.out GE267.out GE270.out GE271.out)); (case side2 => exact HC0_1.out); (case side3 => exact Kd.C_below HR0_2.out (bi_ HB.out GE267.out GE270.out GE271.out)); (case side4 => exact HC0_2.out); (case side5 => exact Kd.C_below HR0_5.out (bi_ HB.out GE267.out GE270.out GE271.out)); (case side6 => exact HC0_5.out); rintro e w23 ⟨rfl, hb⟩; refine ⟨_, rfl, ?_⟩; have n0_ := Aside0.mk (blk_below (g := gb267) (o := .cells #[.string a0_0, .slice A0_1 l0_1.length c0_1, .slice A0_2 l0_2.length c0_2, .int .i64 a0_3, .int .i64 a0_4, .slice A0_5 l0_5.length c0_5] 42 (0, 0)) (by (with_reducible repeat (first | refine blk_drewN ?_ _ | refine blk_drew ?_ | refine blk_alloc ?_ _)); refine blk_far ?_ NB267_271.out _; (with_reducible repeat (first | refine blk_drewN ?_ _ | refine blk_drew ?_ | refine blk_alloc ?_ _)); refine blk_far ?_ NB267_270.out _; exact bk_ BK267.out) hb); have n1_ := Aside0.mk (blk_below (g := gb270) (o := .cells #[.int .i64 t268] 2 (0, 0)) (by (with_reducible repeat (first | refine blk_drewN ?_ _ | refine blk_drew ?_ | refine blk_alloc ?_ _)); refine blk_far ?_ NB270_271.out _; (with_reducible repeat (first | refine blk_drewN ?_ _ | refine blk_drew ?_ | refine blk_alloc ?_ _)); refine blk_put (cs := #[.int .i64 0]) ?_ 0 _ rfl; exact bk_ BK270.out) hb); have n2_ := Aside0.mk (blk_below (g := gb271) (o := .cells #[.int .i64 t269] 2 (0, 0)) (by (with_reducible repeat (first | refine blk_drewN ?_ _ | refine blk_drew ?_ | refine blk_alloc ?_ _)); refine blk_put (cs := #[.int .i64 0]) ?_ 0 _ rfl; (with_reducible repeat (first | refine blk_drewN ?_ _ | refine blk_drew ?_ | refine blk_alloc ?_ _)); refine blk_far ?_ NB271_270.out _; exact bk_ BK271.out) hb); have n3_ := Aside0.mk (below_step (bi_ HB.out GE267.out GE270.out GE271.out) hb); clear BK267; clear BK270; clear BK271; clear HB; have BK267 := n0_; have BK270 := n1_; have BK271 := n2_; have HB := n3_; clear n0_ n1_ n2_ n3_; (try clear hb); (try clear hb2); (try clear hk); (try clear hi); obtain ⟨hcz24_0, hcz24_1, hcz24_2, hcz24_3, hcz24_4, hcz24_5, hfz24_0⟩ := bx6_ (w := w23) BK267.out; have hcz25_0 : w23.cell? ⟨gb271, 0, none⟩ = some (.int .i64 t269) := (blk_cell BK271.out 0).trans rfl; have hfz25_0 := blk_frozen BK271.out 0) | (go_at_call 37; (with_reducible refine (impl_Raga_hasTone.calls k a0_0 _ _ l0_1 _ _ l0_2 a0_3 a0_4 _ _ l0_5 t269 t273 _ ?side1 ?side2 ?side3 ?side4 ?side5 ?side6 A17.out).mono ?_); (case side1 => exact (Kd.C_below HR0_1.out HB.out)); (case side2 => exact HC0_1.out); (case side3 => exact (Kd.C_below HR0_2.out HB.out)); (case side4 => exact HC0_2.out); (case side5 => exact (Kd.C_below HR0_5.out HB.out)); (case side6 => exact HC0_5.out); rintro e w26 ⟨rfl, hb⟩; have n0_ := Aside0.mk (blk_below (g := gb267) (o := .cells #[.string a0_0, .slice A0_1 l0_1.length c0_1, .slice A0_2 l0_2.length c0_2, .int .i64 a0_3, .int .i64 a0_4, .slice A0_5 l0_5.length c0_5] 42 (0, 0)) (by repeat first | exact BK267.out | refine blk_drewN ?_ _ | refine blk_drew ?_ | refine blk_alloc ?_ _) hb); have n1_ := Aside0.mk (blk_below (g := gb270) (o := .cells #[.int .i64 t268] 2 (0, 0)) (by repeat first | exact BK270.out | refine blk_drewN ?_ _ | refine blk_drew ?_ | refine blk_alloc ?_ _) hb); have n2_ := Aside0.mk (blk_below (g := gb271) (o := .cells #[.int .i64 t269] 2 (0, 0)) (by repeat first | exact BK271.out | refine blk_drewN ?_ _ | refine blk_drew ?_ | refine blk_alloc ?_ _) hb); have n3_ := Aside0.mk (below_step (bi_ HB.out GE267.out GE270.out GE271.out) hb); clear BK267; clear BK270; clear BK271; clear HB; have BK267 := n0_; have BK270 := n1_; have BK271 := n2_; have HB := n3_; clear n0_ n1_ n2_ n3_; (try clear hb); (try clear hb2); (try clear hk); (try clear hi)))
   go_meet
   case rel => exact ⟨_, (!t273), sv_, H', ⟨by first | omega | exact Nat.le_refl _⟩, ⟨by (with_reducible repeat (first | refine blk_drewN ?_ _ | refine blk_drew ?_ | refine blk_alloc ?_ _)); exact BK267.out⟩, ⟨by (with_reducible repeat (first | refine blk_drewN ?_ _ | refine blk_drew ?_ | refine blk_alloc ?_ _)); exact BK270.out⟩, ⟨by (with_reducible repeat (first | refine blk_drewN ?_ _ | refine blk_drew ?_ | refine blk_alloc ?_ _)); exact BK271.out⟩, ⟨bi_ HB.out GE267.out GE270.out GE271.out⟩⟩
  ·replace c16 := Bool.eq_false_iff.mpr c16
   subst c16
   have H1 : (impl_Raga_reason.j0 k a1 a2 true a0_0 l0_1 l0_2 a0_3 a0_4 l0_5 t268 t269) = some r := by rw [if_neg (show ¬ (false = true) by decide)] at H; exact H
   clear H
   have H := H1
   clear H1
   have H' := Aside0.mk H
   clear H
   have hnb27 := NB267_270.out
   have hnc27 := NB270_267.out
   have hnb28 := NB267_271.out
   have hnc28 := NB271_267.out
   obtain ⟨hcz29_0, hcz29_1, hcz29_2, hcz29_3, hcz29_4, hcz29_5, hfz29_0⟩ := bx6_ (w := w9) BK267.out
   have hnb30 := NB270_271.out
   have hnc30 := NB271_270.out
   have hcz31_0 : w9.cell? ⟨gb270, 0, none⟩ = some (.int .i64 0) := (blk_cell BK270.out 0).trans rfl
   have hfz31_0 := blk_frozen BK270.out 0
   go_wp2_with (first | ((with_reducible refine gate_callee (f := 37) rfl ?_); refine goesL_ (some 16) rfl rfl Try.func37 (by kernel_rfl) rfl #[.agg #[.string a0_0, .slice A0_1 l0_1.length c0_1, .slice A0_2 l0_2.length c0_2, .int .i64 a0_3, .int .i64 a0_4, .slice A0_5 l0_5.length c0_5], .int .i64 t268] rfl av_ ?_; (with_reducible refine (impl_Raga_hasTone.calls k a0_0 _ _ l0_1 _ _ l0_2 a0_3 a0_4 _ _ l0_5 t268 false _ ?side1 ?side2 ?side3 ?side4 ?side5 ?side6 A15.out).mono ?_); (case side1 => exact Kd.C_below HR0_1.out (bi_ HB.out GE267.out GE270.out GE271.out)); (case side2 => exact HC0_1.out); (case side3 => exact Kd.C_below HR0_2.out (bi_ HB.out GE267.out GE270.out GE271.out)); (case side4 => exact HC0_2.out); (case side5 => exact Kd.C_below HR0_5.out (bi_ HB.out GE267.out GE270.out GE271.out)); (case side6 => exact HC0_5.out); rintro e w32 ⟨rfl, hb⟩; refine ⟨_, rfl, ?_⟩; have n0_ := Aside0.mk (blk_below (g := gb267) (o := .cells #[.string a0_0, .slice A0_1 l0_1.length c0_1, .slice A0_2 l0_2.length c0_2, .int .i64 a0_3, .int .i64 a0_4, .slice A0_5 l0_5.length c0_5] 42 (0, 0)) (by (with_reducible repeat (first | refine blk_drewN ?_ _ | refine blk_drew ?_ | refine blk_alloc ?_ _)); refine blk_far ?_ NB267_271.out _; (with_reducible repeat (first | refine blk_drewN ?_ _ | refine blk_drew ?_ | refine blk_alloc ?_ _)); refine blk_far ?_ NB267_270.out _; exact bk_ BK267.out) hb); have n1_ := Aside0.mk (blk_below (g := gb270) (o := .cells #[.int .i64 t268] 2 (0, 0)) (by (with_reducible repeat (first | refine blk_drewN ?_ _ | refine blk_drew ?_ | refine blk_alloc ?_ _)); refine blk_far ?_ NB270_271.out _; (with_reducible repeat (first | refine blk_drewN ?_ _ | refine blk_drew ?_ | refine blk_alloc ?_ _)); refine blk_put (cs := #[.int .i64 0]) ?_ 0 _ rfl; exact bk_ BK270.out) hb); have n2_ := Aside0.mk (blk_below (g := gb271) (o := .cells #[.int .i64 t269] 2 (0, 0)) (by (with_reducible repeat (first | refine blk_drewN ?_ _ | refine blk_drew ?_ | refine blk_alloc ?_ _)); refine blk_put (cs := #[.int .i64 0]) ?_ 0 _ rfl; (with_reducible repeat (first | refine blk_drewN ?_ _ | refine blk_drew ?_ | refine blk_alloc ?_ _)); refine blk_far ?_ NB271_270.out _; exact bk_ BK271.out) hb); have n3_ := Aside0.mk (below_step (bi_ HB.out GE267.out GE270.out GE271.out) hb); clear BK267; clear BK270; clear BK271; clear HB; have BK267 := n0_; have BK270 := n1_; have BK271 := n2_; have HB := n3_; clear n0_ n1_ n2_ n3_; (try clear hb); (try clear hb2); (try clear hk); (try clear hi)))
   go_meet
   case rel => exact ⟨_, (true), sv_, H', ⟨by first | omega | exact Nat.le_refl _⟩, ⟨by (with_reducible repeat (first | refine blk_drewN ?_ _ | refine blk_drew ?_ | refine blk_alloc ?_ _)); exact BK267.out⟩, ⟨by (with_reducible repeat (first | refine blk_drewN ?_ _ | refine blk_drew ?_ | refine blk_alloc ?_ _)); exact BK270.out⟩, ⟨by (with_reducible repeat (first | refine blk_drewN ?_ _ | refine blk_drew ?_ | refine blk_alloc ?_ _)); exact BK271.out⟩, ⟨bi_ HB.out GE267.out GE270.out GE271.out⟩⟩
 case rest =>
  clear HC6
  (try clear c1); (try clear c2); (try clear p2); (try clear c3); (try clear c5); (try clear c10); (try clear c11); (try clear c13); (try clear c16); (try clear c18); (try clear c19); (try clear c21); (try clear c27); (try clear c28); (try clear c30); (try clear hcz12_0); (try clear hcz14_0); (try clear hcz20_0); (try clear hcz20_1); (try clear hcz20_2); (try clear hcz20_3); (try clear hcz20_4); (try clear hcz20_5); (try clear hcz22_0); (try clear hcz24_0); (try clear hcz24_1); (try clear hcz24_2); (try clear hcz24_3); (try clear hcz24_4); (try clear hcz24_5); (try clear hcz25_0); (try clear hcz29_0); (try clear hcz29_1); (try clear hcz29_2); (try clear hcz29_3); (try clear hcz29_4); (try clear hcz29_5); (try clear hcz31_0); (try clear hfz12_0); (try clear hfz14_0); (try clear hfz20_0); (try clear hfz22_0); (try clear hfz24_0); (try clear hfz25_0); (try clear hfz29_0); (try clear hfz31_0)
  obtain ⟨kq, x13_5, rfl, HA, HJ5, BK267, BK270, BK271, HB⟩ := hcut
  cases kq with
  | zero => exact absurd HA.out (by simp [impl_Raga_reason.j0])
  | succ kj5 =>
   have H := HA.out
   clear HA
   simp only [impl_Raga_reason.j0] at H
   by_cases c33 : x13_5 = true
   ·subst c33
    have H1 : (some 1) = some r := by rw [if_pos rfl] at H; exact H
    clear H
    have H := H1
    clear H1
    obtain rfl := Option.some.inj H
    go_wp2
    go_ret
    exact ⟨by first | rfl | (simp [errW_none, errW_some] <;> rfl) | (simp [*, errW_none, errW_some] <;> rfl), bi_ HB.out GE267.out GE270.out GE271.out⟩
   ·replace c33 := Bool.eq_false_iff.mpr c33
    subst c33
    have H1 : ((impl_abs.f (wrap64 (a1 - a2))).bind fun t274 => (if t274 > 12 then (some 2) else (if a2 > a1 then ((slices_Contains_int64_int64.f kj5 l0_1 t269).bind fun t275 => (impl_Raga_reason.j1 kj5 a1 a2 (!t275) a0_0 l0_1 l0_2 a0_3 a0_4 l0_5 t268 t269)) else (impl_Raga_reason.j1 kj5 a1 a2 false a0_0 l0_1 l0_2 a0_3 a0_4 l0_5 t268 t269)))) = some r := by rw [if_neg (show ¬ (false = true) by decide)] at H; exact H
    clear H
    have H := H1
    clear H1
    replace H := Option.bind_eq_some_iff.mp H
    obtain ⟨t274, A340, H⟩ := H
    replace H : (if t274 > 12 then (some 2) else (if a2 > a1 then ((slices_Contains_int64_int64.f kj5 l0_1 t269).bind fun t275 => (impl_Raga_reason.j1 kj5 a1 a2 (!t275) a0_0 l0_1 l0_2 a0_3 a0_4 l0_5 t268 t269)) else (impl_Raga_reason.j1 kj5 a1 a2 false a0_0 l0_1 l0_2 a0_3 a0_4 l0_5 t268 t269))) = some r := H
    have A34 := Aside0.mk A340
    clear A340
    by_cases c35 : t274 > 12
    ·rw [if_pos c35] at H
     have c35b0 : decide (12 < t274) = true := decide_eq_true c35
     clear c35
     obtain rfl := Option.some.inj H
     go_wp2_with (first | ((with_reducible refine gate_callee (f := 55) rfl ?_); refine goesL_ (some 28) rfl rfl Try.func55 (by kernel_rfl) rfl #[.int .i64 (wrap64 (a1 - a2))] rfl av_ ?_; (with_reducible refine (impl_abs.calls (wrap64 (a1 - a2)) t274 _ A34.out).mono ?_); rintro e w36 ⟨rfl, hb⟩; refine ⟨_, rfl, ?_⟩; have n0_ := Aside0.mk (blk_below (g := gb267) (o := .cells #[.string a0_0, .slice A0_1 l0_1.length c0_1, .slice A0_2 l0_2.length c0_2, .int .i64 a0_3, .int .i64 a0_4, .slice A0_5 l0_5.length c0_5] 42 (0, 0)) (by repeat first | exact BK267.out | refine blk_drewN ?_ _ | refine blk_drew ?_ | refine blk_alloc ?_ _) hb); have n1_ := Aside0.mk (blk_below (g := gb270) (o := .cells #[.int .i64 t268] 2 (0, 0)) (by repeat first | exact BK270.out | refine blk_drewN ?_ _ | refine blk_drew ?_ | refine blk_alloc ?_ _) hb); have n2_ := Aside0.mk (blk_below (g := gb271) (o := .cells #[.int .i64 t269] 2 (0, 0)) (by repeat first | exact BK271.out | refine blk_drewN ?_ _ | refine blk_drew ?_ | refine blk_alloc ?_ _) hb); have n3_ := Aside0.mk (below_step (bi_ HB.out GE267.out GE270.out GE271.out) hb); clear BK267; clear BK270; clear BK271; clear HB; have BK267 := n0_; have BK270 := n1_; have BK271 := n2_; have HB := n3_; clear n0_ n1_ n2_ n3_; (try clear hb); (try clear hb2); (try clear hk); (try clear hi)))
     go_ret
     exact ⟨by first | rfl | (simp [errW_none, errW_some] <;> rfl) | (simp [*, errW_none, errW_some] <;> rfl), bi_ HB.out GE267.out GE270.out GE271.out⟩
    ·rw [if_neg c35] at H
     have c35b0 : decide (12 < t274) = false := decide_eq_false c35
     clear c35
     have HC37 := Aside0.mk H
     clear H
     go_upto_region 6 with (first | ((with_reducible refine gate_callee (f := 55) rfl ?_); refine goesL_ (some 28) rfl rfl Try.func55 (by kernel_rfl) rfl #[.int .i64 (wrap64 (a1 - a2))] rfl av_ ?_; (with_reducible refine (impl_abs.calls (wrap64 (a1 - a2)) t274 _ A34.out).mono ?_); rintro e w38 ⟨rfl, hb⟩; refine ⟨_, rfl, ?_⟩; have n0_ := Aside0.mk (blk_below (g := gb267) (o := .cells #[.string a0_0, .slice A0_1 l0_1.length c0_1, .slice A0_2 l0_2.length c0_2, .int .i64 a0_3, .int .i64 a0_4, .slice A0_5 l0_5.length c0_5] 42 (0, 0)) (by repeat first | exact BK267.out | refine blk_drewN ?_ _ | refine blk_drew ?_ | refine blk_alloc ?_ _) hb); have n1_ := Aside0.mk (blk_below (g := gb270) (o := .cells #[.int .i64 t268] 2 (0, 0)) (by repeat first | exact BK270.out | refine blk_drewN ?_ _ | refine blk_drew ?_ | refine blk_alloc ?_ _) hb); have n2_ := Aside0.mk (blk_below (g := gb271) (o := .cells #[.int .i64 t269] 2 (0, 0)) (by repeat first | exact BK271.out | refine blk_drewN ?_ _ | refine blk_drew ?_ | refine blk_alloc ?_ _) hb); have n3_ := Aside0.mk (below_step (bi_ HB.out GE267.out GE270.out GE271.out) hb); clear BK267; clear BK270; clear BK271; clear HB; have BK267 := n0_; have BK270 := n1_; have BK271 := n2_; have HB := n3_; clear n0_ n1_ n2_ n3_; (try clear hb); (try clear hb2); (try clear hk); (try clear hi)))
     (try simp only [Act.put, List.setIfInBounds_toArray, List.set_cons_zero, List.set_cons_succ])
     go_cut [30] (fun v30 wc => ∃ (kq : Nat) (x30_36 : Bool), v30 = .bool x30_36 ∧ Aside0 (impl_Raga_reason.j1 kq a1 a2 x30_36 a0_0 l0_1 l0_2 a0_3 a0_4 l0_5 t268 t269 = some r) ∧ Aside0 (kq ≤ kj5) ∧ Aside0 (wc.heap[gb267]? = some (.cells #[.string a0_0, (.slice A0_1 l0_1.length c0_1), (.slice A0_2 l0_2.length c0_2), .int .i64 a0_3, .int .i64 a0_4, (.slice A0_5 l0_5.length c0_5)] 42 (0, 0))) ∧ Aside0 (wc.heap[gb270]? = some (.cells #[.int .i64 t268] 2 (0, 0))) ∧ Aside0 (wc.heap[gb271]? = some (.cells #[.int .i64 t269] 2 (0, 0))) ∧ Aside0 (Below w.heap.size w wc))
     case first =>
      have H := HC37.out
      clear HC37
      by_cases c39 : a2 > a1
      ·rw [if_pos c39] at H
       have c39b0 : decide (a1 < a2) = true := decide_eq_true c39
       clear c39
       (first | rw [c39b0] | (simp only [i64_w, i32_w]; rw [c39b0]) | skip)
       replace H := Option.bind_eq_some_iff.mp H
       obtain ⟨t275, A400, H⟩ := H
       replace H : (impl_Raga_reason.j1 kj5 a1 a2 (!t275) a0_0 l0_1 l0_2 a0_3 a0_4 l0_5 t268 t269) = some r := H
       have A40 := Aside0.mk A400
       clear A400
       have H' := Aside0.mk H
       clear H
       have hnb41 := NB267_270.out
       have hnc41 := NB270_267.out
       have hnb42 := NB267_271.out
       have hnc42 := NB271_267.out
       obtain ⟨hcz43_0, hcz43_1, hcz43_2, hcz43_3, hcz43_4, hcz43_5, hfz43_0⟩ := bx6_ (w := w38) BK267.out
       have hnb44 := NB271_270.out
       have hnc44 := NB270_271.out
       have hcz45_0 : w38.cell? ⟨gb271, 0, none⟩ = some (.int .i64 t269) := (blk_cell BK271.out 0).trans rfl
       have hfz45_0 := blk_frozen BK271.out 0
       go_wp2_with (first | (go_at_call 56; (with_reducible refine (slices_Contains_int64_int64.calls kj5 _ _ l0_1 t269 t275 _ ?side1 ?side2 A40.out).mono ?_); (case side1 => exact (Kd.C_below HR0_1.out HB.out)); (case side2 => exact HC0_1.out); rintro e w' ⟨rfl, ⟨nd, rfl⟩⟩))
       go_meet
       case rel => exact ⟨_, (!t275), sv_, H', ⟨by have := HJ5.out; first | omega | exact Nat.le_refl _⟩, ⟨by (with_reducible repeat (first | refine blk_drewN ?_ _ | refine blk_drew ?_ | refine blk_alloc ?_ _)); exact BK267.out⟩, ⟨by (with_reducible repeat (first | refine blk_drewN ?_ _ | refine blk_drew ?_ | refine blk_alloc ?_ _)); exact BK270.out⟩, ⟨by (with_reducible repeat (first | refine blk_drewN ?_ _ | refine blk_drew ?_ | refine blk_alloc ?_ _)); exact BK271.out⟩, ⟨bi_ HB.out GE267.out GE270.out GE271.out⟩⟩
      ·rw [if_neg c39] at H
       have c39b0 : decide (a1 < a2) = false := decide_eq_false c39
       clear c39
       (first | rw [c39b0] | (simp only [i64_w, i32_w]; rw [c39b0]) | skip)
       have H' := Aside0.mk H
       clear H
       go_wp2
       go_meet
       case rel => exact ⟨_, (false), sv_, H', ⟨by have := HJ5.out; first | omega | exact Nat.le_refl _⟩, ⟨by (with_reducible repeat (first | refine blk_drewN ?_ _ | refine blk_drew ?_ | refine blk_alloc ?_ _)); exact BK267.out⟩, ⟨by (with_reducible repeat (first | refine blk_drewN ?_ _ | refine blk_drew ?_ | refine blk_alloc ?_ _)); exact BK270.out⟩, ⟨by (with_reducible repeat (first | refine blk_drewN ?_ _ | refine blk_drew ?_ | refine blk_alloc ?_ _)); exact BK271.out⟩, ⟨bi_ HB.out GE267.out GE270.out GE271.out⟩⟩
     case rest =>
      clear HC37
      (try clear c1); (try clear c2); (try clear p2); (try clear c3); (try clear c4); (try clear c5); (try clear p6); (try clear c10); (try clear c11); (try clear c13); (try clear c16); (try clear c18); (try clear c19); (try clear c21); (try clear c27); (try clear c28); (try clear c30); (try clear c33); (try clear c35); (try clear c35b0); (try clear c36); (try clear c37); (try clear c39); (try clear c39b0); (try clear c41); (try clear c42); (try clear c44); (try clear hcz12_0); (try clear hcz14_0); (try clear hcz20_0); (try clear hcz20_1); (try clear hcz20_2); (try clear hcz20_3); (try clear hcz20_4); (try clear hcz20_5); (try clear hcz22_0); (try clear hcz24_0); (try clear hcz24_1); (try clear hcz24_2); (try clear hcz24_3); (try clear hcz24_4); (try clear hcz24_5); (try clear hcz25_0); (try clear hcz29_0); (try clear hcz29_1); (try clear hcz29_2); (try clear hcz29_3); (try clear hcz29_4); (try clear hcz29_5); (try clear hcz31_0); (try clear hcz43_0); (try clear hcz43_1); (try clear hcz43_2); (try clear hcz43_3); (try clear hcz43_4); (try clear hcz43_5); (try clear hcz45_0); (try clear hfz12_0); (try clear hfz14_0); (try clear hfz20_0); (try clear hfz22_0); (try clear hfz24_0); (try clear hfz25_0); (try clear hfz29_0); (try clear hfz31_0); (try clear hfz43_0); (try clear hfz45_0); (try clear p2)
      obtain ⟨kq, x30_36, rfl, HA, HJ36, BK267, BK270, BK271, HB⟩ := hcut
      cases kq with
      | zero => exact absurd HA.out (by simp [impl_Raga_reason.j1])
      | succ kj36 =>
       have H := HA.out
       clear HA
       simp only [impl_Raga_reason.j1] at H
       by_cases c46 : x30_36 = true
       ·subst c46
        have H1 : (some 3) = some r := by rw [if_pos rfl] at H; exact H
        clear H
        have H := H1
        clear H1
        obtain rfl := Option.some.inj H
        go_wp2
        go_ret
        exact ⟨by first | rfl | (simp [errW_none, errW_some] <;> rfl) | (simp [*, errW_none, errW_some] <;> rfl), bi_ HB.out GE267.out GE270.out GE271.out⟩
       ·replace c46 := Bool.eq_false_iff.mpr c46
        subst c46
        have H1 : (if a2 < a1 then ((slices_Contains_int64_int64.f kj36 l0_2 t269).bind fun t276 => (impl_Raga_reason.j2 kj36 (!t276) a0_0 l0_1 l0_2 a0_3 a0_4 l0_5 t268 t269)) else (impl_Raga_reason.j2 kj36 false a0_0 l0_1 l0_2 a0_3 a0_4 l0_5 t268 t269)) = some r := by rw [if_neg (show ¬ (false = true) by decide)] at H; exact H
        clear H
        have H := H1
        clear H1
        have HC47 := Aside0.mk H
        clear H
        go_upto_region 8 with (fail)
        go_cut [41] (fun v41 wc => ∃ (kq : Nat) (x41_46 : Bool), v41 = .bool x41_46 ∧ Aside0 (impl_Raga_reason.j2 kq x41_46 a0_0 l0_1 l0_2 a0_3 a0_4 l0_5 t268 t269 = some r) ∧ Aside0 (kq ≤ kj36) ∧ Aside0 (wc.heap[gb267]? = some (.cells #[.string a0_0, (.slice A0_1 l0_1.length c0_1), (.slice A0_2 l0_2.length c0_2), .int .i64 a0_3, .int .i64 a0_4, (.slice A0_5 l0_5.length c0_5)] 42 (0, 0))) ∧ Aside0 (wc.heap[gb270]? = some (.cells #[.int .i64 t268] 2 (0, 0))) ∧ Aside0 (wc.heap[gb271]? = some (.cells #[.int .i64 t269] 2 (0, 0))) ∧ Aside0 (Below w.heap.size w wc))
        case first =>
         have H := HC47.out
         clear HC47
         by_cases c48 : a2 < a1
         ·rw [if_pos c48] at H
          have c48b0 : decide (a2 < a1) = true := decide_eq_true c48
          clear c48
          (first | rw [c48b0] | (simp only [i64_w, i32_w]; rw [c48b0]) | skip)
          replace H := Option.bind_eq_some_iff.mp H
          obtain ⟨t276, A490, H⟩ := H
          replace H : (impl_Raga_reason.j2 kj36 (!t276) a0_0 l0_1 l0_2 a0_3 a0_4 l0_5 t268 t269) = some r := H
          have A49 := Aside0.mk A490
          clear A490
          have H' := Aside0.mk H
          clear H
          have hnb50 := NB267_270.out
          have hnc50 := NB270_267.out
          have hnb51 := NB267_271.out
          have hnc51 := NB271_267.out
          obtain ⟨hcz52_0, hcz52_1, hcz52_2, hcz52_3, hcz52_4, hcz52_5, hfz52_0⟩ := bx6_ (w := wc) BK267.out
          have hnb53 := NB271_270.out
          have hnc53 := NB270_271.out
          have hcz54_0 : wc.cell? ⟨gb271, 0, none⟩ = some (.int .i64 t269) := (blk_cell BK271.out 0).trans rfl
          have hfz54_0 := blk_frozen BK271.out 0
          go_wp2_with (first | (go_at_call 56; (with_reducible refine (slices_Contains_int64_int64.calls kj36 _ _ l0_2 t269 t276 _ ?side1 ?side2 A49.out).mono ?_); (case side1 => exact (Kd.C_below HR0_2.out HB.out)); (case side2 => exact HC0_2.out); rintro e w' ⟨rfl, ⟨nd, rfl⟩⟩))
          go_meet
          case rel => exact ⟨_, (!t276), sv_, H', ⟨by have := HJ5.out; have := HJ36.out; first | omega | exact Nat.le_refl _⟩, ⟨by (with_reducible repeat (first | refine blk_drewN ?_ _ | refine blk_drew ?_ | refine blk_alloc ?_ _)); exact BK267.out⟩, ⟨by (with_reducible repeat (first | refine blk_drewN ?_ _ | refine blk_drew ?_ | refine blk_alloc ?_ _)); exact BK270.out⟩, ⟨by (with_reducible repeat (first | refine blk_drewN ?_ _ | refine blk_drew ?_ | refine blk_alloc ?_ _)); exact BK271.out⟩, ⟨bi_ HB.out GE267.out GE270.out GE271.out⟩⟩
         ·rw [if_neg c48] at H
          have c48b0 : decide (a2 < a1) = false := decide_eq_false c48
          clear c48
          (first | rw [c48b0] | (simp only [i64_w, i32_w]; rw [c48b0]) | skip)
          have H' := Aside0.mk H
          clear H
          go_wp2
          go_meet
          case rel => exact ⟨_, (false), sv_, H', ⟨by have := HJ5.out; have := HJ36.out; first | omega | exact Nat.le_refl _⟩, ⟨by (with_reducible repeat (first | refine blk_drewN ?_ _ | refine blk_drew ?_ | refine blk_alloc ?_ _)); exact BK267.out⟩, ⟨by (with_reducible repeat (first | refine blk_drewN ?_ _ | refine blk_drew ?_ | refine blk_alloc ?_ _)); exact BK270.out⟩, ⟨by (with_reducible repeat (first | refine blk_drewN ?_ _ | refine blk_drew ?_ | refine blk_alloc ?_ _)); exact BK271.out⟩, ⟨bi_ HB.out GE267.out GE270.out GE271.out⟩⟩
        case rest =>
         clear HC47
         (try clear c1); (try clear c2); (try clear p2); (try clear c3); (try clear c4); (try clear c5); (try clear p6); (try clear c10); (try clear c11); (try clear c13); (try clear c16); (try clear c18); (try clear c19); (try clear c21); (try clear c27); (try clear c28); (try clear c30); (try clear c33); (try clear c35); (try clear c35b0); (try clear c36); (try clear c37); (try clear c39); (try clear c39b0); (try clear c41); (try clear c42); (try clear c44); (try clear c46); (try clear c48); (try clear c48b0); (try clear c50); (try clear c51); (try clear c53); (try clear c54); (try clear hcz12_0); (try clear hcz14_0); (try clear hcz20_0); (try clear hcz20_1); (try clear hcz20_2); (try clear hcz20_3); (try clear hcz20_4); (try clear hcz20_5); (try clear hcz22_0); (try clear hcz24_0); (try clear hcz24_1); (try clear hcz24_2); (try clear hcz24_3); (try clear hcz24_4); (try clear hcz24_5); (try clear hcz25_0); (try clear hcz29_0); (try clear hcz29_1); (try clear hcz29_2); (try clear hcz29_3); (try clear hcz29_4); (try clear hcz29_5); (try clear hcz31_0); (try clear hcz43_0); (try clear hcz43_1); (try clear hcz43_2); (try clear hcz43_3); (try clear hcz43_4); (try clear hcz43_5); (try clear hcz45_0); (try clear hcz52_0); (try clear hcz52_1); (try clear hcz52_2); (try clear hcz52_3); (try clear hcz52_4); (try clear hcz52_5); (try clear hcz54_0); (try clear hfz12_0); (try clear hfz14_0); (try clear hfz20_0); (try clear hfz22_0); (try clear hfz24_0); (try clear hfz25_0); (try clear hfz29_0); (try clear hfz31_0); (try clear hfz43_0); (try clear hfz45_0); (try clear hfz52_0); (try clear hfz54_0); (try clear p2); (try clear p6)
         obtain ⟨kq, x41_46, rfl, HA, HJ46, BK267, BK270, BK271, HB⟩ := hcut
         cases kq with
         | zero => exact absurd HA.out (by simp [impl_Raga_reason.j2])
         | succ kj46 =>
          have H := HA.out
          clear HA
          simp only [impl_Raga_reason.j2] at H
          by_cases c55 : x41_46 = true
          ·subst c55
           have H1 : (some 4) = some r := by rw [if_pos rfl] at H; exact H
           clear H
           have H := H1
           clear H1
           obtain rfl := Option.some.inj H
           go_wp2
           go_ret
           exact ⟨by first | rfl | (simp [errW_none, errW_some] <;> rfl) | (simp [*, errW_none, errW_some] <;> rfl), bi_ HB.out GE267.out GE270.out GE271.out⟩
          ·replace c55 := Bool.eq_false_iff.mpr c55
           subst c55
           have H1 : ((impl_reason_any.f l0_5 t268 t269).bind fun t277 => (if t277 = true then (some 5) else (some 0))) = some r := by rw [if_neg (show ¬ (false = true) by decide)] at H; exact H
           clear H
           have H := H1
           clear H1
           replace H := Option.bind_eq_some_iff.mp H
           obtain ⟨t277, A560, H⟩ := H
           replace H : (if t277 = true then (some 5) else (some 0)) = some r := H
           have A56 := Aside0.mk A560
           clear A560
           by_cases c57 : t277 = true
           ·subst c57
            have H1 : (some 5) = some r := by rw [if_pos rfl] at H; exact H
            clear H
            have H := H1
            clear H1
            obtain rfl := Option.some.inj H
            have hnb58 := NB267_270.out
            have hnc58 := NB270_267.out
            have hnb59 := NB267_271.out
            have hnc59 := NB271_267.out
            obtain ⟨hcz60_0, hcz60_1, hcz60_2, hcz60_3, hcz60_4, hcz60_5, hfz60_0⟩ := bx6_ (w := wc) BK267.out
            go_wp2_with (first | ((with_reducible refine gate_callee (f := 57) rfl ?_); refine goesL_ (some 56) rfl rfl Try.func57 (by kernel_rfl) rfl #[.slice A0_5 l0_5.length c0_5, .func (.func 58) #[] #[.pointer (some ⟨gb270, 0, none⟩), .pointer (some ⟨gb271, 0, none⟩)]] rfl av_ ?_; (with_reducible refine (impl_reason_any.calls _ _ l0_5 gb270 t268 gb271 t269 true _ ?side1 ?side2 ?side3 ?side4 A56.out).mono ?_); (case side1 => exact (Kd.C_below HR0_5.out HB.out)); (case side2 => exact HC0_5.out); (case side3 => exact bk_ BK270.out); (case side4 => exact bk_ BK271.out); rintro e w61 ⟨rfl, hb⟩; refine ⟨_, rfl, ?_⟩; have n0_ := Aside0.mk (blk_below (g := gb267) (o := .cells #[.string a0_0, .slice A0_1 l0_1.length c0_1, .slice A0_2 l0_2.length c0_2, .int .i64 a0_3, .int .i64 a0_4, .slice A0_5 l0_5.length c0_5] 42 (0, 0)) (by repeat first | exact BK267.out | refine blk_drewN ?_ _ | refine blk_drew ?_ | refine blk_alloc ?_ _) hb); have n1_ := Aside0.mk (blk_below (g := gb270) (o := .cells #[.int .i64 t268] 2 (0, 0)) (by repeat first | exact BK270.out | refine blk_drewN ?_ _ | refine blk_drew ?_ | refine blk_alloc ?_ _) hb); have n2_ := Aside0.mk (blk_below (g := gb271) (o := .cells #[.int .i64 t269] 2 (0, 0)) (by repeat first | exact BK271.out | refine blk_drewN ?_ _ | refine blk_drew ?_ | refine blk_alloc ?_ _) hb); have n3_ := Aside0.mk (below_step (bi_ HB.out GE267.out GE270.out GE271.out) hb); clear BK267; clear BK270; clear BK271; clear HB; have BK267 := n0_; have BK270 := n1_; have BK271 := n2_; have HB := n3_; clear n0_ n1_ n2_ n3_; (try clear hb); (try clear hb2); (try clear hk); (try clear hi)))
            go_ret
            exact ⟨by first | rfl | (simp [errW_none, errW_some] <;> rfl) | (simp [*, errW_none, errW_some] <;> rfl), bi_ HB.out GE267.out GE270.out GE271.out⟩
           ·replace c57 := Bool.eq_false_iff.mpr c57
            subst c57
            have H1 : (some 0) = some r := by rw [if_neg (show ¬ (false = true) by decide)] at H; exact H
            clear H
            have H := H1
            clear H1
            obtain rfl := Option.some.inj H
            have hnb62 := NB267_270.out
            have hnc62 := NB270_267.out
            have hnb63 := NB267_271.out
            have hnc63 := NB271_267.out
            obtain ⟨hcz64_0, hcz64_1, hcz64_2, hcz64_3, hcz64_4, hcz64_5, hfz64_0⟩ := bx6_ (w := wc) BK267.out
            go_wp2_with (first | ((with_reducible refine gate_callee (f := 57) rfl ?_); refine goesL_ (some 56) rfl rfl Try.func57 (by kernel_rfl) rfl #[.slice A0_5 l0_5.length c0_5, .func (.func 58) #[] #[.pointer (some ⟨gb270, 0, none⟩), .pointer (some ⟨gb271, 0, none⟩)]] rfl av_ ?_; (with_reducible refine (impl_reason_any.calls _ _ l0_5 gb270 t268 gb271 t269 false _ ?side1 ?side2 ?side3 ?side4 A56.out).mono ?_); (case side1 => exact (Kd.C_below HR0_5.out HB.out)); (case side2 => exact HC0_5.out); (case side3 => exact bk_ BK270.out); (case side4 => exact bk_ BK271.out); rintro e w65 ⟨rfl, hb⟩; refine ⟨_, rfl, ?_⟩; have n0_ := Aside0.mk (blk_below (g := gb267) (o := .cells #[.string a0_0, .slice A0_1 l0_1.length c0_1, .slice A0_2 l0_2.length c0_2, .int .i64 a0_3, .int .i64 a0_4, .slice A0_5 l0_5.length c0_5] 42 (0, 0)) (by repeat first | exact BK267.out | refine blk_drewN ?_ _ | refine blk_drew ?_ | refine blk_alloc ?_ _) hb); have n1_ := Aside0.mk (blk_below (g := gb270) (o := .cells #[.int .i64 t268] 2 (0, 0)) (by repeat first | exact BK270.out | refine blk_drewN ?_ _ | refine blk_drew ?_ | refine blk_alloc ?_ _) hb); have n2_ := Aside0.mk (blk_below (g := gb271) (o := .cells #[.int .i64 t269] 2 (0, 0)) (by repeat first | exact BK271.out | refine blk_drewN ?_ _ | refine blk_drew ?_ | refine blk_alloc ?_ _) hb); have n3_ := Aside0.mk (below_step (bi_ HB.out GE267.out GE270.out GE271.out) hb); clear BK267; clear BK270; clear BK271; clear HB; have BK267 := n0_; have BK270 := n1_; have BK271 := n2_; have HB := n3_; clear n0_ n1_ n2_ n3_; (try clear hb); (try clear hb2); (try clear hk); (try clear hi)))
            go_ret
            exact ⟨by first | rfl | (simp [errW_none, errW_some] <;> rfl) | (simp [*, errW_none, errW_some] <;> rfl), bi_ HB.out GE267.out GE270.out GE271.out⟩
/-! ### pre_dn: function 90 (given) -/
theorem dN1 {w : World} {a b : Nat} : (w.drewN a).drewN b = w.drewN (a + b) := World.drewN_drewN _ _ _
theorem dN2 {w : World} {a b c : Nat} : (w.drewN (a + b)).drewN c = w.drewN (a + (b + c)) := Eq.trans (World.drewN_drewN _ _ _) (congrArg (World.drewN _) (Nat.add_assoc _ _ _))
abbrev y_ : Bool := true
abbrev n_ : Bool := false
/-! ### impl_Raga_wrongMoves: function 21 -/
def impl_Raga_wrongMoves.K0 : Array Bool := (bm 12 0)
def impl_Raga_wrongMoves.K1 : Array Bool := (bm 12 2)
def impl_Raga_wrongMoves.K2 : Array Bool := (bm 12 6)
def impl_Raga_wrongMoves.K3 : Array Bool := (bm 12 14)
def impl_Raga_wrongMoves.K4 : Array Bool := (bm 12 30)
def impl_Raga_wrongMoves.K5 : Array Bool := (bm 12 94)
def impl_Raga_wrongMoves.K6 : Array Bool := (bm 12 222)
def impl_Raga_wrongMoves.K7 : Array Bool := (bm 12 478)
def impl_Raga_wrongMoves.K8 : Array Bool := (bm 12 479)
def impl_Raga_wrongMoves.K9 : Array Bool := (bm 12 511)
def impl_Raga_wrongMoves.K10 : Array Bool := (bm 12 1023)
def impl_Raga_wrongMoves.K11 : Array Bool := (bm 12 2047)
def impl_Raga_wrongMoves.K12 : Array Bool := (bm 12 4095)
def impl_Raga_wrongMoves.l0 : Nat → List Int → Int → Int → ByteArray → List Int → List Int → Int → Int → List (List Int) → Option (Int)
 | 0, _, _, _, _, _, _, _, _, _ => none
 | k + 1, x1, x5, x6, x279000, x279001, x279002, x279003, x279004, x279005 => if x6 < (x1.length : Int) then (if 0 ≤ (wrap64 (x6 - 1)) then (if (wrap64 (x6 - 1)) < (x1.length : Int) then (if 0 ≤ x6 then ((impl_Raga_reason.f k x279000 x279001 x279002 x279003 x279004 x279005 (rd x1 (wrap64 (x6 - 1))) (rd x1 x6)).bind fun t281 => (if t281 = 0 then (impl_Raga_wrongMoves.l0 k x1 x5 (wrap64 (x6 + 1)) x279000 x279001 x279002 x279003 x279004 x279005) else (impl_Raga_wrongMoves.l0 k x1 (wrap64 (x5 + 1)) (wrap64 (x6 + 1)) x279000 x279001 x279002 x279003 x279004 x279005))) else (none)) else (none)) else (none)) else (some x5)
def impl_Raga_wrongMoves.f (k : Nat) (a0_0 : ByteArray) (l0_1 : List Int) (l0_2 : List Int) (a0_3 : Int) (a0_4 : Int) (l0_5 : List (List Int)) (l1 : List Int) : Option (Int) := impl_Raga_wrongMoves.l0 k l1 0 1 a0_0 l0_1 l0_2 a0_3 a0_4 l0_5
def impl_Raga_wrongMoves.T5 : Bool × List (List Nat × List Nat) := (true, [([], []), ([], []), ([], []), ([2], [2]), ([1, 3], [1, 3]), ([4], [4]), ([], []), ([], []), ([6, 7], [6, 7]), ([8], [8]), ([0, 5, 9], [0, 5, 9]), ([10], [10])])
def impl_Raga_wrongMoves.B5 : List Nat := [0, 0, 0, 4, 14, 30, 0, 0, 192, 448, 1023, 2047]
theorem impl_Raga_wrongMoves.tab5 : rtab .any (opsOf Try.f21 5) = impl_Raga_wrongMoves.T5 := by kernel_rfl
theorem impl_Raga_wrongMoves.bits5 : waitsOk impl_Raga_wrongMoves.T5.2 impl_Raga_wrongMoves.B5 = true := by kernel_rfl
set_option maxHeartbeats 8000000 in
set_option maxRecDepth 100000 in
theorem impl_Raga_wrongMoves.calls (k : Nat) (a0_0 : ByteArray) (A0_1 : Option Addr) (c0_1 : Nat) (l0_1 : List Int) (A0_2 : Option Addr) (c0_2 : Nat) (l0_2 : List Int) (a0_3 : Int) (a0_4 : Int) (A0_5 : Option Addr) (c0_5 : Nat) (l0_5 : List (List Int)) (A1 : Option Addr) (c1 : Nat) (l1 : List Int) (r : Int) (w : World) (hr0_1 : Kd.C (Kd.int .i64) w A0_1 l0_1.length l0_1) (hc0_1 : l0_1.length ≤ c0_1) (hr0_2 : Kd.C (Kd.int .i64) w A0_2 l0_2.length l0_2) (hc0_2 : l0_2.length ≤ c0_2) (hr0_5 : Kd.C (Kd.slice 2 (Kd.int .i64)) w A0_5 l0_5.length l0_5) (hc0_5 : l0_5.length ≤ c0_5) (hr1 : Kd.C (Kd.int .i64) w A1 l1.length l1) (hc1 : l1.length ≤ c1) (h : impl_Raga_wrongMoves.f k a0_0 l0_1 l0_2 a0_3 a0_4 l0_5 l1 = some r) :
  Calls Try.prog 21 #[.agg #[.string a0_0, .slice A0_1 l0_1.length c0_1, .slice A0_2 l0_2.length c0_2, .int .i64 a0_3, .int .i64 a0_4, .slice A0_5 l0_5.length c0_5], .slice A1 l1.length c1] w fun e w' => e = .returned (.int .i64 r) ∧ Below w.heap.size w w' := by
 have hu42 := Try.underlying42
 have HR0_1 := Aside0.mk hr0_1
 have HC0_1 := Aside0.mk hc0_1
 clear hr0_1 hc0_1
 have HR0_2 := Aside0.mk hr0_2
 have HC0_2 := Aside0.mk hc0_2
 clear hr0_2 hc0_2
 have HR0_5 := Aside0.mk hr0_5
 have HC0_5 := Aside0.mk hc0_5
 clear hr0_5 hc0_5
 have HR1 := Aside0.mk hr1
 have HC1 := Aside0.mk hc1
 clear hr1 hc1
 have HB := Aside0.mk (Below.refl w.heap.size w)
 have H : (impl_Raga_wrongMoves.l0 k l1 0 1 a0_0 l0_1 l0_2 a0_3 a0_4 l0_5) = some r := h
 clear h
 have H' := Aside0.mk H
 clear H
 go_enter Try.func21, Try.ntmps21
 go_wp2_with (first | ((with_reducible refine gate_dst (N := 2) rfl ?_); refine box_event ?hg (N := 2) ?hd (cs := #[.string a0_0, .slice A0_1 l0_1.length c0_1, .slice A0_2 l0_2.length c0_2, .int .i64 a0_3, .int .i64 a0_4, .slice A0_5 l0_5.length c0_5]) (t := 42) ?hr ?_; (case hd => rfl); (case hg => rfl); (case hr => first | (go_simp; done) | (go_simp; rfl)); intro gb278 hg w3 hbox hb; have n0_ := Aside0.mk (below_step (bb_ HB.out) hb); have n1_ := Aside0.mk (hbox); have n2_ := Aside0.mk ((by rw [hg]; exact (below_size (bb_ HB.out)) : w.heap.size ≤ gb278)); have n3_ := Aside0.mk ((by rw [hg]; exact (below_size (bb_ HB.out)) : w.heap.size ≤ gb278)); clear HB; have HB := n0_; have BK278 := n1_; have GW278 := n2_; have GE278 := n3_; clear n0_ n1_ n2_ n3_; clear hb hbox hg))
 go_loopg [5, 6] k (fun kq v5 v6 w' => ∃ (x5_1 : Int) (x6_1 : Int), v5 = .int .i64 x5_1 ∧ v6 = .int .i64 x6_1 ∧ Aside0 (impl_Raga_wrongMoves.l0 kq l1 x5_1 x6_1 a0_0 l0_1 l0_2 a0_3 a0_4 l0_5 = some r) ∧ Aside0 (kq ≤ k) ∧ Aside0 (w'.heap[gb278]? = some (.cells #[.string a0_0, (.slice A0_1 l0_1.length c0_1), (.slice A0_2 l0_2.length c0_2), .int .i64 a0_3, .int .i64 a0_4, (.slice A0_5 l0_5.length c0_5)] 42 (0, 0))) ∧ Aside0 (Below w.heap.size w w'))
 case atStart => exact ⟨(0), (1), sv_, sv_, H', ⟨Nat.le_refl _⟩, ⟨by (with_reducible repeat (first | refine blk_drewN ?_ _ | refine blk_drew ?_ | refine blk_alloc ?_ _)); exact BK278.out⟩, ⟨bg_ HB.out GE278.out⟩⟩
 case round =>
  clear H'
  (try clear c1); (try clear c2); (try clear p2)
  obtain ⟨x5_1, x6_1, rfl, rfl, HA, HK1, BK278, HB⟩ := hrel
  cases gk with
  | zero => exact absurd HA.out (by simp [impl_Raga_wrongMoves.l0])
  | succ k1 =>
   have H := HA.out
   clear HA
   simp only [impl_Raga_wrongMoves.l0] at H
   by_cases c4 : x6_1 < (l1.length : Int)
   ·rw [if_pos c4] at H
    have c4b0 : decide (x6_1 < (l1.length : Int)) = true := decide_eq_true c4
    clear c4
    obtain ⟨ji5, hji5⟩ : ∃ j_ : Int, (wrap64 (x6_1 - 1)) = j_ := ⟨_, rfl⟩
    replace H : (if 0 ≤ (ji5) then (if (ji5) < (l1.length : Int) then (if 0 ≤ x6_1 then ((impl_Raga_reason.f k1 a0_0 l0_1 l0_2 a0_3 a0_4 l0_5 (rd l1 (ji5)) (rd l1 x6_1)).bind fun t281 => (if t281 = 0 then (impl_Raga_wrongMoves.l0 k1 l1 x5_1 (wrap64 (x6_1 + 1)) a0_0 l0_1 l0_2 a0_3 a0_4 l0_5) else (impl_Raga_wrongMoves.l0 k1 l1 (wrap64 (x5_1 + 1)) (wrap64 (x6_1 + 1)) a0_0 l0_1 l0_2 a0_3 a0_4 l0_5))) else (none)) else (none)) else (none)) = some r := by first | (rw [hji5] at H; exact H) | (simp only [hji5] at H ⊢; exact H)
    have hji5w : (IntKind.i64.wrap (x6_1 - 1)) = ji5 := (i64_w _).trans hji5
    by_cases c6 : 0 ≤ (ji5)
    ·rw [if_pos c6] at H
     have c6b0 : decide (0 ≤ (ji5)) = true := decide_eq_true c6
     clear c6
     by_cases c7 : (ji5) < (l1.length : Int)
     ·rw [if_pos c7] at H
      have c7b0 : decide ((ji5) < (l1.length : Int)) = true := decide_eq_true c7
      clear c7
      by_cases c8 : 0 ≤ x6_1
      ·rw [if_pos c8] at H
       have c8b0 : decide (0 ≤ x6_1) = true := decide_eq_true c8
       clear c8
       replace H := Option.bind_eq_some_iff.mp H
       obtain ⟨t281, A90, H⟩ := H
       replace H : (if t281 = 0 then (impl_Raga_wrongMoves.l0 k1 l1 x5_1 (wrap64 (x6_1 + 1)) a0_0 l0_1 l0_2 a0_3 a0_4 l0_5) else (impl_Raga_wrongMoves.l0 k1 l1 (wrap64 (x5_1 + 1)) (wrap64 (x6_1 + 1)) a0_0 l0_1 l0_2 a0_3 a0_4 l0_5)) = some r := H
       have A9 := Aside0.mk A90; clear A90
       by_cases c10 : t281 = 0
       ·rw [if_pos c10] at H
        have c10b0 : (t281 == 0) = true := beq_iff_eq.mpr c10
        have c10b1 : (t281 != 0) = false := bne_eq_false_iff_eq.mpr c10
        clear c10
        have H' := Aside0.mk H
        clear H
        try go_wp2
        have n0_ := Aside0.mk (blk_drew BK278.out)
        have n1_ := Aside0.mk (below_drew1 HB.out)
        clear BK278; clear HB; have BK278 := n0_; have HB := n1_; clear n0_ n1_
        have p279 : 0 ≤ ((ji5) : Int) := da_
        have q279 : (ji5) < (l1.length : Int) := da_
        obtain ⟨ad279, e279, hx279_0⟩ := Kd.at_int HR1.out (ji5) p279 q279; have hw279_0 := hx279_0; cases e279
        replace hx279_0 := (wc_ HB.out hx279_0 :)
        replace p279 := eq_true p279; replace q279 := eq_true q279
        have p280 : 0 ≤ (x6_1 : Int) := da_
        have q280 : x6_1 < (l1.length : Int) := da_
        obtain ⟨ad280, e280, hx280_0⟩ := Kd.at_int HR1.out x6_1 p280 q280; have hw280_0 := hx280_0; obtain rfl : ad279 = ad280 := (by injection e280)
        replace hx280_0 := (wc_ HB.out hx280_0 :)
        replace p280 := eq_true p280; replace q280 := eq_true q280
        refine start_ (n := 12) (S := fun w' => w'.cell? ⟨gb278, 0, none⟩ = some (.string a0_0) ∧ w'.cell? ⟨gb278, 1, none⟩ = some (.slice A0_1 l0_1.length c0_1) ∧ w'.cell? ⟨gb278, 2, none⟩ = some (.slice A0_2 l0_2.length c0_2) ∧ w'.cell? ⟨gb278, 3, none⟩ = some (.int .i64 a0_3) ∧ w'.cell? ⟨gb278, 4, none⟩ = some (.int .i64 a0_4) ∧ w'.cell? ⟨gb278, 5, none⟩ = some (.slice A0_5 l0_5.length c0_5) ∧ w'.cell? (ad279.add ((ji5)).toNat) = some (.int .i64 (rd l1 (ji5))) ∧ w'.cell? (ad279.add (x6_1).toNat) = some (.int .i64 (rd l1 x6_1))) (ds := []) impl_Raga_wrongMoves.K0 (by kernel_rfl) rfl rfl ⟨(blk_cell BK278.out 0).trans rfl, (blk_cell BK278.out 1).trans rfl, (blk_cell BK278.out 2).trans rfl, (blk_cell BK278.out 3).trans rfl, (blk_cell BK278.out 4).trans rfl, (blk_cell BK278.out 5).trans rfl, (wc_ HB.out hw279_0 :), (wc_ HB.out hw280_0 :)⟩ (fun hHeld => ?_); refine with_tabW impl_Raga_wrongMoves.tab5 impl_Raga_wrongMoves.bits5 (fun HT_ HW_ => ?_)
        generalize wr.drew = w11 at BK278 HB hx279_0 hx280_0 hHeld ⊢
        refine pu_ HT_ 1 14 impl_Raga_wrongMoves.K1 ?_; refine pu_ HT_ 2 15 impl_Raga_wrongMoves.K2 ?_; refine pu_ HT_ 3 16 impl_Raga_wrongMoves.K3 ?_; refine pu_ HT_ 4 17 impl_Raga_wrongMoves.K4 ?_; refine pu_ HT_ 6 19 impl_Raga_wrongMoves.K5 ?_; refine pu_ HT_ 7 20 impl_Raga_wrongMoves.K6 ?_; refine pu_ HT_ 8 21 impl_Raga_wrongMoves.K7 ?_; refine tk_ HT_ HW_ hHeld 0 13 impl_Raga_wrongMoves.K8 ?_; refine tk_ HT_ HW_ hHeld 5 18 impl_Raga_wrongMoves.K9 ?_; refine tk_ HT_ HW_ hHeld 9 22 impl_Raga_wrongMoves.K10 ?_
        refine one_ (i := 10) (N := some 23) impl_Raga_wrongMoves.K11 rfl rfl (one_of HT_.out (by kernel_rfl)) (by decide) (fun K hK => ?_)
        refine goes_ Try.func36 (by kernel_rfl) rfl #[.agg #[.string a0_0, .slice A0_1 l0_1.length c0_1, .slice A0_2 l0_2.length c0_2, .int .i64 a0_3, .int .i64 a0_4, .slice A0_5 l0_5.length c0_5], .int .i64 (rd l1 (ji5)), .int .i64 (rd l1 x6_1)] (by rfl) rfl rfl (by (try simp only [List.map_toArray, List.map_cons, List.map_nil]); first | done | (simp only [hji5]; rfl) | rfl | (simp only [List.length_drop, List.length_take]; rfl)) ?_
        with_reducible refine (impl_Raga_reason.calls k1 a0_0 _ _ l0_1 _ _ l0_2 a0_3 a0_4 _ _ l0_5 (rd l1 (ji5)) (rd l1 x6_1) t281 _ ?side1 ?side2 ?side3 ?side4 ?side5 ?side6 A9.out).mono ?_
        (case side1 => exact (Kd.C_below HR0_1.out HB.out))
        (case side2 => exact HC0_1.out)
        (case side3 => exact (Kd.C_below HR0_2.out HB.out))
        (case side4 => exact HC0_2.out)
        (case side5 => exact (Kd.C_below HR0_5.out HB.out))
        (case side6 => exact HC0_5.out)
        rintro e w12 ⟨rfl, hb⟩
        refine ⟨_, rfl, ?_⟩
        have n0_ := Aside0.mk (blk_below (g := gb278) (o := .cells #[.string a0_0, .slice A0_1 l0_1.length c0_1, .slice A0_2 l0_2.length c0_2, .int .i64 a0_3, .int .i64 a0_4, .slice A0_5 l0_5.length c0_5] 42 (0, 0)) (by repeat first | exact BK278.out | refine blk_drewN ?_ _ | refine blk_drew ?_ | refine blk_alloc ?_ _) hb)
        have n1_ := Aside0.mk (below_step (bg_ HB.out GE278.out) hb)
        clear BK278; clear HB; have BK278 := n0_; have HB := n1_; clear n0_ n1_; (try clear hb); (try clear hb2); (try clear hk); (try clear hi)
        refine hK.out _ _ ⟨(blk_cell BK278.out 0).trans rfl, (blk_cell BK278.out 1).trans rfl, (blk_cell BK278.out 2).trans rfl, (blk_cell BK278.out 3).trans rfl, (blk_cell BK278.out 4).trans rfl, (blk_cell BK278.out 5).trans rfl, (wc_ HB.out hw279_0 :), (wc_ HB.out hw280_0 :)⟩ (fun hHeld => ?_)
        clear hK K; refine norm_ (a' := ?_) ?_ ?_; rotate_left
        ·show Act.put _ (some 23) _ = _
         go_simp
         rfl
        refine pu_ HT_ 11 24 impl_Raga_wrongMoves.K12 ?_
        refine done_ (done_of HT_.out (by kernel_rfl)) ?_
        try go_wp2
        go_roundg k1
        case measure => have := HK1.out; omega
        case rel => exact ⟨(x5_1), (wrap64 (x6_1 + 1)), sv_, sv_, H', ⟨by have := HK1.out; omega⟩, ⟨by (with_reducible repeat (first | refine blk_drewN ?_ _ | refine blk_drew ?_ | refine blk_alloc ?_ _)); exact BK278.out⟩, ⟨bg_ HB.out GE278.out⟩⟩
       ·rw [if_neg c10] at H
        have c10b0 : (t281 == 0) = false := beq_eq_false_iff_ne.mpr c10
        have c10b1 : (t281 != 0) = true := bne_iff_ne.mpr c10
        have H' := Aside0.mk H
        clear H
        try go_wp2
        have n0_ := Aside0.mk (blk_drew BK278.out)
        have n1_ := Aside0.mk (below_drew1 HB.out)
        clear BK278; clear HB; have BK278 := n0_; have HB := n1_; clear n0_ n1_
        have p279 : 0 ≤ ((ji5) : Int) := da_
        have q279 : (ji5) < (l1.length : Int) := da_
        obtain ⟨ad279, e279, hx279_0⟩ := Kd.at_int HR1.out (ji5) p279 q279; have hw279_0 := hx279_0; cases e279
        replace hx279_0 := (wc_ HB.out hx279_0 :)
        replace p279 := eq_true p279; replace q279 := eq_true q279
        have p280 : 0 ≤ (x6_1 : Int) := da_
        have q280 : x6_1 < (l1.length : Int) := da_
        obtain ⟨ad280, e280, hx280_0⟩ := Kd.at_int HR1.out x6_1 p280 q280; have hw280_0 := hx280_0; obtain rfl : ad279 = ad280 := (by injection e280)
        replace hx280_0 := (wc_ HB.out hx280_0 :)
        replace p280 := eq_true p280; replace q280 := eq_true q280
        refine start_ (n := 12) (S := fun w' => w'.cell? ⟨gb278, 0, none⟩ = some (.string a0_0) ∧ w'.cell? ⟨gb278, 1, none⟩ = some (.slice A0_1 l0_1.length c0_1) ∧ w'.cell? ⟨gb278, 2, none⟩ = some (.slice A0_2 l0_2.length c0_2) ∧ w'.cell? ⟨gb278, 3, none⟩ = some (.int .i64 a0_3) ∧ w'.cell? ⟨gb278, 4, none⟩ = some (.int .i64 a0_4) ∧ w'.cell? ⟨gb278, 5, none⟩ = some (.slice A0_5 l0_5.length c0_5) ∧ w'.cell? (ad279.add ((ji5)).toNat) = some (.int .i64 (rd l1 (ji5))) ∧ w'.cell? (ad279.add (x6_1).toNat) = some (.int .i64 (rd l1 x6_1))) (ds := []) impl_Raga_wrongMoves.K0 (by kernel_rfl) rfl rfl ⟨(blk_cell BK278.out 0).trans rfl, (blk_cell BK278.out 1).trans rfl, (blk_cell BK278.out 2).trans rfl, (blk_cell BK278.out 3).trans rfl, (blk_cell BK278.out 4).trans rfl, (blk_cell BK278.out 5).trans rfl, (wc_ HB.out hw279_0 :), (wc_ HB.out hw280_0 :)⟩ (fun hHeld => ?_); refine with_tabW impl_Raga_wrongMoves.tab5 impl_Raga_wrongMoves.bits5 (fun HT_ HW_ => ?_)
        generalize wr.drew = w13 at BK278 HB hx279_0 hx280_0 hHeld ⊢
        refine pu_ HT_ 1 14 impl_Raga_wrongMoves.K1 ?_; refine pu_ HT_ 2 15 impl_Raga_wrongMoves.K2 ?_; refine pu_ HT_ 3 16 impl_Raga_wrongMoves.K3 ?_; refine pu_ HT_ 4 17 impl_Raga_wrongMoves.K4 ?_; refine pu_ HT_ 6 19 impl_Raga_wrongMoves.K5 ?_; refine pu_ HT_ 7 20 impl_Raga_wrongMoves.K6 ?_; refine pu_ HT_ 8 21 impl_Raga_wrongMoves.K7 ?_; refine tk_ HT_ HW_ hHeld 0 13 impl_Raga_wrongMoves.K8 ?_; refine tk_ HT_ HW_ hHeld 5 18 impl_Raga_wrongMoves.K9 ?_; refine tk_ HT_ HW_ hHeld 9 22 impl_Raga_wrongMoves.K10 ?_
        refine one_ (i := 10) (N := some 23) impl_Raga_wrongMoves.K11 rfl rfl (one_of HT_.out (by kernel_rfl)) (by decide) (fun K hK => ?_)
        refine goes_ Try.func36 (by kernel_rfl) rfl #[.agg #[.string a0_0, .slice A0_1 l0_1.length c0_1, .slice A0_2 l0_2.length c0_2, .int .i64 a0_3, .int .i64 a0_4, .slice A0_5 l0_5.length c0_5], .int .i64 (rd l1 (ji5)), .int .i64 (rd l1 x6_1)] (by rfl) rfl rfl (by (try simp only [List.map_toArray, List.map_cons, List.map_nil]); first | done | (simp only [hji5]; rfl) | rfl | (simp only [List.length_drop, List.length_take]; rfl)) ?_
        with_reducible refine (impl_Raga_reason.calls k1 a0_0 _ _ l0_1 _ _ l0_2 a0_3 a0_4 _ _ l0_5 (rd l1 (ji5)) (rd l1 x6_1) t281 _ ?side1 ?side2 ?side3 ?side4 ?side5 ?side6 A9.out).mono ?_
        (case side1 => exact (Kd.C_below HR0_1.out HB.out))
        (case side2 => exact HC0_1.out)
        (case side3 => exact (Kd.C_below HR0_2.out HB.out))
        (case side4 => exact HC0_2.out)
        (case side5 => exact (Kd.C_below HR0_5.out HB.out))
        (case side6 => exact HC0_5.out)
        rintro e w14 ⟨rfl, hb⟩
        refine ⟨_, rfl, ?_⟩
        have n0_ := Aside0.mk (blk_below (g := gb278) (o := .cells #[.string a0_0, .slice A0_1 l0_1.length c0_1, .slice A0_2 l0_2.length c0_2, .int .i64 a0_3, .int .i64 a0_4, .slice A0_5 l0_5.length c0_5] 42 (0, 0)) (by repeat first | exact BK278.out | refine blk_drewN ?_ _ | refine blk_drew ?_ | refine blk_alloc ?_ _) hb)
        have n1_ := Aside0.mk (below_step (bg_ HB.out GE278.out) hb)
        clear BK278; clear HB; have BK278 := n0_; have HB := n1_; clear n0_ n1_; (try clear hb); (try clear hb2); (try clear hk); (try clear hi)
        refine hK.out _ _ ⟨(blk_cell BK278.out 0).trans rfl, (blk_cell BK278.out 1).trans rfl, (blk_cell BK278.out 2).trans rfl, (blk_cell BK278.out 3).trans rfl, (blk_cell BK278.out 4).trans rfl, (blk_cell BK278.out 5).trans rfl, (wc_ HB.out hw279_0 :), (wc_ HB.out hw280_0 :)⟩ (fun hHeld => ?_)
        clear hK K; refine norm_ (a' := ?_) ?_ ?_; rotate_left
        ·show Act.put _ (some 23) _ = _
         go_simp
         rfl
        refine pu_ HT_ 11 24 impl_Raga_wrongMoves.K12 ?_
        refine done_ (done_of HT_.out (by kernel_rfl)) ?_
        try go_wp2
        go_roundg k1
        case measure => have := HK1.out; omega
        case rel => exact ⟨(wrap64 (x5_1 + 1)), (wrap64 (x6_1 + 1)), sv_, sv_, H', ⟨by have := HK1.out; omega⟩, ⟨by (with_reducible repeat (first | refine blk_drewN ?_ _ | refine blk_drew ?_ | refine blk_alloc ?_ _)); exact BK278.out⟩, ⟨bg_ HB.out GE278.out⟩⟩
      ·rw [if_neg c8] at H
       exact absurd H (by simp)
     ·rw [if_neg c7] at H
      exact absurd H (by simp)
    ·rw [if_neg c6] at H
     exact absurd H (by simp)
   ·rw [if_neg c4] at H
    have c4b0 : decide (x6_1 < (l1.length : Int)) = false := decide_eq_false c4
    clear c4
    obtain rfl := Option.some.inj H
    go_wp2
    go_ret
    exact ⟨by first | rfl | (simp [errW_none, errW_some] <;> rfl) | (simp [*, errW_none, errW_some] <;> rfl), bg_ HB.out GE278.out⟩
/-! ### impl_Raga_46: function 46 (given) -/
set_option maxHeartbeats 2000000 in
theorem impl_Raga_46.calls (g : Nat) (lb : Array Value) (eg : ∀ args w, (callFunc g args).run Try.prog w = .ok (.enter g args) w) (L : List S42) (p : Nat → Bool) (A : Option Addr) (c : Nat) (w : World) (hrL : Kd.C k42 w A L.length L) (hn : L.length ≤ 9223372036854775807)
    (hp : ∀ W j, j < L.length → Below w.heap.size w W → ∀ (A1 : Option Addr) (c1 : Nat) (A2 : Option Addr) (c2 : Nat) (A5 : Option Addr) (c5 : Nat), (rd_T42 L j).f1.length ≤ c1 → (Kd.int .i64).C W A1 (rd_T42 L j).f1.length (rd_T42 L j).f1 → (rd_T42 L j).f2.length ≤ c2 → (Kd.int .i64).C W A2 (rd_T42 L j).f2.length (rd_T42 L j).f2 → (rd_T42 L j).f5.length ≤ c5 → (Kd.slice 2 (Kd.int .i64)).C W A5 (rd_T42 L j).f5.length (rd_T42 L j).f5 →
      Calls Try.prog g (#[.agg #[.string (rd_T42 L j).f0, .slice A1 (rd_T42 L j).f1.length c1, .slice A2 (rd_T42 L j).f2.length c2, .int .i64 (rd_T42 L j).f3, .int .i64 (rd_T42 L j).f4, .slice A5 (rd_T42 L j).f5.length c5]] ++ lb) W fun e w' => e = .returned (.bool (p j)) ∧ Below w.heap.size w w') :
    Calls Try.prog 46 #[.slice A L.length c, .func (.func g) #[] lb] w fun e w' => e = .returned (.int .i64 (fstIdx p L.length 0)) ∧ Below w.heap.size w w' := by
  have HL := Aside0.mk hrL
  have HP := Aside0.mk hp
  have EG := Aside0.mk eg
  obtain ⟨n, hN⟩ : ∃ n, L.length = n := ⟨_, rfl⟩
  rw [hN] at HL HP hn ⊢
  clear hrL hp eg
  go_enter Try.func46, Try.ntmps46
  go_wp2
  go_loopg [5, 8] n (fun gg _ s8 wr => ∃ kk : Nat, kk ≤ n ∧ Aside0 (n - kk ≤ gg) ∧ s8 = .int .i64 kk ∧ Aside0 (Below w.heap.size w wr) ∧ Aside0 (fstIdx p (n - kk) kk = fstIdx p n 0))
  case atStart => exact ⟨0, Nat.zero_le _, ⟨by omega⟩, rfl, ⟨Below.refl _ w⟩, ⟨rfl⟩⟩
  case round =>
    obtain ⟨kk, hkk, hg, rfl, BW, HF⟩ := hrel
    by_cases hlt : kk < n
    · have hltz : (kk : Int) < (n : Int) := by omega
      obtain ⟨ad, A1, c1, A2, c2, A5, c5, rfl, hcell, hcell1, hcell2, hcell3, hcell4, hcell5, l1, g1, l2, g2, l5, g5⟩ := at_T42 (Kd.C_below HL.out BW.out) (kk : Int) (by omega) hltz
      have hcall := HP.out wr kk hlt BW.out A1 c1 A2 c2 A5 c5 l1 g1 l2 g2 l5 g5
      simp only [Int.toNat_natCast] at hcell hcell1 hcell2 hcell3 hcell4 hcell5
      have eg := EG.out
      clear l1 g1 l2 g2 l5 g5
      obtain ⟨m, hm⟩ : ∃ m, n - kk = m + 1 := ⟨n - kk - 1, by omega⟩
      have hm' : n - (kk + 1) = m := by omega
      have HM := Aside0.mk hm'
      have hF := HF.out
      rw [hm, fstIdx_succ] at hF
      clear hm hm' HF
      cases hq : p kk with
      | true =>
        rw [hq] at hcall hF
        rw [if_pos rfl] at hF
        have HF := Aside0.mk hF
        clear hF hq
        go_wp2_with ((with_reducible refine hcall.mono ?_); rintro e w' ⟨rfl, hb'⟩)
        go_ret
        exact ⟨by rw [← HF.out]; rfl, hb'⟩
      | false =>
        rw [hq] at hcall hF
        rw [if_neg (by decide)] at hF
        have HF := Aside0.mk hF
        clear hF hq
        go_wp2_with ((with_reducible refine hcall.mono ?_); rintro e w' ⟨rfl, hb'⟩)
        go_roundg (n - (kk + 1))
        case measure => have := hg.out; omega
        case rel => exact ⟨kk + 1, by omega, ⟨Nat.le_refl _⟩, by go_num, ⟨hb'⟩, ⟨by rw [HM.out]; exact HF.out⟩⟩
    · have hltz : ¬ (kk : Int) < (n : Int) := by omega
      have he : kk = n := by omega
      have hF := HF.out
      rw [show n - kk = 0 by omega] at hF
      have HF := Aside0.mk (show (-1 : Int) = _ from hF)
      clear he hF
      go_wp2
      go_ret
      exact ⟨by rw [← HF.out]; rfl, BW.out⟩
/-! ### impl_Raga_31: function 31 (given) -/
set_option maxHeartbeats 2000000 in
theorem impl_Raga_31.calls (g : Nat) (lb : Array Value) (eg : ∀ args w, (callFunc g args).run Try.prog w = .ok (.enter g args) w) (L : List S42) (p : Nat → Bool) (A : Option Addr) (c : Nat) (w : World) (hrL : Kd.C k42 w A L.length L) (hn : L.length ≤ 9223372036854775807)
    (hp : ∀ W j, j < L.length → Below w.heap.size w W → ∀ (A1 : Option Addr) (c1 : Nat) (A2 : Option Addr) (c2 : Nat) (A5 : Option Addr) (c5 : Nat), (rd_T42 L j).f1.length ≤ c1 → (Kd.int .i64).C W A1 (rd_T42 L j).f1.length (rd_T42 L j).f1 → (rd_T42 L j).f2.length ≤ c2 → (Kd.int .i64).C W A2 (rd_T42 L j).f2.length (rd_T42 L j).f2 → (rd_T42 L j).f5.length ≤ c5 → (Kd.slice 2 (Kd.int .i64)).C W A5 (rd_T42 L j).f5.length (rd_T42 L j).f5 →
      Calls Try.prog g (#[.agg #[.string (rd_T42 L j).f0, .slice A1 (rd_T42 L j).f1.length c1, .slice A2 (rd_T42 L j).f2.length c2, .int .i64 (rd_T42 L j).f3, .int .i64 (rd_T42 L j).f4, .slice A5 (rd_T42 L j).f5.length c5]] ++ lb) W fun e w' => e = .returned (.bool (p j)) ∧ Below w.heap.size w w') :
    Calls Try.prog 31 #[.slice A L.length c, .func (.func g) #[] lb] w fun e w' => e = .returned (.bool ((List.range L.length).any p)) ∧ Below w.heap.size w w' := by
  have hc := impl_Raga_46.calls g lb eg L p A c w hrL hn hp
  rw [← fstIdx_any]
  clear eg hrL hp
  go_enter Try.func31, Try.ntmps31
  go_wp2_with ((with_reducible refine hc.mono ?_); rintro e w' ⟨rfl, hb'⟩)
  go_ret
  exact ⟨rfl, hb'⟩
/-! ### impl_onlyNameBytes: function 63 -/
def impl_onlyNameBytes.l0 : Nat → ByteArray → Int → Int → Option (Bool)
 | 0, _, _, _ => none
 | k + 1, x0, x6, x7 => if x7 < x6 then (if 0 ≤ x7 then (if x7 < (x0.size : Int) then (if (bt x0 x7) < 97 then (if (bt x0 x7) < 48 then (some false) else (if (bt x0 x7) > 57 then (some false) else (impl_onlyNameBytes.l0 k x0 x6 (wrap64 (x7 + 1))))) else (if (bt x0 x7) > 122 then (if (bt x0 x7) < 48 then (some false) else (if (bt x0 x7) > 57 then (some false) else (impl_onlyNameBytes.l0 k x0 x6 (wrap64 (x7 + 1))))) else (impl_onlyNameBytes.l0 k x0 x6 (wrap64 (x7 + 1))))) else (none)) else (none)) else (some true)
def impl_onlyNameBytes.f (k : Nat) (a0 : ByteArray) : Option (Bool) := impl_onlyNameBytes.l0 k a0 (a0.size : Int) 0
set_option maxHeartbeats 8000000 in
set_option maxRecDepth 100000 in
theorem impl_onlyNameBytes.calls (k : Nat) (a0 : ByteArray) (r : Bool) (w : World) (h : impl_onlyNameBytes.f k a0 = some r) :
  Calls Try.prog 63 #[.string a0] w fun e w' => e = .returned (.bool r) ∧ Drawn0 w w' := by
 have H : (impl_onlyNameBytes.l0 k a0 (a0.size : Int) 0) = some r := h
 clear h
 have H' := Aside0.mk H
 clear H
 go_enter Try.func63, Try.ntmps63
 go_wp2
 go_loopg [7] k (fun kq v7 w' => ∃ (x7_1 : Int), v7 = .int .i64 x7_1 ∧ Aside0 (impl_onlyNameBytes.l0 kq a0 (a0.size : Int) x7_1 = some r) ∧ Aside0 (kq ≤ k) ∧ Drawn0 w w')
 case atStart => exact ⟨(0), sv_, H', ⟨Nat.le_refl _⟩, dr_⟩
 case round =>
  clear H'
  obtain ⟨x7_1, rfl, HA, HK1, ⟨m1, rfl⟩⟩ := hrel
  cases gk with
  | zero => exact absurd HA.out (by simp [impl_onlyNameBytes.l0])
  | succ k1 =>
   have H := HA.out
   clear HA
   simp only [impl_onlyNameBytes.l0] at H
   by_cases c2 : x7_1 < (a0.size : Int)
   ·rw [if_pos c2] at H
    have c2b0 : decide (x7_1 < (a0.size : Int)) = true := decide_eq_true c2
    clear c2
    by_cases c3 : 0 ≤ x7_1
    ·rw [if_pos c3] at H
     have c3b0 : decide (0 ≤ x7_1) = true := decide_eq_true c3
     clear c3
     by_cases c4 : x7_1 < (a0.size : Int)
     ·rw [if_pos c4] at H
      have c4b0 : decide (x7_1 < (a0.size : Int)) = true := decide_eq_true c4
      clear c4
      by_cases c6 : (bt a0 x7_1) < 97
      ·rw [if_pos c6] at H
       have c6b0 : decide ((bt a0 x7_1) < 97) = true := decide_eq_true c6
       clear c6
       by_cases c7 : (bt a0 x7_1) < 48
       ·rw [if_pos c7] at H
        have c7b0 : decide ((bt a0 x7_1) < 48) = true := decide_eq_true c7
        clear c7
        obtain rfl := Option.some.inj H
        have p5 : 0 ≤ (x7_1 : Int) := da_
        have q5 : x7_1 < (a0.size : Int) := da_
        have hx5 := bt_at a0 x7_1
        replace p5 := eq_true p5
        replace q5 := eq_true q5
        go_wp2
        go_ret
        exact ⟨sv_, dr_⟩
       ·rw [if_neg c7] at H
        have c7b0 : decide ((bt a0 x7_1) < 48) = false := decide_eq_false c7
        clear c7
        by_cases c8 : (bt a0 x7_1) > 57
        ·rw [if_pos c8] at H
         have c8b0 : decide (57 < (bt a0 x7_1)) = true := decide_eq_true c8
         clear c8
         obtain rfl := Option.some.inj H
         have p5 : 0 ≤ (x7_1 : Int) := da_
         have q5 : x7_1 < (a0.size : Int) := da_
         have hx5 := bt_at a0 x7_1
         replace p5 := eq_true p5
         replace q5 := eq_true q5
         go_wp2
         go_ret
         exact ⟨sv_, dr_⟩
        ·rw [if_neg c8] at H
         have c8b0 : decide (57 < (bt a0 x7_1)) = false := decide_eq_false c8
         clear c8
         have H' := Aside0.mk H
         clear H
         have p5 : 0 ≤ (x7_1 : Int) := da_
         have q5 : x7_1 < (a0.size : Int) := da_
         have hx5 := bt_at a0 x7_1
         replace p5 := eq_true p5
         replace q5 := eq_true q5
         go_wp2
         go_roundg k1
         case measure => have := HK1.out; omega
         case rel => exact ⟨(wrap64 (x7_1 + 1)), sv_, H', ⟨by have := HK1.out; omega⟩, dr_⟩
      ·rw [if_neg c6] at H
       have c6b0 : decide ((bt a0 x7_1) < 97) = false := decide_eq_false c6
       clear c6
       by_cases c9 : (bt a0 x7_1) > 122
       ·rw [if_pos c9] at H
        have c9b0 : decide (122 < (bt a0 x7_1)) = true := decide_eq_true c9
        clear c9
        by_cases c10 : (bt a0 x7_1) < 48
        ·rw [if_pos c10] at H
         have c10b0 : decide ((bt a0 x7_1) < 48) = true := decide_eq_true c10
         clear c10
         obtain rfl := Option.some.inj H
         have p5 : 0 ≤ (x7_1 : Int) := da_
         have q5 : x7_1 < (a0.size : Int) := da_
         have hx5 := bt_at a0 x7_1
         replace p5 := eq_true p5
         replace q5 := eq_true q5
         go_wp2
         go_ret
         exact ⟨sv_, dr_⟩
        ·rw [if_neg c10] at H
         have c10b0 : decide ((bt a0 x7_1) < 48) = false := decide_eq_false c10
         clear c10
         by_cases c11 : (bt a0 x7_1) > 57
         ·rw [if_pos c11] at H
          have c11b0 : decide (57 < (bt a0 x7_1)) = true := decide_eq_true c11
          clear c11
          obtain rfl := Option.some.inj H
          have p5 : 0 ≤ (x7_1 : Int) := da_
          have q5 : x7_1 < (a0.size : Int) := da_
          have hx5 := bt_at a0 x7_1
          replace p5 := eq_true p5
          replace q5 := eq_true q5
          go_wp2
          go_ret
          exact ⟨sv_, dr_⟩
         ·rw [if_neg c11] at H
          have c11b0 : decide (57 < (bt a0 x7_1)) = false := decide_eq_false c11
          clear c11
          have H' := Aside0.mk H
          clear H
          have p5 : 0 ≤ (x7_1 : Int) := da_
          have q5 : x7_1 < (a0.size : Int) := da_
          have hx5 := bt_at a0 x7_1
          replace p5 := eq_true p5
          replace q5 := eq_true q5
          go_wp2
          go_roundg k1
          case measure => have := HK1.out; omega
          case rel => exact ⟨(wrap64 (x7_1 + 1)), sv_, H', ⟨by have := HK1.out; omega⟩, dr_⟩
       ·rw [if_neg c9] at H
        have c9b0 : decide (122 < (bt a0 x7_1)) = false := decide_eq_false c9
        clear c9
        have H' := Aside0.mk H
        clear H
        have p5 : 0 ≤ (x7_1 : Int) := da_
        have q5 : x7_1 < (a0.size : Int) := da_
        have hx5 := bt_at a0 x7_1
        replace p5 := eq_true p5
        replace q5 := eq_true q5
        go_wp2
        go_roundg k1
        case measure => have := HK1.out; omega
        case rel => exact ⟨(wrap64 (x7_1 + 1)), sv_, H', ⟨by have := HK1.out; omega⟩, dr_⟩
     ·rw [if_neg c4] at H
      exact absurd H (by simp)
    ·rw [if_neg c3] at H
     exact absurd H (by simp)
   ·rw [if_neg c2] at H
    have c2b0 : decide (x7_1 < (a0.size : Int)) = false := decide_eq_false c2
    clear c2
    obtain rfl := Option.some.inj H
    go_wp2
    go_ret
    exact ⟨sv_, dr_⟩
/-! ### impl_IsName: function 47 -/
def impl_IsName.f (k : Nat) (a0 : ByteArray) : Option (Bool) := if (a0.size : Int) < 1 then (some false) else (if (a0.size : Int) > 10 then (some false) else (if 0 < (a0.size : Int) then (if (bt a0 0) < 97 then (some false) else (if (bt a0 0) > 122 then (some false) else ((impl_onlyNameBytes.f k a0).bind fun t231 => (some t231)))) else (none)))
set_option maxHeartbeats 8000000 in
set_option maxRecDepth 100000 in
theorem impl_IsName.calls (k : Nat) (a0 : ByteArray) (r : Bool) (w : World) (h : impl_IsName.f k a0 = some r) :
  Calls Try.prog 47 #[.string a0] w fun e w' => e = .returned (.bool r) ∧ Drawn0 w w' := by
 have H : (if (a0.size : Int) < 1 then (some false) else (if (a0.size : Int) > 10 then (some false) else (if 0 < (a0.size : Int) then (if (bt a0 0) < 97 then (some false) else (if (bt a0 0) > 122 then (some false) else ((impl_onlyNameBytes.f k a0).bind fun t231 => (some t231)))) else (none)))) = some r := h
 clear h
 by_cases c2 : (a0.size : Int) < 1
 ·rw [if_pos c2] at H
  have c2b0 : decide ((a0.size : Int) < 1) = true := decide_eq_true c2
  have c2b1 : decide (a0.size < 1) = true := decide_eq_true (by omega)
  clear c2
  obtain rfl := Option.some.inj H
  go_enter Try.func47, Try.ntmps47
  go_wp2
  go_ret
  exact ⟨sv_, dr_⟩
 ·rw [if_neg c2] at H
  have c2b0 : decide ((a0.size : Int) < 1) = false := decide_eq_false c2
  have c2b1 : decide (a0.size < 1) = false := decide_eq_false (by omega)
  clear c2
  by_cases c3 : (a0.size : Int) > 10
  ·rw [if_pos c3] at H
   have c3b0 : decide (10 < (a0.size : Int)) = true := decide_eq_true c3
   have c3b1 : decide (10 < a0.size) = true := decide_eq_true (by omega)
   clear c3
   obtain rfl := Option.some.inj H
   go_enter Try.func47, Try.ntmps47
   go_wp2
   go_ret
   exact ⟨sv_, dr_⟩
  ·rw [if_neg c3] at H
   have c3b0 : decide (10 < (a0.size : Int)) = false := decide_eq_false c3
   have c3b1 : decide (10 < a0.size) = false := decide_eq_false (by omega)
   clear c3
   by_cases c4 : 0 < (a0.size : Int)
   ·rw [if_pos c4] at H
    have c4b0 : decide (0 < (a0.size : Int)) = true := decide_eq_true c4
    have c4b1 : decide (0 < a0.size) = true := decide_eq_true (by omega)
    clear c4
    by_cases c6 : (bt a0 0) < 97
    ·rw [if_pos c6] at H
     have c6b0 : decide ((bt a0 0) < 97) = true := decide_eq_true c6
     clear c6
     obtain rfl := Option.some.inj H
     have p5 : 0 ≤ (0 : Int) := (by omega)
     have q5 : 0 < a0.size := (by have : (0 : Int) < (a0.size : Int) := da_; omega)
     have hx5 : ∀ h : 0 < a0.size, ((a0[0]'h).toNat : Int) = bt a0 0 := bt_at a0 0
     clear p5
     have qi5 : (0 < (a0.size : Int)) = True := eq_true (da_)
     replace q5 := eq_true q5
     go_enter Try.func47, Try.ntmps47
     go_wp2
     go_ret
     exact ⟨sv_, dr_⟩
    ·rw [if_neg c6] at H
     have c6b0 : decide ((bt a0 0) < 97) = false := decide_eq_false c6
     clear c6
     by_cases c8 : (bt a0 0) > 122
     ·rw [if_pos c8] at H
      have c8b0 : decide (122 < (bt a0 0)) = true := decide_eq_true c8
      clear c8
      obtain rfl := Option.some.inj H
      have p5 : 0 ≤ (0 : Int) := (by omega)
      have q5 : 0 < a0.size := (by have : (0 : Int) < (a0.size : Int) := da_; omega)
      have hx5 : ∀ h : 0 < a0.size, ((a0[0]'h).toNat : Int) = bt a0 0 := bt_at a0 0
      clear p5
      have qi5 : (0 < (a0.size : Int)) = True := eq_true (da_)
      replace q5 := eq_true q5
      have p7 : 0 ≤ (0 : Int) := (by omega)
      have q7 : 0 < a0.size := (by have : (0 : Int) < (a0.size : Int) := da_; omega)
      have hx7 : ∀ h : 0 < a0.size, ((a0[0]'h).toNat : Int) = bt a0 0 := bt_at a0 0
      clear p7
      have qi7 : (0 < (a0.size : Int)) = True := eq_true (da_)
      replace q7 := eq_true q7
      go_enter Try.func47, Try.ntmps47
      go_wp2
      go_ret
      exact ⟨sv_, dr_⟩
     ·rw [if_neg c8] at H
      have c8b0 : decide (122 < (bt a0 0)) = false := decide_eq_false c8
      clear c8
      replace H := Option.bind_eq_some_iff.mp H
      obtain ⟨t231, A90, H⟩ := H
      replace H : (some t231) = some r := H
      have A9 := Aside0.mk A90
      clear A90
      obtain rfl := Option.some.inj H
      have p5 : 0 ≤ (0 : Int) := (by omega)
      have q5 : 0 < a0.size := (by have : (0 : Int) < (a0.size : Int) := da_; omega)
      have hx5 : ∀ h : 0 < a0.size, ((a0[0]'h).toNat : Int) = bt a0 0 := bt_at a0 0
      clear p5
      have qi5 : (0 < (a0.size : Int)) = True := eq_true (da_)
      replace q5 := eq_true q5
      have p7 : 0 ≤ (0 : Int) := (by omega)
      have q7 : 0 < a0.size := (by have : (0 : Int) < (a0.size : Int) := da_; omega)
      have hx7 : ∀ h : 0 < a0.size, ((a0[0]'h).toNat : Int) = bt a0 0 := bt_at a0 0
      clear p7
      have qi7 : (0 < (a0.size : Int)) = True := eq_true (da_)
      replace q7 := eq_true q7
      go_enter Try.func47, Try.ntmps47
      go_wp2_with (first | ((with_reducible refine gate_callee (f := 63) rfl ?_); refine goesL_ (some 22) rfl rfl Try.func63 (by kernel_rfl) rfl #[.string a0] rfl av_ ?_; (with_reducible refine (impl_onlyNameBytes.calls k a0 t231 _ A9.out).mono ?_); rintro e w' ⟨rfl, ⟨nd, rfl⟩⟩; refine ⟨_, rfl, ?_⟩))
      go_ret
      exact ⟨sv_, dr_⟩
   ·rw [if_neg c4] at H
    exact absurd H (by simp)
end Go.Proofs.Ytmibjceanfhhlaa.P
end
