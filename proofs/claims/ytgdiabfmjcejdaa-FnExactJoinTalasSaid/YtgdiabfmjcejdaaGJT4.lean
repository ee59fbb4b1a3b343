/- Texts of this seat, merged: QSpecJointalas, Open, LEv, LConcat2, LCopy, LEvAnd, LName, LIName, LSum, LISum, LIn, LTalaOk, LITalaOk, LTala. -/
import Derived.Deep.Slices
import Derived.WideShapes
import Derived.ChangeShapes
import Derived.ChangeMaps5
import Derived.ChangeSame
import Derived.Test.YtgdiabfmjcejdaaGJT1
import Derived.Test.YtgdiabfmjcejdaaGJT3
section
namespace Go.Proofs.Ytgdiabfmjcejdaa.P
open Go.RowKit Go.Proofs.YtgdiabfmjcejdaaW.PrintWords Go.Proofs.YtgdiabfmjcejdaaW.PrintLast Go.Proofs.YtgdiabfmjcejdaaW.PrintMore
attribute [local go_sem] max2_int min2_int max_two min_two max_three min_three max_four min_four   -- for this text's walks alone
set_option linter.unusedVariables false
set_option linter.unusedSimpArgs false
/-! ### spec_JoinTalas: function 9 -/
theorem aS_ {p : Prop} (h : p) : Aside0 p := ⟨h⟩
def spec_JoinTalas.K0 : Array Bool := #[n_,n_,n_,n_,n_,n_,n_,n_,n_,n_,n_,n_,n_,n_,n_,n_]
def spec_JoinTalas.K1 : Array Bool := #[y_,n_,n_,n_,n_,n_,n_,n_,n_,n_,n_,n_,n_,n_,n_,n_]
def spec_JoinTalas.K2 : Array Bool := #[y_,y_,n_,n_,n_,n_,n_,n_,n_,n_,n_,n_,n_,n_,n_,n_]
def spec_JoinTalas.K3 : Array Bool := #[y_,y_,n_,n_,y_,n_,n_,n_,n_,n_,n_,n_,n_,n_,n_,n_]
def spec_JoinTalas.K4 : Array Bool := #[y_,y_,n_,n_,y_,n_,n_,y_,n_,n_,n_,n_,n_,n_,n_,n_]
def spec_JoinTalas.K5 : Array Bool := #[y_,y_,n_,n_,y_,n_,n_,y_,n_,n_,y_,n_,n_,n_,n_,n_]
def spec_JoinTalas.K6 : Array Bool := #[y_,y_,y_,n_,y_,n_,n_,y_,n_,n_,y_,n_,n_,n_,n_,n_]
def spec_JoinTalas.K7 : Array Bool := #[y_,y_,y_,n_,y_,y_,n_,y_,n_,n_,y_,n_,n_,n_,n_,n_]
def spec_JoinTalas.K8 : Array Bool := #[y_,y_,y_,n_,y_,y_,n_,y_,y_,n_,y_,n_,n_,n_,n_,n_]
def spec_JoinTalas.K9 : Array Bool := #[y_,y_,y_,n_,y_,y_,n_,y_,y_,n_,y_,y_,n_,n_,n_,n_]
def spec_JoinTalas.K10 : Array Bool := #[y_,y_,y_,y_,y_,y_,y_,y_,y_,y_,y_,y_,y_,y_,y_,n_]
def spec_JoinTalas.K11 : Array Bool := #[y_,y_,y_,y_,y_,y_,y_,y_,y_,y_,y_,y_,y_,y_,n_,n_]
def spec_JoinTalas.K12 : Array Bool := #[y_,y_,y_,y_,y_,y_,y_,y_,y_,y_,y_,y_,n_,n_,y_,n_]
def spec_JoinTalas.K13 : Array Bool := #[y_,y_,y_,y_,y_,y_,y_,y_,y_,y_,y_,y_,n_,n_,n_,n_]
def spec_JoinTalas.K14 : Array Bool := #[y_,y_,y_,y_,y_,y_,y_,y_,y_,n_,y_,y_,n_,n_,y_,n_]
def spec_JoinTalas.K15 : Array Bool := #[y_,y_,y_,y_,y_,y_,y_,y_,y_,n_,y_,y_,n_,n_,n_,n_]
def spec_JoinTalas.K16 : Array Bool := #[y_,y_,y_,y_,y_,y_,n_,y_,y_,n_,y_,y_,n_,n_,y_,n_]
def spec_JoinTalas.K17 : Array Bool := #[y_,y_,y_,y_,y_,y_,n_,y_,y_,n_,y_,y_,n_,n_,n_,n_]
def spec_JoinTalas.K18 : Array Bool := #[y_,y_,y_,n_,y_,y_,n_,y_,y_,n_,y_,y_,n_,n_,y_,n_]
def spec_JoinTalas.K19 : Array Bool := #[y_,y_,y_,y_,y_,y_,y_,y_,y_,y_,y_,y_,y_,n_,n_,n_]
def spec_JoinTalas.K20 : Array Bool := #[y_,y_,y_,y_,y_,y_,y_,y_,y_,y_,y_,y_,y_,n_,y_,n_]
def spec_JoinTalas.K21 : Array Bool := #[y_,y_,y_,y_,y_,y_,y_,y_,y_,y_,y_,y_,y_,y_,y_,y_]
mutual
def spec_JoinTalas.j0 : Nat → ByteArray → Bool → ByteArray → List Int → List Int → ByteArray → List Int → List Int → Option (ByteArray × List Int × List Int × Int)
 | 0, _, _, _, _, _, _, _, _ => none
 | k + 1, x2, x19, x126000, x126001, x126002, x127000, x127001, x127002 => if x19 = true then (some ((⟨#[]⟩ : ByteArray), ([] : List Int), ([] : List Int), 1)) else ((spec_l00Own.f x126001).bind fun t131 => (if t131.length + x127001.length < 17592186044416 then ((some (t131 ++ x127001 : List Int)).bind fun y134 => ((spec_l00Own.f x126002).bind fun t137 => (if t137.length + x127002.length < 17592186044416 then ((some (t137 ++ x127002 : List Int)).bind fun y140 => (if 0 ≤ (x126002.length : Int) then (if (x126002.length : Int) < (y140.length : Int) then ((some (y140.set ((x126002.length : Int) : Int).toNat 2 : List Int)).bind fun y144 => ((spec_l17Ok.f k x2 y134 y144).bind fun t145 => (if t145 = true then (spec_JoinTalas.j1 k x2 y134 y144) else (some ((⟨#[]⟩ : ByteArray), ([] : List Int), ([] : List Int), 5))))) else (none)) else (none))) else (none)))) else (none)))
def spec_JoinTalas.j1 : Nat → ByteArray → List Int → List Int → Option (ByteArray × List Int × List Int × Int)
 | 0, _, _, _ => none
 | k + 1, x144000, x144001, x144002 => some (x144000, x144001, x144002, 0)
end
def spec_JoinTalas.f (k : Nat) (a0_0 : ByteArray) (l0_1 : List Int) (l0_2 : List Int) (a1_0 : ByteArray) (l1_1 : List Int) (l1_2 : List Int) (a2 : ByteArray) : Option (ByteArray × List Int × List Int × Int) := (spec_l17Ok.f k a0_0 l0_1 l0_2).bind fun t128 => (if t128 = true then ((spec_l17Ok.f k a1_0 l1_1 l1_2).bind fun t129 => (if t129 = true then ((spec_l01Name.f k a2).bind fun t130 => (spec_JoinTalas.j0 k a2 (!t130) a0_0 l0_1 l0_2 a1_0 l1_1 l1_2)) else (spec_JoinTalas.j0 k a2 true a0_0 l0_1 l0_2 a1_0 l1_1 l1_2))) else (spec_JoinTalas.j0 k a2 true a0_0 l0_1 l0_2 a1_0 l1_1 l1_2))
theorem spec_JoinTalas.mono_l : ∀ k, (∀ y0 y1 y2 y3 y4 y5 y6 y7, LeO (spec_JoinTalas.j0 k y0 y1 y2 y3 y4 y5 y6 y7) (spec_JoinTalas.j0 (k + 1) y0 y1 y2 y3 y4 y5 y6 y7)) ∧ (∀ y0 y1 y2, LeO (spec_JoinTalas.j1 k y0 y1 y2) (spec_JoinTalas.j1 (k + 1) y0 y1 y2))
 | 0 => ⟨fun _ _ _ _ _ _ _ _ r h => by simp [spec_JoinTalas.j0] at h, fun _ _ _ r h => by simp [spec_JoinTalas.j1] at h⟩
 | k + 1 => by
  obtain ⟨ih0, ih1⟩ := spec_JoinTalas.mono_l k
  refine ⟨?_, ?_⟩
  ·intro y0 y1 y2 y3 y4 y5 y6 y7
   unfold spec_JoinTalas.j0
   repeat' first
   | (with_reducible exact ih0 _ _ _ _ _ _ _ _)
   | (with_reducible exact ih1 _ _ _)
   | (with_reducible exact spec_l01Name.mono _ _)
   | (with_reducible exact spec_l17Ok.mono _ _ _ _)
   | (with_reducible exact LeO.refl _)
   | (with_reducible exact LeO.none _)
   | (with_reducible refine LeO.ite ?_ ?_)
   | (with_reducible refine LeO.bind ?_ (fun _ => ?_))
   | exact ih0 _ _ _ _ _ _ _ _
   | exact ih1 _ _ _
   | exact spec_l01Name.mono _ _
   | exact spec_l17Ok.mono _ _ _ _
   | exact LeO.none _
   | refine LeO.ite ?_ ?_
   | refine LeO.bind ?_ (fun _ => ?_)
  ·intro y0 y1 y2
   unfold spec_JoinTalas.j1
   repeat' first
   | (with_reducible exact ih0 _ _ _ _ _ _ _ _)
   | (with_reducible exact ih1 _ _ _)
   | (with_reducible exact spec_l01Name.mono _ _)
   | (with_reducible exact spec_l17Ok.mono _ _ _ _)
   | (with_reducible exact LeO.refl _)
   | (with_reducible exact LeO.none _)
   | (with_reducible refine LeO.ite ?_ ?_)
   | (with_reducible refine LeO.bind ?_ (fun _ => ?_))
   | exact ih0 _ _ _ _ _ _ _ _
   | exact ih1 _ _ _
   | exact spec_l01Name.mono _ _
   | exact spec_l17Ok.mono _ _ _ _
   | exact LeO.none _
   | refine LeO.ite ?_ ?_
   | refine LeO.bind ?_ (fun _ => ?_)
theorem spec_JoinTalas.mono : ∀ a0 a1 a2 a3 a4 a5 a6 k, LeO (spec_JoinTalas.f k a0 a1 a2 a3 a4 a5 a6) (spec_JoinTalas.f (k + 1) a0 a1 a2 a3 a4 a5 a6) := by
 intro a0 a1 a2 a3 a4 a5 a6 k
 obtain ⟨ih0, ih1⟩ := spec_JoinTalas.mono_l k
 unfold spec_JoinTalas.f
 repeat' first
   | (with_reducible exact ih0 _ _ _ _ _ _ _ _)
   | (with_reducible exact ih1 _ _ _)
   | (with_reducible exact spec_l01Name.mono _ _)
   | (with_reducible exact spec_l17Ok.mono _ _ _ _)
   | (with_reducible exact LeO.refl _)
   | (with_reducible exact LeO.none _)
   | (with_reducible refine LeO.ite ?_ ?_)
   | (with_reducible refine LeO.bind ?_ (fun _ => ?_))
   | exact ih0 _ _ _ _ _ _ _ _
   | exact ih1 _ _ _
   | exact spec_l01Name.mono _ _
   | exact spec_l17Ok.mono _ _ _ _
   | exact LeO.none _
   | refine LeO.ite ?_ ?_
   | refine LeO.bind ?_ (fun _ => ?_)
def spec_JoinTalas.T3 : Bool × List (List Nat × List Nat) := (true, [([], []), ([], []), ([1], [1]), ([2], [2]), ([], []), ([4], [4]), ([3, 5, 3], [3, 5]), ([], []), ([7], [7]), ([8, 6], [8]), ([], []), ([10], [10]), ([9, 11, 9], [9, 11]), ([0, 6, 12], [0, 6, 12]), ([], []), ([14, 13, 12, 0, 1, 2, 3, 4, 5, 6, 7, 8, 9, 10, 11, 12, 13, 14], [13, 14])])
def spec_JoinTalas.B3 : List Nat := [0, 0, 2, 6, 0, 16, 62, 0, 128, 510, 0, 1024, 4094, 8191, 0, 32767]
theorem spec_JoinTalas.tab3 : rtab .any (opsOf Try.f9 3) = spec_JoinTalas.T3 := by kernel_rfl
theorem spec_JoinTalas.bits3 : waitsOk spec_JoinTalas.T3.2 spec_JoinTalas.B3 = true := by kernel_rfl
set_option maxHeartbeats 8000000 in
set_option maxRecDepth 100000 in
theorem spec_JoinTalas.calls (k : Nat) (a0_0 : ByteArray) (A0_1 : Option Addr) (c0_1 : Nat) (l0_1 : List Int) (A0_2 : Option Addr) (c0_2 : Nat) (l0_2 : List Int) (a1_0 : ByteArray) (A1_1 : Option Addr) (c1_1 : Nat) (l1_1 : List Int) (A1_2 : Option Addr) (c1_2 : Nat) (l1_2 : List Int) (a2 : ByteArray) (r1 : ByteArray) (r2 : List Int) (r3 : List Int) (r4 : Int) (w : World) (hr0_1 : Kd.C (Kd.int .i64) w A0_1 l0_1.length l0_1) (hc0_1 : l0_1.length ≤ c0_1) (hr0_2 : Kd.C (Kd.int .i64) w A0_2 l0_2.length l0_2) (hc0_2 : l0_2.length ≤ c0_2) (hr1_1 : Kd.C (Kd.int .i64) w A1_1 l1_1.length l1_1) (hc1_1 : l1_1.length ≤ c1_1) (hr1_2 : Kd.C (Kd.int .i64) w A1_2 l1_2.length l1_2) (hc1_2 : l1_2.length ≤ c1_2) (h : spec_JoinTalas.f k a0_0 l0_1 l0_2 a1_0 l1_1 l1_2 a2 = some (r1, r2, r3, r4)) :
  Calls Try.prog 9 #[.agg #[.string a0_0, .slice A0_1 l0_1.length c0_1, .slice A0_2 l0_2.length c0_2], .agg #[.string a1_0, .slice A1_1 l1_1.length c1_1, .slice A1_2 l1_2.length c1_2], .string a2] w fun e w' => ∃ v1_ v2_ : Value, e = .returned (.tuple #[.agg #[.string r1, v1_, v2_], .int .i64 r4]) ∧ Kd.R (Kd.int .i64) 2 w' w.heap.size (fun k_ => some k_ ≠ (v2_ : Value).ownBlock) v1_ r2 ∧ Kd.R (Kd.int .i64) 2 w' w.heap.size (fun k_ => some k_ ≠ (v1_ : Value).ownBlock) v2_ r3 ∧ Below w.heap.size w w' := by
 have hu26 := Try.underlying26
 have HR0_1 := aS_ hr0_1
 have HC0_1 := aS_ hc0_1
 clear hr0_1 hc0_1
 have HR0_2 := aS_ hr0_2
 have HC0_2 := aS_ hc0_2
 clear hr0_2 hc0_2
 have HR1_1 := aS_ hr1_1
 have HC1_1 := aS_ hc1_1
 clear hr1_1 hc1_1
 have HR1_2 := aS_ hr1_2
 have HC1_2 := aS_ hc1_2
 clear hr1_2 hc1_2
 have HB := aS_ (Below.refl w.heap.size w)
 have H : ((spec_l17Ok.f k a0_0 l0_1 l0_2).bind fun t128 => (if t128 = true then ((spec_l17Ok.f k a1_0 l1_1 l1_2).bind fun t129 => (if t129 = true then ((spec_l01Name.f k a2).bind fun t130 => (spec_JoinTalas.j0 k a2 (!t130) a0_0 l0_1 l0_2 a1_0 l1_1 l1_2)) else (spec_JoinTalas.j0 k a2 true a0_0 l0_1 l0_2 a1_0 l1_1 l1_2))) else (spec_JoinTalas.j0 k a2 true a0_0 l0_1 l0_2 a1_0 l1_1 l1_2))) = some (r1, r2, r3, r4) := h
 clear h
 have HC4 := aS_ H
 clear H
 go_enter Try.func9, Try.ntmps9
 go_upto_region 1 with (first | ((with_reducible refine gate_dst (N := 3) rfl ?_); refine box_event ?hg (N := 3) ?hd (cs := #[.string a0_0, .slice A0_1 l0_1.length c0_1, .slice A0_2 l0_2.length c0_2]) (t := 26) ?hr ?_; (case hd => rfl); (case hg => rfl); (case hr => first | (go_simp; done) | (go_simp; rfl)); intro gb125 hg w5 hbox hb; have n0_ := aS_ (below_step (by repeat (first | exact HB.out | apply below_alloc)) hb); have n1_ := aS_ (hbox); have n2_ := aS_ ((by rw [hg]; exact (below_size (by repeat (first | exact HB.out | apply below_alloc))) : w.heap.size ≤ gb125)); have n3_ := aS_ ((by rw [hg]; exact (below_size (by repeat (first | exact HB.out | apply below_alloc))) : w.heap.size ≤ gb125)); clear HB; have HB := n0_; have BK125 := n1_; have GW125 := n2_; have GE125 := n3_; clear n0_ n1_ n2_ n3_; clear hb hbox hg) | ((with_reducible refine gate_dst (N := 4) rfl ?_); refine box_event ?hg (N := 4) ?hd (cs := #[.string a1_0, .slice A1_1 l1_1.length c1_1, .slice A1_2 l1_2.length c1_2]) (t := 26) ?hr ?_; (case hd => rfl); (case hg => rfl); (case hr => first | (go_simp; done) | (go_simp; rfl)); intro gb126 hg w6 hbox hb; have n0_ := aS_ (blk_below (g := gb125) (o := .cells #[.string a0_0, .slice A0_1 l0_1.length c0_1, .slice A0_2 l0_2.length c0_2] 26 (0, 0)) (by repeat first | exact BK125.out | refine blk_drewN ?_ _ | refine blk_drew ?_ | refine blk_alloc ?_ _) hb); have n1_ := aS_ (below_step (by repeat (first | (with_reducible first | exact HB.out | apply below_alloc | apply pw_below_drewN | apply below_drew1 | refine below_set ?_ GE125.out) | exact HB.out)) hb); have n2_ := aS_ (hbox); have n3_ := aS_ ((by rw [hg]; exact (below_size (by repeat (first | (with_reducible first | exact HB.out | apply below_alloc | apply pw_below_drewN | apply below_drew1 | refine below_set ?_ GE125.out) | exact HB.out))) : w.heap.size ≤ gb126)); have n4_ := aS_ ((by rw [hg]; exact (below_size (by repeat (first | (with_reducible first | exact HB.out | apply below_alloc | apply pw_below_drewN | apply below_drew1 | refine below_set ?_ GE125.out) | exact HB.out))) : w.heap.size ≤ gb126)); have n5_ := aS_ ((by rw [hg]; exact Nat.ne_of_lt (blk_lt (g := gb125) (o := .cells #[.string a0_0, .slice A0_1 l0_1.length c0_1, .slice A0_2 l0_2.length c0_2] 26 (0, 0)) (by repeat first | exact BK125.out | refine blk_drewN ?_ _ | refine blk_drew ?_ | refine blk_alloc ?_ _)) : gb125 ≠ gb126)); have n6_ := aS_ ((by rw [hg]; exact Nat.ne_of_gt (blk_lt (g := gb125) (o := .cells #[.string a0_0, .slice A0_1 l0_1.length c0_1, .slice A0_2 l0_2.length c0_2] 26 (0, 0)) (by repeat first | exact BK125.out | refine blk_drewN ?_ _ | refine blk_drew ?_ | refine blk_alloc ?_ _)) : gb126 ≠ gb125)); clear BK125; clear HB; have BK125 := n0_; have HB := n1_; have BK126 := n2_; have GW126 := n3_; have GE126 := n4_; have NB125_126 := n5_; have NB126_125 := n6_; clear n0_ n1_ n2_ n3_ n4_ n5_ n6_; clear hb hbox hg) | ((with_reducible refine gate_dst (N := 6) rfl ?_); refine box_event ?hg (N := 6) ?hd (cs := #[.string (⟨#[]⟩ : ByteArray), .slice none 0 0, .slice none 0 0]) (t := 26) ?hr ?_; (case hd => rfl); (case hg => rfl); (case hr => first | (go_simp; done) | (go_simp; rfl)); intro gb127 hg w7 hbox hb; have n0_ := aS_ (blk_below (g := gb125) (o := .cells #[.string a0_0, .slice A0_1 l0_1.length c0_1, .slice A0_2 l0_2.length c0_2] 26 (0, 0)) (by repeat first | exact BK125.out | refine blk_drewN ?_ _ | refine blk_drew ?_ | refine blk_alloc ?_ _) hb); have n1_ := aS_ (blk_below (g := gb126) (o := .cells #[.string a1_0, .slice A1_1 l1_1.length c1_1, .slice A1_2 l1_2.length c1_2] 26 (0, 0)) (by repeat first | exact BK126.out | refine blk_drewN ?_ _ | refine blk_drew ?_ | refine blk_alloc ?_ _) hb); have n2_ := aS_ (below_step (by repeat (first | (with_reducible first | exact HB.out | apply below_alloc | apply pw_below_drewN | apply below_drew1 | refine below_set ?_ GE125.out | refine below_set ?_ GE126.out) | exact HB.out)) hb); have n3_ := aS_ (hbox); have n4_ := aS_ ((by rw [hg]; exact (below_size (by repeat (first | (with_reducible first | exact HB.out | apply below_alloc | apply pw_below_drewN | apply below_drew1 | refine below_set ?_ GE125.out | refine below_set ?_ GE126.out) | exact HB.out))) : w.heap.size ≤ gb127)); have n5_ := aS_ ((by rw [hg]; exact (below_size (by repeat (first | (with_reducible first | exact HB.out | apply below_alloc | apply pw_below_drewN | apply below_drew1 | refine below_set ?_ GE125.out | refine below_set ?_ GE126.out) | exact HB.out))) : w.heap.size ≤ gb127)); have n6_ := aS_ ((by rw [hg]; exact Nat.ne_of_lt (blk_lt (g := gb125) (o := .cells #[.string a0_0, .slice A0_1 l0_1.length c0_1, .slice A0_2 l0_2.length c0_2] 26 (0, 0)) (by repeat first | exact BK125.out | refine blk_drewN ?_ _ | refine blk_drew ?_ | refine blk_alloc ?_ _)) : gb125 ≠ gb127)); have n7_ := aS_ ((by rw [hg]; exact Nat.ne_of_gt (blk_lt (g := gb125) (o := .cells #[.string a0_0, .slice A0_1 l0_1.length c0_1, .slice A0_2 l0_2.length c0_2] 26 (0, 0)) (by repeat first | exact BK125.out | refine blk_drewN ?_ _ | refine blk_drew ?_ | refine blk_alloc ?_ _)) : gb127 ≠ gb125)); have n8_ := aS_ ((by rw [hg]; exact Nat.ne_of_lt (blk_lt (g := gb126) (o := .cells #[.string a1_0, .slice A1_1 l1_1.length c1_1, .slice A1_2 l1_2.length c1_2] 26 (0, 0)) (by repeat first | exact BK126.out | refine blk_drewN ?_ _ | refine blk_drew ?_ | refine blk_alloc ?_ _)) : gb126 ≠ gb127)); have n9_ := aS_ ((by rw [hg]; exact Nat.ne_of_gt (blk_lt (g := gb126) (o := .cells #[.string a1_0, .slice A1_1 l1_1.length c1_1, .slice A1_2 l1_2.length c1_2] 26 (0, 0)) (by repeat first | exact BK126.out | refine blk_drewN ?_ _ | refine blk_drew ?_ | refine blk_alloc ?_ _)) : gb127 ≠ gb126)); clear BK125; clear BK126; clear HB; have BK125 := n0_; have BK126 := n1_; have HB := n2_; have BK127 := n3_; have GW127 := n4_; have GE127 := n5_; have NB125_127 := n6_; have NB127_125 := n7_; have NB126_127 := n8_; have NB127_126 := n9_; clear n0_ n1_ n2_ n3_ n4_ n5_ n6_ n7_ n8_ n9_; clear hb hbox hg))
 (try simp only [Act.put, List.setIfInBounds_toArray, List.set_cons_zero, List.set_cons_succ])
 go_cut [19] (fun v19 wc => ∃ (kq : Nat) (x19_3 : Bool), v19 = .bool x19_3 ∧ Aside0 (spec_JoinTalas.j0 kq a2 x19_3 a0_0 l0_1 l0_2 a1_0 l1_1 l1_2 = some (r1, r2, r3, r4)) ∧ Aside0 (kq ≤ k) ∧ Aside0 (wc.heap[gb125]? = some (.cells #[.string a0_0, (.slice A0_1 l0_1.length c0_1), (.slice A0_2 l0_2.length c0_2)] 26 (0, 0))) ∧ Aside0 (wc.heap[gb126]? = some (.cells #[.string a1_0, (.slice A1_1 l1_1.length c1_1), (.slice A1_2 l1_2.length c1_2)] 26 (0, 0))) ∧ Aside0 (wc.heap[gb127]? = some (.cells #[.string (⟨#[]⟩ : ByteArray), (.slice none 0 0), (.slice none 0 0)] 26 (0, 0))) ∧ Aside0 (Below w.heap.size w wc))
 case first =>
  have H := HC4.out
  clear HC4
  replace H := Option.bind_eq_some_iff.mp H
  obtain ⟨t128, A80, H⟩ := H
  replace H : (if t128 = true then ((spec_l17Ok.f k a1_0 l1_1 l1_2).bind fun t129 => (if t129 = true then ((spec_l01Name.f k a2).bind fun t130 => (spec_JoinTalas.j0 k a2 (!t130) a0_0 l0_1 l0_2 a1_0 l1_1 l1_2)) else (spec_JoinTalas.j0 k a2 true a0_0 l0_1 l0_2 a1_0 l1_1 l1_2))) else (spec_JoinTalas.j0 k a2 true a0_0 l0_1 l0_2 a1_0 l1_1 l1_2)) = some (r1, r2, r3, r4) := H
  have A8 := aS_ A80
  clear A80
  by_cases c9 : t128 = true
  ·subst c9
   have H1 : ((spec_l17Ok.f k a1_0 l1_1 l1_2).bind fun t129 => (if t129 = true then ((spec_l01Name.f k a2).bind fun t130 => (spec_JoinTalas.j0 k a2 (!t130) a0_0 l0_1 l0_2 a1_0 l1_1 l1_2)) else (spec_JoinTalas.j0 k a2 true a0_0 l0_1 l0_2 a1_0 l1_1 l1_2))) = some (r1, r2, r3, r4) := by rw [if_pos rfl] at H; exact H
   clear H
   have H := H1; clear H1
   replace H := Option.bind_eq_some_iff.mp H
   obtain ⟨t129, A100, H⟩ := H
   replace H : (if t129 = true then ((spec_l01Name.f k a2).bind fun t130 => (spec_JoinTalas.j0 k a2 (!t130) a0_0 l0_1 l0_2 a1_0 l1_1 l1_2)) else (spec_JoinTalas.j0 k a2 true a0_0 l0_1 l0_2 a1_0 l1_1 l1_2)) = some (r1, r2, r3, r4) := H
   have A10 := aS_ A100; clear A100
   by_cases c11 : t129 = true
   ·subst c11
    have H1 : ((spec_l01Name.f k a2).bind fun t130 => (spec_JoinTalas.j0 k a2 (!t130) a0_0 l0_1 l0_2 a1_0 l1_1 l1_2)) = some (r1, r2, r3, r4) := by rw [if_pos rfl] at H; exact H
    clear H
    have H := H1; clear H1
    replace H := Option.bind_eq_some_iff.mp H
    obtain ⟨t130, A120, H⟩ := H
    replace H : (spec_JoinTalas.j0 k a2 (!t130) a0_0 l0_1 l0_2 a1_0 l1_1 l1_2) = some (r1, r2, r3, r4) := H
    have A12 := aS_ A120; clear A120
    have H' := aS_ H
    clear H
    go_wp2_with (first | ((with_reducible refine gate_callee (f := 35) rfl ?_); refine goesL_ (some 9) rfl rfl Try.func35 (by kernel_rfl) rfl #[.pointer (some ⟨gb125, 0, none⟩)] rfl (by first | rfl | (simp only [List.map_toArray, List.map_cons, List.map_nil]; done) | (simp only [List.map_toArray, List.map_cons, List.map_nil]; rfl)) ?_; (with_reducible refine (spec_l17Ok.calls k gb125 a0_0 A0_1 c0_1 l0_1 A0_2 c0_2 l0_2 true _ ?side1 ?side2 ?side3 ?side4 ?side5 A8.out).mono ?_); (case side1 => (with_reducible repeat (first | refine blk_drewN ?_ _ | refine blk_drew ?_ | refine blk_alloc ?_ _)); exact BK125.out); (case side2 => exact (Kd.C_below HR0_1.out HB.out)); (case side3 => exact HC0_1.out); (case side4 => exact (Kd.C_below HR0_2.out HB.out)); (case side5 => exact HC0_2.out); rintro e w' ⟨rfl, ⟨nd, rfl⟩⟩; refine ⟨_, rfl, ?_⟩) | (go_at_call 35; (with_reducible refine (spec_l17Ok.calls k gb126 a1_0 A1_1 c1_1 l1_1 A1_2 c1_2 l1_2 true _ ?side1 ?side2 ?side3 ?side4 ?side5 A10.out).mono ?_); (case side1 => (with_reducible repeat (first | refine blk_drewN ?_ _ | refine blk_drew ?_ | refine blk_alloc ?_ _)); exact BK126.out); (case side2 => repeat (first | exact (Kd.C_below HR1_1.out (by repeat (first | (with_reducible first | exact HB.out | apply below_alloc | apply pw_below_drewN | apply below_drew1 | refine below_set ?_ GE125.out | refine below_set ?_ GE126.out | refine below_set ?_ GE127.out) | exact HB.out))) | (with_reducible refine Kd.C_alloc ?_ _) | (with_reducible refine Kd.C_drewN ?_ _) | (with_reducible refine Kd.C_drew ?_))); (case side3 => exact HC1_1.out); (case side4 => repeat (first | exact (Kd.C_below HR1_2.out (by repeat (first | (with_reducible first | exact HB.out | apply below_alloc | apply pw_below_drewN | apply below_drew1 | refine below_set ?_ GE125.out | refine below_set ?_ GE126.out | refine below_set ?_ GE127.out) | exact HB.out))) | (with_reducible refine Kd.C_alloc ?_ _) | (with_reducible refine Kd.C_drewN ?_ _) | (with_reducible refine Kd.C_drew ?_))); (case side5 => exact HC1_2.out); rintro e w' ⟨rfl, ⟨nd, rfl⟩⟩) | (go_at_call 36; (with_reducible refine (spec_l01Name.calls k a2 t130 _ A12.out).mono ?_); rintro e w' ⟨rfl, ⟨nd, rfl⟩⟩))
    go_meet
    case rel => exact ⟨_, (!t130), (by first | rfl | (simp; done) | (simp [*]; done)), H', ⟨by first | omega | exact Nat.le_refl _⟩, ⟨by (with_reducible repeat (first | refine blk_drewN ?_ _ | refine blk_drew ?_ | refine blk_alloc ?_ _)); exact BK125.out⟩, ⟨by (with_reducible repeat (first | refine blk_drewN ?_ _ | refine blk_drew ?_ | refine blk_alloc ?_ _)); exact BK126.out⟩, ⟨by (with_reducible repeat (first | refine blk_drewN ?_ _ | refine blk_drew ?_ | refine blk_alloc ?_ _)); exact BK127.out⟩, ⟨by repeat (first | (with_reducible first | exact HB.out | apply below_alloc | apply pw_below_drewN | apply below_drew1 | refine below_set ?_ GE125.out | refine below_set ?_ GE126.out | refine below_set ?_ GE127.out) | exact HB.out)⟩⟩
   ·replace c11 := Bool.eq_false_iff.mpr c11
    subst c11
    have H1 : (spec_JoinTalas.j0 k a2 true a0_0 l0_1 l0_2 a1_0 l1_1 l1_2) = some (r1, r2, r3, r4) := by rw [if_neg (show ¬ (false = true) by decide)] at H; exact H
    clear H
    have H := H1; clear H1
    have H' := aS_ H
    clear H
    go_wp2_with (first | ((with_reducible refine gate_callee (f := 35) rfl ?_); refine goesL_ (some 9) rfl rfl Try.func35 (by kernel_rfl) rfl #[.pointer (some ⟨gb125, 0, none⟩)] rfl (by first | rfl | (simp only [List.map_toArray, List.map_cons, List.map_nil]; done) | (simp only [List.map_toArray, List.map_cons, List.map_nil]; rfl)) ?_; (with_reducible refine (spec_l17Ok.calls k gb125 a0_0 A0_1 c0_1 l0_1 A0_2 c0_2 l0_2 true _ ?side1 ?side2 ?side3 ?side4 ?side5 A8.out).mono ?_); (case side1 => (with_reducible repeat (first | refine blk_drewN ?_ _ | refine blk_drew ?_ | refine blk_alloc ?_ _)); exact BK125.out); (case side2 => exact (Kd.C_below HR0_1.out HB.out)); (case side3 => exact HC0_1.out); (case side4 => exact (Kd.C_below HR0_2.out HB.out)); (case side5 => exact HC0_2.out); rintro e w' ⟨rfl, ⟨nd, rfl⟩⟩; refine ⟨_, rfl, ?_⟩) | (go_at_call 35; (with_reducible refine (spec_l17Ok.calls k gb126 a1_0 A1_1 c1_1 l1_1 A1_2 c1_2 l1_2 false _ ?side1 ?side2 ?side3 ?side4 ?side5 A10.out).mono ?_); (case side1 => (with_reducible repeat (first | refine blk_drewN ?_ _ | refine blk_drew ?_ | refine blk_alloc ?_ _)); exact BK126.out); (case side2 => repeat (first | exact (Kd.C_below HR1_1.out (by repeat (first | (with_reducible first | exact HB.out | apply below_alloc | apply pw_below_drewN | apply below_drew1 | refine below_set ?_ GE125.out | refine below_set ?_ GE126.out | refine below_set ?_ GE127.out) | exact HB.out))) | (with_reducible refine Kd.C_alloc ?_ _) | (with_reducible refine Kd.C_drewN ?_ _) | (with_reducible refine Kd.C_drew ?_))); (case side3 => exact HC1_1.out); (case side4 => repeat (first | exact (Kd.C_below HR1_2.out (by repeat (first | (with_reducible first | exact HB.out | apply below_alloc | apply pw_below_drewN | apply below_drew1 | refine below_set ?_ GE125.out | refine below_set ?_ GE126.out | refine below_set ?_ GE127.out) | exact HB.out))) | (with_reducible refine Kd.C_alloc ?_ _) | (with_reducible refine Kd.C_drewN ?_ _) | (with_reducible refine Kd.C_drew ?_))); (case side5 => exact HC1_2.out); rintro e w' ⟨rfl, ⟨nd, rfl⟩⟩))
    go_meet
    case rel => exact ⟨_, (true), (by first | rfl | (simp; done) | (simp [*]; done)), H', ⟨by first | omega | exact Nat.le_refl _⟩, ⟨by (with_reducible repeat (first | refine blk_drewN ?_ _ | refine blk_drew ?_ | refine blk_alloc ?_ _)); exact BK125.out⟩, ⟨by (with_reducible repeat (first | refine blk_drewN ?_ _ | refine blk_drew ?_ | refine blk_alloc ?_ _)); exact BK126.out⟩, ⟨by (with_reducible repeat (first | refine blk_drewN ?_ _ | refine blk_drew ?_ | refine blk_alloc ?_ _)); exact BK127.out⟩, ⟨by repeat (first | (with_reducible first | exact HB.out | apply below_alloc | apply pw_below_drewN | apply below_drew1 | refine below_set ?_ GE125.out | refine below_set ?_ GE126.out | refine below_set ?_ GE127.out) | exact HB.out)⟩⟩
  ·replace c9 := Bool.eq_false_iff.mpr c9
   subst c9
   have H1 : (spec_JoinTalas.j0 k a2 true a0_0 l0_1 l0_2 a1_0 l1_1 l1_2) = some (r1, r2, r3, r4) := by rw [if_neg (show ¬ (false = true) by decide)] at H; exact H
   clear H
   have H := H1; clear H1
   have H' := aS_ H
   clear H
   go_wp2_with (first | ((with_reducible refine gate_callee (f := 35) rfl ?_); refine goesL_ (some 9) rfl rfl Try.func35 (by kernel_rfl) rfl #[.pointer (some ⟨gb125, 0, none⟩)] rfl (by first | rfl | (simp only [List.map_toArray, List.map_cons, List.map_nil]; done) | (simp only [List.map_toArray, List.map_cons, List.map_nil]; rfl)) ?_; (with_reducible refine (spec_l17Ok.calls k gb125 a0_0 A0_1 c0_1 l0_1 A0_2 c0_2 l0_2 false _ ?side1 ?side2 ?side3 ?side4 ?side5 A8.out).mono ?_); (case side1 => (with_reducible repeat (first | refine blk_drewN ?_ _ | refine blk_drew ?_ | refine blk_alloc ?_ _)); exact BK125.out); (case side2 => exact (Kd.C_below HR0_1.out HB.out)); (case side3 => exact HC0_1.out); (case side4 => exact (Kd.C_below HR0_2.out HB.out)); (case side5 => exact HC0_2.out); rintro e w' ⟨rfl, ⟨nd, rfl⟩⟩; refine ⟨_, rfl, ?_⟩))
   go_meet
   case rel => exact ⟨_, (true), (by first | rfl | (simp; done) | (simp [*]; done)), H', ⟨by first | omega | exact Nat.le_refl _⟩, ⟨by (with_reducible repeat (first | refine blk_drewN ?_ _ | refine blk_drew ?_ | refine blk_alloc ?_ _)); exact BK125.out⟩, ⟨by (with_reducible repeat (first | refine blk_drewN ?_ _ | refine blk_drew ?_ | refine blk_alloc ?_ _)); exact BK126.out⟩, ⟨by (with_reducible repeat (first | refine blk_drewN ?_ _ | refine blk_drew ?_ | refine blk_alloc ?_ _)); exact BK127.out⟩, ⟨by repeat (first | (with_reducible first | exact HB.out | apply below_alloc | apply pw_below_drewN | apply below_drew1 | refine below_set ?_ GE125.out | refine below_set ?_ GE126.out | refine below_set ?_ GE127.out) | exact HB.out)⟩⟩
 case rest =>
  clear HC4
  try clear c1
  try clear p2
  try clear c3
  try clear c9
  try clear c11
  obtain ⟨kq, x19_3, rfl, HA, HJ3, BK125, BK126, BK127, HB⟩ := hcut
  cases kq with
  | zero => exact absurd HA.out (by simp [spec_JoinTalas.j0])
  | succ kj3 =>
   have H := HA.out; clear HA
   simp only [spec_JoinTalas.j0] at H
   by_cases c13 : x19_3 = true
   ·subst c13
    have H1 : (some ((⟨#[]⟩ : ByteArray), ([] : List Int), ([] : List Int), 1)) = some (r1, r2, r3, r4) := by rw [if_pos rfl] at H; exact H
    clear H
    have H := H1; clear H1
    simp only [Option.some.injEq, Prod.mk.injEq] at H
    obtain ⟨rfl, rfl, rfl, rfl⟩ := H
    have hnb14 := NB127_125.out; have hnc14 := NB125_127.out; have hnb15 := NB127_126.out; have hnc15 := NB126_127.out
    have hcz16_0 : wc.cell? ⟨gb127, 0, none⟩ = some (.string (⟨#[]⟩ : ByteArray)) := (blk_cell BK127.out 0).trans rfl
    have hcz16_1 : wc.cell? ⟨gb127, 1, none⟩ = some (.slice none 0 0) := (blk_cell BK127.out 1).trans rfl
    have hcz16_2 : wc.cell? ⟨gb127, 2, none⟩ = some (.slice none 0 0) := (blk_cell BK127.out 2).trans rfl
    have hfz16_0 := blk_frozen BK127.out 0
    have hfz16_1 := blk_frozen BK127.out 1
    have hfz16_2 := blk_frozen BK127.out 2
    go_wp2
    refine bodyPost_ret (results_ct rfl _ _ gb127 26 #[.string (⟨#[]⟩ : ByteArray), .slice none 0 0, .slice none 0 0] (0, 0) _ rfl (by (with_reducible repeat (first | refine blk_drewN ?_ _ | refine blk_drew ?_ | refine blk_alloc ?_ _)); refine blk_put (cs := #[.string (⟨#[]⟩ : ByteArray), .slice none 0 0, .slice none 0 0]) ?_ 2 _ rfl; (with_reducible repeat (first | refine blk_drewN ?_ _ | refine blk_drew ?_ | refine blk_alloc ?_ _)); refine blk_put (cs := #[.string (⟨#[]⟩ : ByteArray), .slice none 0 0, .slice none 0 0]) ?_ 1 _ rfl; (with_reducible repeat (first | refine blk_drewN ?_ _ | refine blk_drew ?_ | refine blk_alloc ?_ _)); refine blk_put (cs := #[.string (⟨#[]⟩ : ByteArray), .slice none 0 0, .slice none 0 0]) ?_ 0 _ rfl; (with_reducible repeat (first | refine blk_drewN ?_ _ | refine blk_drew ?_ | refine blk_alloc ?_ _)); exact BK127.out) Try.underlying26 rfl (by kernel_rfl)) rfl ?_
    exact ⟨_, _, by first | rfl | (simp [errW_none, errW_some] <;> rfl) | (simp [*, errW_none, errW_some] <;> rfl), by first | exact Kd.R_nil _ _ _ _ _ | exact Kd.N_nil _ _ _ _ _ | exact Kd.V_nil _ _ _ _ _ | exact Kd.Q_nil _ _ _ _ _ | exact Kd.S_nil _ _ _ _ _, by first | exact Kd.R_nil _ _ _ _ _ | exact Kd.N_nil _ _ _ _ _ | exact Kd.V_nil _ _ _ _ _ | exact Kd.Q_nil _ _ _ _ _ | exact Kd.S_nil _ _ _ _ _, by repeat (first | (with_reducible first | exact HB.out | apply below_alloc | apply pw_below_drewN | apply below_drew1 | refine below_set ?_ GE125.out | refine below_set ?_ GE126.out | refine below_set ?_ GE127.out) | exact HB.out)⟩
   ·replace c13 := Bool.eq_false_iff.mpr c13
    subst c13
    have H1 : ((spec_l00Own.f l0_1).bind fun t131 => (if t131.length + l1_1.length < 17592186044416 then ((some (t131 ++ l1_1 : List Int)).bind fun y134 => ((spec_l00Own.f l0_2).bind fun t137 => (if t137.length + l1_2.length < 17592186044416 then ((some (t137 ++ l1_2 : List Int)).bind fun y140 => (if 0 ≤ (l0_2.length : Int) then (if (l0_2.length : Int) < (y140.length : Int) then ((some (y140.set ((l0_2.length : Int) : Int).toNat 2 : List Int)).bind fun y144 => ((spec_l17Ok.f kj3 a2 y134 y144).bind fun t145 => (if t145 = true then (spec_JoinTalas.j1 kj3 a2 y134 y144) else (some ((⟨#[]⟩ : ByteArray), ([] : List Int), ([] : List Int), 5))))) else (none)) else (none))) else (none)))) else (none))) = some (r1, r2, r3, r4) := by rw [if_neg (show ¬ (false = true) by decide)] at H; exact H
    clear H
    have H := H1; clear H1
    replace H := Option.bind_eq_some_iff.mp H
    obtain ⟨t131, A170, H⟩ := H
    replace H : (if t131.length + l1_1.length < 17592186044416 then ((some (t131 ++ l1_1 : List Int)).bind fun y134 => ((spec_l00Own.f l0_2).bind fun t137 => (if t137.length + l1_2.length < 17592186044416 then ((some (t137 ++ l1_2 : List Int)).bind fun y140 => (if 0 ≤ (l0_2.length : Int) then (if (l0_2.length : Int) < (y140.length : Int) then ((some (y140.set ((l0_2.length : Int) : Int).toNat 2 : List Int)).bind fun y144 => ((spec_l17Ok.f kj3 a2 y134 y144).bind fun t145 => (if t145 = true then (spec_JoinTalas.j1 kj3 a2 y134 y144) else (some ((⟨#[]⟩ : ByteArray), ([] : List Int), ([] : List Int), 5))))) else (none)) else (none))) else (none)))) else (none)) = some (r1, r2, r3, r4) := H
    have A17 := aS_ A170; clear A170
    by_cases c18 : t131.length + l1_1.length < 17592186044416
    ·rw [if_pos c18] at H
     have LMc18 := aS_ c18; clear c18
     obtain ⟨y134, hy134⟩ : ∃ y_ : List Int, y_ = (t131 ++ l1_1) := ⟨_, rfl⟩
     replace H : ((spec_l00Own.f l0_2).bind fun t137 => (if t137.length + l1_2.length < 17592186044416 then ((some (t137 ++ l1_2 : List Int)).bind fun y140 => (if 0 ≤ (l0_2.length : Int) then (if (l0_2.length : Int) < (y140.length : Int) then ((some (y140.set ((l0_2.length : Int) : Int).toNat 2 : List Int)).bind fun y144 => ((spec_l17Ok.f kj3 a2 y134 y144).bind fun t145 => (if t145 = true then (spec_JoinTalas.j1 kj3 a2 y134 y144) else (some ((⟨#[]⟩ : ByteArray), ([] : List Int), ([] : List Int), 5))))) else (none)) else (none))) else (none))) = some (r1, r2, r3, r4) := by first | (rw [hy134]; with_reducible exact H) | (have H2_ := (Option.bind_some _ _).symm.trans H; rw [hy134]; with_reducible exact H2_) | (have H2_ := (Option.bind_some _ _).symm.trans H; with_reducible exact H2_) | with_reducible exact H | (rw [hy134]; exact H) | exact H
     have Ny134 := aS_ hy134; clear hy134
     replace H := Option.bind_eq_some_iff.mp H
     obtain ⟨t137, A190, H⟩ := H
     replace H : (if t137.length + l1_2.length < 17592186044416 then ((some (t137 ++ l1_2 : List Int)).bind fun y140 => (if 0 ≤ (l0_2.length : Int) then (if (l0_2.length : Int) < (y140.length : Int) then ((some (y140.set ((l0_2.length : Int) : Int).toNat 2 : List Int)).bind fun y144 => ((spec_l17Ok.f kj3 a2 y134 y144).bind fun t145 => (if t145 = true then (spec_JoinTalas.j1 kj3 a2 y134 y144) else (some ((⟨#[]⟩ : ByteArray), ([] : List Int), ([] : List Int), 5))))) else (none)) else (none))) else (none)) = some (r1, r2, r3, r4) := H
     have A19 := aS_ A190; clear A190
     by_cases c20 : t137.length + l1_2.length < 17592186044416
     ·rw [if_pos c20] at H
      have LMc20 := aS_ c20; clear c20
      obtain ⟨y140, hy140⟩ : ∃ y_ : List Int, y_ = (t137 ++ l1_2) := ⟨_, rfl⟩
      replace H : (if 0 ≤ (l0_2.length : Int) then (if (l0_2.length : Int) < (y140.length : Int) then ((some (y140.set ((l0_2.length : Int) : Int).toNat 2 : List Int)).bind fun y144 => ((spec_l17Ok.f kj3 a2 y134 y144).bind fun t145 => (if t145 = true then (spec_JoinTalas.j1 kj3 a2 y134 y144) else (some ((⟨#[]⟩ : ByteArray), ([] : List Int), ([] : List Int), 5))))) else (none)) else (none)) = some (r1, r2, r3, r4) := by first | (rw [hy140]; with_reducible exact H) | (have H2_ := (Option.bind_some _ _).symm.trans H; rw [hy140]; with_reducible exact H2_) | (have H2_ := (Option.bind_some _ _).symm.trans H; with_reducible exact H2_) | with_reducible exact H | (rw [hy140]; exact H) | exact H
      have Ny140 := aS_ hy140; clear hy140
      by_cases c21 : 0 ≤ (l0_2.length : Int)
      ·rw [if_pos c21] at H
       have c21b0 : decide (0 ≤ (l0_2.length : Int)) = true := decide_eq_true c21
       have c21b1 : decide (0 ≤ l0_2.length) = true := decide_eq_true (by omega)
       clear c21
       by_cases c22 : (l0_2.length : Int) < (y140.length : Int)
       ·rw [if_pos c22] at H
        have c22b0 : decide ((l0_2.length : Int) < (y140.length : Int)) = true := decide_eq_true c22
        have c22b1 : decide (l0_2.length < y140.length) = true := decide_eq_true (Int.ofNat_lt.mp c22)
        clear c22
        obtain ⟨y144, hy144⟩ : ∃ y_ : List Int, y_ = (y140.set ((l0_2.length : Int) : Int).toNat 2) := ⟨_, rfl⟩
        replace H : ((spec_l17Ok.f kj3 a2 y134 y144).bind fun t145 => (if t145 = true then (spec_JoinTalas.j1 kj3 a2 y134 y144) else (some ((⟨#[]⟩ : ByteArray), ([] : List Int), ([] : List Int), 5)))) = some (r1, r2, r3, r4) := by first | (rw [hy144]; with_reducible exact H) | (have H2_ := (Option.bind_some _ _).symm.trans H; rw [hy144]; with_reducible exact H2_) | (have H2_ := (Option.bind_some _ _).symm.trans H; with_reducible exact H2_) | with_reducible exact H | (rw [hy144]; exact H) | exact H
        have Ny144 := aS_ hy144; clear hy144
        replace H := Option.bind_eq_some_iff.mp H
        obtain ⟨t145, A240, H⟩ := H
        replace H : (if t145 = true then (spec_JoinTalas.j1 kj3 a2 y134 y144) else (some ((⟨#[]⟩ : ByteArray), ([] : List Int), ([] : List Int), 5))) = some (r1, r2, r3, r4) := H
        have A24 := aS_ A240; clear A240; have HC25 := aS_ H; clear H
        try go_wp2
        have n0_ := aS_ (blk_drew BK125.out)
        have n1_ := aS_ (blk_drew BK126.out)
        have n2_ := aS_ (blk_drew BK127.out)
        have n3_ := aS_ (below_drew1 HB.out); clear BK125 BK126 BK127 HB; have BK125 := n0_; have BK126 := n1_; have BK127 := n2_; have HB := n3_; clear n0_ n1_ n2_ n3_
        refine start_ (n := 16) (S := fun w' => w'.cell? ⟨gb125, 0, none⟩ = some (.string a0_0) ∧ w'.cell? ⟨gb125, 1, none⟩ = some (.slice A0_1 l0_1.length c0_1) ∧ w'.cell? ⟨gb125, 2, none⟩ = some (.slice A0_2 l0_2.length c0_2) ∧ w'.cell? ⟨gb126, 0, none⟩ = some (.string a1_0) ∧ w'.cell? ⟨gb126, 1, none⟩ = some (.slice A1_1 l1_1.length c1_1) ∧ w'.cell? ⟨gb126, 2, none⟩ = some (.slice A1_2 l1_2.length c1_2)) (ds := []) spec_JoinTalas.K0 (by kernel_rfl) rfl rfl ⟨(blk_cell BK125.out 0).trans rfl, (blk_cell BK125.out 1).trans rfl, (blk_cell BK125.out 2).trans rfl, (blk_cell BK126.out 0).trans rfl, (blk_cell BK126.out 1).trans rfl, (blk_cell BK126.out 2).trans rfl⟩ (fun hHeld => ?_); refine with_tabW spec_JoinTalas.tab3 spec_JoinTalas.bits3 (fun HT_ HW_ => ?_)
        generalize wc.drew = w26 at BK125 BK126 BK127 HB hHeld ⊢
        refine pure_ (i := 0) (N := some 21) (v := ?_) (a' := ?_) spec_JoinTalas.K1 rfl rfl (any_of HT_.out (by kernel_rfl)) (fun _ _ _ h => h) (Or.inl ⟨by rfl, ?_⟩) ?_ ?_; rotate_left; (·intro w'; go_simp; with_reducible rfl); rotate_left; (·go_simp; rfl)
        refine pure_ (i := 1) (N := some 22) (v := ?_) (a' := ?_) spec_JoinTalas.K2 rfl rfl (any_of HT_.out (by kernel_rfl)) (fun _ _ _ h => h) (Or.inl ⟨by rfl, ?_⟩) ?_ ?_; rotate_left; (·intro w'; go_simp; with_reducible rfl); rotate_left; (·go_simp; rfl)
        refine pure_ (i := 4) (N := some 25) (v := ?_) (a' := ?_) spec_JoinTalas.K3 rfl rfl (any_of HT_.out (by kernel_rfl)) (fun _ _ _ h => h) (Or.inl ⟨by rfl, ?_⟩) ?_ ?_; rotate_left; (·intro w'; go_simp; with_reducible rfl); rotate_left; (·go_simp; rfl)
        refine pure_ (i := 7) (N := some 28) (v := ?_) (a' := ?_) spec_JoinTalas.K4 rfl rfl (any_of HT_.out (by kernel_rfl)) (fun _ _ _ h => h) (Or.inl ⟨by rfl, ?_⟩) ?_ ?_; rotate_left; (·intro w'; go_simp; with_reducible rfl); rotate_left; (·go_simp; rfl)
        refine pure_ (i := 10) (N := some 31) (v := ?_) (a' := ?_) spec_JoinTalas.K5 rfl rfl (any_of HT_.out (by kernel_rfl)) (fun _ _ _ h => h) (Or.inl ⟨by rfl, ?_⟩) ?_ ?_; rotate_left; (·intro w'; go_simp; with_reducible rfl); rotate_left; (·go_simp; rfl)
        refine take_ (i := 2) (N := some 23) (v := ?_) (a' := ?_) spec_JoinTalas.K6 rfl rfl (take_ofW HT_.out HW_.out (by kernel_rfl)) (fun _ _ _ h => h) (Or.inl ⟨by rfl, ?_⟩) hHeld ?_ ?_
        rotate_left
        ·rintro w' ⟨s0, s1, s2, s3, s4, s5⟩
         go_simp
         with_reducible rfl
        rotate_left
        ·go_simp
         rfl
        refine take_ (i := 5) (N := some 26) (v := ?_) (a' := ?_) spec_JoinTalas.K7 rfl rfl (take_ofW HT_.out HW_.out (by kernel_rfl)) (fun _ _ _ h => h) (Or.inl ⟨by rfl, ?_⟩) hHeld ?_ ?_
        rotate_left
        ·rintro w' ⟨s0, s1, s2, s3, s4, s5⟩
         go_simp
         with_reducible rfl
        rotate_left
        ·go_simp
         rfl
        refine take_ (i := 8) (N := some 29) (v := ?_) (a' := ?_) spec_JoinTalas.K8 rfl rfl (take_ofW HT_.out HW_.out (by kernel_rfl)) (fun _ _ _ h => h) (Or.inl ⟨by rfl, ?_⟩) hHeld ?_ ?_
        rotate_left
        ·rintro w' ⟨s0, s1, s2, s3, s4, s5⟩
         go_simp
         with_reducible rfl
        rotate_left
        ·go_simp
         rfl
        refine take_ (i := 11) (N := some 32) (v := ?_) (a' := ?_) spec_JoinTalas.K9 rfl rfl (take_ofW HT_.out HW_.out (by kernel_rfl)) (fun _ _ _ h => h) (Or.inl ⟨by rfl, ?_⟩) hHeld ?_ ?_
        rotate_left
        ·rintro w' ⟨s0, s1, s2, s3, s4, s5⟩
         go_simp
         with_reducible rfl
        rotate_left
        ·go_simp
         rfl
        refine join_ (σ := Value × Value × Value × Value × Nat) 1 spec_JoinTalas.K10 (fun s_ => [(24, s_.1), (27, s_.2.1), (30, s_.2.2.1), (33, s_.2.2.2.1), (8, .pointer (some ⟨s_.2.2.2.2, 0, none⟩)), (34, .agg #[.string a2, s_.2.1, s_.2.2.2.1])]) (fun s_ w' => (w'.cell? ⟨gb125, 0, none⟩ = some (.string a0_0) ∧ w'.cell? ⟨gb125, 1, none⟩ = some (.slice A0_1 l0_1.length c0_1) ∧ w'.cell? ⟨gb125, 2, none⟩ = some (.slice A0_2 l0_2.length c0_2) ∧ w'.cell? ⟨gb126, 0, none⟩ = some (.string a1_0) ∧ w'.cell? ⟨gb126, 1, none⟩ = some (.slice A1_1 l1_1.length c1_1) ∧ w'.cell? ⟨gb126, 2, none⟩ = some (.slice A1_2 l1_2.length c1_2)) ∧ (Kd.R (Kd.int .i64) 2 w' w.heap.size (fun k_ => some k_ ≠ (s_.2.2.2.1 : Value).ownBlock) s_.2.1 y134) ∧ (Kd.R (Kd.int .i64) 2 w' w.heap.size (fun k_ => some k_ ≠ (s_.2.1 : Value).ownBlock) s_.2.2.2.1 y140) ∧ (w'.heap[gb125]? = some (.cells #[.string a0_0, .slice A0_1 l0_1.length c0_1, .slice A0_2 l0_2.length c0_2] 26 (0, 0))) ∧ (w'.heap[gb126]? = some (.cells #[.string a1_0, .slice A1_1 l1_1.length c1_1, .slice A1_2 l1_2.length c1_2] 26 (0, 0))) ∧ (w'.heap[gb127]? = some (.cells #[.string (⟨#[]⟩ : ByteArray), .slice none 0 0, .slice none 0 0] 26 (0, 0))) ∧ (w'.heap[s_.2.2.2.2]? = some (.cells #[.string (⟨#[]⟩ : ByteArray), .slice none 0 0, .slice none 0 0] 26 (0, 0))) ∧ (w.heap.size ≤ s_.2.2.2.2) ∧ (w.heap.size ≤ s_.2.2.2.2) ∧ (gb125 ≠ s_.2.2.2.2) ∧ (s_.2.2.2.2 ≠ gb125) ∧ (gb126 ≠ s_.2.2.2.2) ∧ (s_.2.2.2.2 ≠ gb126) ∧ (gb127 ≠ s_.2.2.2.2) ∧ (s_.2.2.2.2 ≠ gb127) ∧ (Below w.heap.size w w')) ?_ ?_
        rotate_left
        ·intro hJ3_6_9_12_14
         refine join_ (σ := Value × Value × Value × Value) 2 spec_JoinTalas.K11 (fun s_ => [(24, s_.1), (27, s_.2.1), (30, s_.2.2.1), (33, s_.2.2.2), (34, .agg #[.string a2, s_.2.1, s_.2.2.2])]) (fun s_ w' => (w'.cell? ⟨gb125, 0, none⟩ = some (.string a0_0) ∧ w'.cell? ⟨gb125, 1, none⟩ = some (.slice A0_1 l0_1.length c0_1) ∧ w'.cell? ⟨gb125, 2, none⟩ = some (.slice A0_2 l0_2.length c0_2) ∧ w'.cell? ⟨gb126, 0, none⟩ = some (.string a1_0) ∧ w'.cell? ⟨gb126, 1, none⟩ = some (.slice A1_1 l1_1.length c1_1) ∧ w'.cell? ⟨gb126, 2, none⟩ = some (.slice A1_2 l1_2.length c1_2)) ∧ (Kd.R (Kd.int .i64) 2 w' w.heap.size (fun k_ => some k_ ≠ (s_.2.2.2 : Value).ownBlock) s_.2.1 y134) ∧ (Kd.R (Kd.int .i64) 2 w' w.heap.size (fun k_ => some k_ ≠ (s_.2.1 : Value).ownBlock) s_.2.2.2 y140) ∧ (w'.heap[gb125]? = some (.cells #[.string a0_0, .slice A0_1 l0_1.length c0_1, .slice A0_2 l0_2.length c0_2] 26 (0, 0))) ∧ (w'.heap[gb126]? = some (.cells #[.string a1_0, .slice A1_1 l1_1.length c1_1, .slice A1_2 l1_2.length c1_2] 26 (0, 0))) ∧ (w'.heap[gb127]? = some (.cells #[.string (⟨#[]⟩ : ByteArray), .slice none 0 0, .slice none 0 0] 26 (0, 0))) ∧ (Below w.heap.size w w')) ?_ ?_
         rotate_left
         ·intro hJ3_6_9_12
          refine join_ (σ := Value × Value × Value × Nat) 3 spec_JoinTalas.K12 (fun s_ => [(24, s_.1), (27, s_.2.1), (30, s_.2.2.1), (8, .pointer (some ⟨s_.2.2.2, 0, none⟩))]) (fun s_ w' => (w'.cell? ⟨gb125, 0, none⟩ = some (.string a0_0) ∧ w'.cell? ⟨gb125, 1, none⟩ = some (.slice A0_1 l0_1.length c0_1) ∧ w'.cell? ⟨gb125, 2, none⟩ = some (.slice A0_2 l0_2.length c0_2) ∧ w'.cell? ⟨gb126, 0, none⟩ = some (.string a1_0) ∧ w'.cell? ⟨gb126, 1, none⟩ = some (.slice A1_1 l1_1.length c1_1) ∧ w'.cell? ⟨gb126, 2, none⟩ = some (.slice A1_2 l1_2.length c1_2)) ∧ (Kd.R (Kd.int .i64) 2 w' w.heap.size (fun k_ => some k_ ≠ (s_.2.2.1 : Value).ownBlock) s_.2.1 y134) ∧ (Kd.R (Kd.int .i64) 2 w' w.heap.size (fun k_ => some k_ ≠ (s_.2.1 : Value).ownBlock) s_.2.2.1 t137) ∧ (w'.heap[gb125]? = some (.cells #[.string a0_0, .slice A0_1 l0_1.length c0_1, .slice A0_2 l0_2.length c0_2] 26 (0, 0))) ∧ (w'.heap[gb126]? = some (.cells #[.string a1_0, .slice A1_1 l1_1.length c1_1, .slice A1_2 l1_2.length c1_2] 26 (0, 0))) ∧ (w'.heap[gb127]? = some (.cells #[.string (⟨#[]⟩ : ByteArray), .slice none 0 0, .slice none 0 0] 26 (0, 0))) ∧ (w'.heap[s_.2.2.2]? = some (.cells #[.string (⟨#[]⟩ : ByteArray), .slice none 0 0, .slice none 0 0] 26 (0, 0))) ∧ (w.heap.size ≤ s_.2.2.2) ∧ (w.heap.size ≤ s_.2.2.2) ∧ (gb125 ≠ s_.2.2.2) ∧ (s_.2.2.2 ≠ gb125) ∧ (gb126 ≠ s_.2.2.2) ∧ (s_.2.2.2 ≠ gb126) ∧ (gb127 ≠ s_.2.2.2) ∧ (s_.2.2.2 ≠ gb127) ∧ (Below w.heap.size w w')) ?_ ?_
          rotate_left
          ·intro hJ3_6_9_14
           refine join_ (σ := Value × Value × Value) 4 spec_JoinTalas.K13 (fun s_ => [(24, s_.1), (27, s_.2.1), (30, s_.2.2)]) (fun s_ w' => (w'.cell? ⟨gb125, 0, none⟩ = some (.string a0_0) ∧ w'.cell? ⟨gb125, 1, none⟩ = some (.slice A0_1 l0_1.length c0_1) ∧ w'.cell? ⟨gb125, 2, none⟩ = some (.slice A0_2 l0_2.length c0_2) ∧ w'.cell? ⟨gb126, 0, none⟩ = some (.string a1_0) ∧ w'.cell? ⟨gb126, 1, none⟩ = some (.slice A1_1 l1_1.length c1_1) ∧ w'.cell? ⟨gb126, 2, none⟩ = some (.slice A1_2 l1_2.length c1_2)) ∧ (Kd.R (Kd.int .i64) 2 w' w.heap.size (fun k_ => some k_ ≠ (s_.2.2 : Value).ownBlock) s_.2.1 y134) ∧ (Kd.R (Kd.int .i64) 2 w' w.heap.size (fun k_ => some k_ ≠ (s_.2.1 : Value).ownBlock) s_.2.2 t137) ∧ (w'.heap[gb125]? = some (.cells #[.string a0_0, .slice A0_1 l0_1.length c0_1, .slice A0_2 l0_2.length c0_2] 26 (0, 0))) ∧ (w'.heap[gb126]? = some (.cells #[.string a1_0, .slice A1_1 l1_1.length c1_1, .slice A1_2 l1_2.length c1_2] 26 (0, 0))) ∧ (w'.heap[gb127]? = some (.cells #[.string (⟨#[]⟩ : ByteArray), .slice none 0 0, .slice none 0 0] 26 (0, 0))) ∧ (Below w.heap.size w w')) ?_ ?_
           rotate_left
           ·intro hJ3_6_9
            refine join_ (σ := Value × Value × Nat) 4 spec_JoinTalas.K14 (fun s_ => [(24, s_.1), (27, s_.2.1), (8, .pointer (some ⟨s_.2.2, 0, none⟩))]) (fun s_ w' => (w'.cell? ⟨gb125, 0, none⟩ = some (.string a0_0) ∧ w'.cell? ⟨gb125, 1, none⟩ = some (.slice A0_1 l0_1.length c0_1) ∧ w'.cell? ⟨gb125, 2, none⟩ = some (.slice A0_2 l0_2.length c0_2) ∧ w'.cell? ⟨gb126, 0, none⟩ = some (.string a1_0) ∧ w'.cell? ⟨gb126, 1, none⟩ = some (.slice A1_1 l1_1.length c1_1) ∧ w'.cell? ⟨gb126, 2, none⟩ = some (.slice A1_2 l1_2.length c1_2)) ∧ (Kd.R (Kd.int .i64) 2 w' w.heap.size (fun _ => True) s_.2.1 y134) ∧ (w'.heap[gb125]? = some (.cells #[.string a0_0, .slice A0_1 l0_1.length c0_1, .slice A0_2 l0_2.length c0_2] 26 (0, 0))) ∧ (w'.heap[gb126]? = some (.cells #[.string a1_0, .slice A1_1 l1_1.length c1_1, .slice A1_2 l1_2.length c1_2] 26 (0, 0))) ∧ (w'.heap[gb127]? = some (.cells #[.string (⟨#[]⟩ : ByteArray), .slice none 0 0, .slice none 0 0] 26 (0, 0))) ∧ (w'.heap[s_.2.2]? = some (.cells #[.string (⟨#[]⟩ : ByteArray), .slice none 0 0, .slice none 0 0] 26 (0, 0))) ∧ (w.heap.size ≤ s_.2.2) ∧ (w.heap.size ≤ s_.2.2) ∧ (gb125 ≠ s_.2.2) ∧ (s_.2.2 ≠ gb125) ∧ (gb126 ≠ s_.2.2) ∧ (s_.2.2 ≠ gb126) ∧ (gb127 ≠ s_.2.2) ∧ (s_.2.2 ≠ gb127) ∧ (Below w.heap.size w w')) ?_ ?_
            rotate_left
            ·intro hJ3_6_14
             refine join_ (σ := Value × Value) 5 spec_JoinTalas.K15 (fun s_ => [(24, s_.1), (27, s_.2)]) (fun s_ w' => (w'.cell? ⟨gb125, 0, none⟩ = some (.string a0_0) ∧ w'.cell? ⟨gb125, 1, none⟩ = some (.slice A0_1 l0_1.length c0_1) ∧ w'.cell? ⟨gb125, 2, none⟩ = some (.slice A0_2 l0_2.length c0_2) ∧ w'.cell? ⟨gb126, 0, none⟩ = some (.string a1_0) ∧ w'.cell? ⟨gb126, 1, none⟩ = some (.slice A1_1 l1_1.length c1_1) ∧ w'.cell? ⟨gb126, 2, none⟩ = some (.slice A1_2 l1_2.length c1_2)) ∧ (Kd.R (Kd.int .i64) 2 w' w.heap.size (fun _ => True) s_.2 y134) ∧ (w'.heap[gb125]? = some (.cells #[.string a0_0, .slice A0_1 l0_1.length c0_1, .slice A0_2 l0_2.length c0_2] 26 (0, 0))) ∧ (w'.heap[gb126]? = some (.cells #[.string a1_0, .slice A1_1 l1_1.length c1_1, .slice A1_2 l1_2.length c1_2] 26 (0, 0))) ∧ (w'.heap[gb127]? = some (.cells #[.string (⟨#[]⟩ : ByteArray), .slice none 0 0, .slice none 0 0] 26 (0, 0))) ∧ (Below w.heap.size w w')) ?_ ?_
             rotate_left
             ·intro hJ3_6
              refine join_ (σ := Value × Nat) 5 spec_JoinTalas.K16 (fun s_ => [(24, s_.1), (8, .pointer (some ⟨s_.2, 0, none⟩))]) (fun s_ w' => (w'.cell? ⟨gb125, 0, none⟩ = some (.string a0_0) ∧ w'.cell? ⟨gb125, 1, none⟩ = some (.slice A0_1 l0_1.length c0_1) ∧ w'.cell? ⟨gb125, 2, none⟩ = some (.slice A0_2 l0_2.length c0_2) ∧ w'.cell? ⟨gb126, 0, none⟩ = some (.string a1_0) ∧ w'.cell? ⟨gb126, 1, none⟩ = some (.slice A1_1 l1_1.length c1_1) ∧ w'.cell? ⟨gb126, 2, none⟩ = some (.slice A1_2 l1_2.length c1_2)) ∧ (Kd.R (Kd.int .i64) 2 w' w.heap.size (fun _ => True) s_.1 t131) ∧ (w'.heap[gb125]? = some (.cells #[.string a0_0, .slice A0_1 l0_1.length c0_1, .slice A0_2 l0_2.length c0_2] 26 (0, 0))) ∧ (w'.heap[gb126]? = some (.cells #[.string a1_0, .slice A1_1 l1_1.length c1_1, .slice A1_2 l1_2.length c1_2] 26 (0, 0))) ∧ (w'.heap[gb127]? = some (.cells #[.string (⟨#[]⟩ : ByteArray), .slice none 0 0, .slice none 0 0] 26 (0, 0))) ∧ (w'.heap[s_.2]? = some (.cells #[.string (⟨#[]⟩ : ByteArray), .slice none 0 0, .slice none 0 0] 26 (0, 0))) ∧ (w.heap.size ≤ s_.2) ∧ (w.heap.size ≤ s_.2) ∧ (gb125 ≠ s_.2) ∧ (s_.2 ≠ gb125) ∧ (gb126 ≠ s_.2) ∧ (s_.2 ≠ gb126) ∧ (gb127 ≠ s_.2) ∧ (s_.2 ≠ gb127) ∧ (Below w.heap.size w w')) ?_ ?_
              rotate_left
              ·intro hJ3_14
               refine join_ (σ := Value) 6 spec_JoinTalas.K17 (fun s_ => [(24, s_)]) (fun s_ w' => (w'.cell? ⟨gb125, 0, none⟩ = some (.string a0_0) ∧ w'.cell? ⟨gb125, 1, none⟩ = some (.slice A0_1 l0_1.length c0_1) ∧ w'.cell? ⟨gb125, 2, none⟩ = some (.slice A0_2 l0_2.length c0_2) ∧ w'.cell? ⟨gb126, 0, none⟩ = some (.string a1_0) ∧ w'.cell? ⟨gb126, 1, none⟩ = some (.slice A1_1 l1_1.length c1_1) ∧ w'.cell? ⟨gb126, 2, none⟩ = some (.slice A1_2 l1_2.length c1_2)) ∧ (Kd.R (Kd.int .i64) 2 w' w.heap.size (fun _ => True) s_ t131) ∧ (w'.heap[gb125]? = some (.cells #[.string a0_0, .slice A0_1 l0_1.length c0_1, .slice A0_2 l0_2.length c0_2] 26 (0, 0))) ∧ (w'.heap[gb126]? = some (.cells #[.string a1_0, .slice A1_1 l1_1.length c1_1, .slice A1_2 l1_2.length c1_2] 26 (0, 0))) ∧ (w'.heap[gb127]? = some (.cells #[.string (⟨#[]⟩ : ByteArray), .slice none 0 0, .slice none 0 0] 26 (0, 0))) ∧ (Below w.heap.size w w')) ?_ ?_
               rotate_left
               ·intro hJ3
                refine join_ (σ := Nat) 6 spec_JoinTalas.K18 (fun s_ => [(8, .pointer (some ⟨s_, 0, none⟩))]) (fun s_ w' => (w'.cell? ⟨gb125, 0, none⟩ = some (.string a0_0) ∧ w'.cell? ⟨gb125, 1, none⟩ = some (.slice A0_1 l0_1.length c0_1) ∧ w'.cell? ⟨gb125, 2, none⟩ = some (.slice A0_2 l0_2.length c0_2) ∧ w'.cell? ⟨gb126, 0, none⟩ = some (.string a1_0) ∧ w'.cell? ⟨gb126, 1, none⟩ = some (.slice A1_1 l1_1.length c1_1) ∧ w'.cell? ⟨gb126, 2, none⟩ = some (.slice A1_2 l1_2.length c1_2)) ∧ (w'.heap[gb125]? = some (.cells #[.string a0_0, .slice A0_1 l0_1.length c0_1, .slice A0_2 l0_2.length c0_2] 26 (0, 0))) ∧ (w'.heap[gb126]? = some (.cells #[.string a1_0, .slice A1_1 l1_1.length c1_1, .slice A1_2 l1_2.length c1_2] 26 (0, 0))) ∧ (w'.heap[gb127]? = some (.cells #[.string (⟨#[]⟩ : ByteArray), .slice none 0 0, .slice none 0 0] 26 (0, 0))) ∧ (w'.heap[s_]? = some (.cells #[.string (⟨#[]⟩ : ByteArray), .slice none 0 0, .slice none 0 0] 26 (0, 0))) ∧ (w.heap.size ≤ s_) ∧ (w.heap.size ≤ s_) ∧ (gb125 ≠ s_) ∧ (s_ ≠ gb125) ∧ (gb126 ≠ s_) ∧ (s_ ≠ gb126) ∧ (gb127 ≠ s_) ∧ (s_ ≠ gb127) ∧ (Below w.heap.size w w')) ?_ ?_
                rotate_left
                ·intro hJ14
                 refine two_ (i := 3) (j := 14) (Ni := some 24) (Nj := some 8) spec_JoinTalas.K17 spec_JoinTalas.K18 rfl rfl rfl rfl (two_of HT_.out (by kernel_rfl)) (by decide) (by decide) (fun K hK => ?_) (fun K hK => ?_)
                 ·skip
                  refine goes_ Try.func37 (by kernel_rfl) rfl #[.slice A0_1 l0_1.length c0_1] (by rfl) rfl rfl (by first | rfl | (simp only [List.map_toArray, List.map_cons, List.map_nil]; done) | (simp only [List.map_toArray, List.map_cons, List.map_nil]; rfl)) ?_
                  with_reducible refine (spec_l00Own.calls _ _ l0_1 t131 _ ?side1 ?side2 A17.out).mono ?_
                  (case side1 => exact (Kd.C_below HR0_1.out HB.out))
                  (case side2 => exact HC0_1.out)
                  rintro e w27 ⟨v132, rfl, ho0, hb⟩
                  refine ⟨_, rfl, ?_⟩
                  have n0_ := aS_ (Kd.R_lower ho0 (below_size HB.out))
                  have n1_ := aS_ (blk_below BK125.out hb)
                  have n2_ := aS_ (blk_below BK126.out hb)
                  have n3_ := aS_ (blk_below BK127.out hb)
                  have n4_ := aS_ (below_step HB.out hb); clear BK125 BK126 BK127 HB; have HO133 := n0_; have BK125 := n1_; have BK126 := n2_; have BK127 := n3_; have HB := n4_; clear n0_ n1_ n2_ n3_ n4_
                  (try clear hb); (try clear hb2); (try clear hk); (try clear hi); (try clear ho0)
                  refine hK.out _ _ ⟨(blk_cell BK125.out 0).trans rfl, (blk_cell BK125.out 1).trans rfl, (blk_cell BK125.out 2).trans rfl, (blk_cell BK126.out 0).trans rfl, (blk_cell BK126.out 1).trans rfl, (blk_cell BK126.out 2).trans rfl⟩ (fun hHeld => ?_)
                  clear hK K; refine norm_ (a' := ?_) ?_ ?_; rotate_left
                  ·show Act.put _ (some 24) _ = _; go_simp; rfl
                  exact norm_ (by first | (simp only [putAll, Act.put, List.setIfInBounds_toArray, List.set_cons_zero, List.set_cons_succ]; done) | (simp only [putAll, Act.put, List.setIfInBounds_toArray, List.set_cons_zero, List.set_cons_succ]; rfl)) (hJ3 (v132) _ ⟨hHeld, HO133.out, (by repeat first | exact BK125.out | refine blk_drewN ?_ _ | refine blk_drew ?_ | refine blk_alloc ?_ _), (by repeat first | exact BK126.out | refine blk_drewN ?_ _ | refine blk_drew ?_ | refine blk_alloc ?_ _), (by repeat first | exact BK127.out | refine blk_drewN ?_ _ | refine blk_drew ?_ | refine blk_alloc ?_ _), HB.out⟩)
                 ·skip
                  refine box_step ?hg (N := 8) ?hd (cs := #[.string (⟨#[]⟩ : ByteArray), .slice none 0 0, .slice none 0 0]) (t := 26) ?hr ?_; (case hd => rfl); (case hg => rfl); (case hr => first | (go_simp; done) | (go_simp; rfl))
                  intro gb143 hg w27 hbox hb
                  have n0_ := aS_ (blk_below BK125.out hb)
                  have n1_ := aS_ (blk_below BK126.out hb)
                  have n2_ := aS_ (blk_below BK127.out hb)
                  have n3_ := aS_ (below_step HB.out hb)
                  have n4_ := aS_ (hbox)
                  have n5_ := aS_ ((by rw [hg]; exact (below_size HB.out) : w.heap.size ≤ gb143))
                  have n6_ := aS_ ((by rw [hg]; exact (below_size HB.out) : w.heap.size ≤ gb143))
                  have n7_ := aS_ ((by rw [hg]; exact Nat.ne_of_lt (blk_lt (g := gb125) (o := .cells #[.string a0_0, .slice A0_1 l0_1.length c0_1, .slice A0_2 l0_2.length c0_2] 26 (0, 0)) (by repeat first | exact BK125.out | refine blk_drewN ?_ _ | refine blk_drew ?_ | refine blk_alloc ?_ _)) : gb125 ≠ gb143))
                  have n8_ := aS_ ((by rw [hg]; exact Nat.ne_of_gt (blk_lt (g := gb125) (o := .cells #[.string a0_0, .slice A0_1 l0_1.length c0_1, .slice A0_2 l0_2.length c0_2] 26 (0, 0)) (by repeat first | exact BK125.out | refine blk_drewN ?_ _ | refine blk_drew ?_ | refine blk_alloc ?_ _)) : gb143 ≠ gb125))
                  have n9_ := aS_ ((by rw [hg]; exact Nat.ne_of_lt (blk_lt (g := gb126) (o := .cells #[.string a1_0, .slice A1_1 l1_1.length c1_1, .slice A1_2 l1_2.length c1_2] 26 (0, 0)) (by repeat first | exact BK126.out | refine blk_drewN ?_ _ | refine blk_drew ?_ | refine blk_alloc ?_ _)) : gb126 ≠ gb143))
                  have n10_ := aS_ ((by rw [hg]; exact Nat.ne_of_gt (blk_lt (g := gb126) (o := .cells #[.string a1_0, .slice A1_1 l1_1.length c1_1, .slice A1_2 l1_2.length c1_2] 26 (0, 0)) (by repeat first | exact BK126.out | refine blk_drewN ?_ _ | refine blk_drew ?_ | refine blk_alloc ?_ _)) : gb143 ≠ gb126))
                  have n11_ := aS_ ((by rw [hg]; exact Nat.ne_of_lt (blk_lt (g := gb127) (o := .cells #[.string (⟨#[]⟩ : ByteArray), .slice none 0 0, .slice none 0 0] 26 (0, 0)) (by repeat first | exact BK127.out | refine blk_drewN ?_ _ | refine blk_drew ?_ | refine blk_alloc ?_ _)) : gb127 ≠ gb143))
                  have n12_ := aS_ ((by rw [hg]; exact Nat.ne_of_gt (blk_lt (g := gb127) (o := .cells #[.string (⟨#[]⟩ : ByteArray), .slice none 0 0, .slice none 0 0] 26 (0, 0)) (by repeat first | exact BK127.out | refine blk_drewN ?_ _ | refine blk_drew ?_ | refine blk_alloc ?_ _)) : gb143 ≠ gb127))
                  clear BK125 BK126 BK127 HB; have BK125 := n0_; have BK126 := n1_; have BK127 := n2_; have HB := n3_; have BK143 := n4_; have GW143 := n5_; have GE143 := n6_; have NB125_143 := n7_; have NB143_125 := n8_; have NB126_143 := n9_; have NB143_126 := n10_; have NB127_143 := n11_; have NB143_127 := n12_; clear n0_ n1_ n2_ n3_ n4_ n5_ n6_ n7_ n8_ n9_ n10_ n11_ n12_ hb hbox hg
                  refine hK.out _ _ ⟨(blk_cell BK125.out 0).trans rfl, (blk_cell BK125.out 1).trans rfl, (blk_cell BK125.out 2).trans rfl, (blk_cell BK126.out 0).trans rfl, (blk_cell BK126.out 1).trans rfl, (blk_cell BK126.out 2).trans rfl⟩ (fun hHeld => ?_)
                  clear hK K; refine norm_ (a' := ?_) ?_ ?_; rotate_left
                  ·show Act.put _ (some 8) _ = _; go_simp; rfl
                  exact norm_ (by first | (simp only [putAll, Act.put, List.setIfInBounds_toArray, List.set_cons_zero, List.set_cons_succ]; done) | (simp only [putAll, Act.put, List.setIfInBounds_toArray, List.set_cons_zero, List.set_cons_succ]; rfl)) (hJ14 (gb143) _ ⟨hHeld, (by repeat first | exact BK125.out | refine blk_drewN ?_ _ | refine blk_drew ?_ | refine blk_alloc ?_ _), (by repeat first | exact BK126.out | refine blk_drewN ?_ _ | refine blk_drew ?_ | refine blk_alloc ?_ _), (by repeat first | exact BK127.out | refine blk_drewN ?_ _ | refine blk_drew ?_ | refine blk_alloc ?_ _), (by repeat first | exact BK143.out | refine blk_drewN ?_ _ | refine blk_drew ?_ | refine blk_alloc ?_ _), GW143.out, GE143.out, NB125_143.out, NB143_125.out, NB126_143.out, NB143_126.out, NB127_143.out, NB143_127.out, HB.out⟩)
                ·skip
                 rintro gb143 w28 ⟨hS_, h0_, h1_, h2_, h3_, h4_, h5_, h6_, h7_, h8_, h9_, h10_, h11_, h12_⟩
                 (try dsimp only at h0_ h1_ h2_ h3_ h4_ h5_ h6_ h7_ h8_ h9_ h10_ h11_ h12_)
                 have n0_ := aS_ h0_; have n1_ := aS_ h1_; have n2_ := aS_ h2_; have n3_ := aS_ h3_; have n4_ := aS_ h4_; have n5_ := aS_ h5_; have n6_ := aS_ h6_; have n7_ := aS_ h7_; have n8_ := aS_ h8_; have n9_ := aS_ h9_; have n10_ := aS_ h10_; have n11_ := aS_ h11_; have n12_ := aS_ h12_; clear BK125 BK126 BK127 HB h0_ h1_ h2_ h3_ h4_ h5_ h6_ h7_ h8_ h9_ h10_ h11_ h12_; have BK125 := n0_; have BK126 := n1_; have BK127 := n2_; have BK143 := n3_; have GW143 := n4_; have GE143 := n5_; have NB125_143 := n6_; have NB143_125 := n7_; have NB126_143 := n8_; have NB143_126 := n9_; have NB127_143 := n10_; have NB143_127 := n11_; have HB := n12_; clear n0_ n1_ n2_ n3_ n4_ n5_ n6_ n7_ n8_ n9_ n10_ n11_ n12_; have hHeld := hS_
                 refine norm_ (a' := ?_) ?_ ?_
                 rotate_left
                 ·simp only [putAll, Act.put, List.setIfInBounds_toArray, List.set_cons_zero, List.set_cons_succ]
                  rfl
                 refine one_ (i := 3) (N := some 24) spec_JoinTalas.K16 rfl rfl (one_of HT_.out (by kernel_rfl)) (by decide) (fun K hK => ?_)
                 refine goes_ Try.func37 (by kernel_rfl) rfl #[.slice A0_1 l0_1.length c0_1] (by rfl) rfl rfl (by first | rfl | (simp only [List.map_toArray, List.map_cons, List.map_nil]; done) | (simp only [List.map_toArray, List.map_cons, List.map_nil]; rfl)) ?_
                 with_reducible refine (spec_l00Own.calls _ _ l0_1 t131 _ ?side1 ?side2 A17.out).mono ?_
                 (case side1 => exact (Kd.C_below HR0_1.out HB.out))
                 (case side2 => exact HC0_1.out)
                 rintro e w29 ⟨v132, rfl, ho0, hb⟩
                 refine ⟨_, rfl, ?_⟩
                 have n0_ := aS_ (Kd.R_lower ho0 (below_size HB.out))
                 have n1_ := aS_ (blk_below BK125.out hb)
                 have n2_ := aS_ (blk_below BK126.out hb)
                 have n3_ := aS_ (blk_below BK127.out hb)
                 have n4_ := aS_ (blk_below BK143.out hb)
                 have n5_ := aS_ (below_step HB.out hb); clear BK125 BK126 BK127 BK143 HB; have HO133 := n0_; have BK125 := n1_; have BK126 := n2_; have BK127 := n3_; have BK143 := n4_; have HB := n5_; clear n0_ n1_ n2_ n3_ n4_ n5_
                 (try clear hb); (try clear hb2); (try clear hk); (try clear hi); (try clear ho0)
                 refine hK.out _ _ ⟨(blk_cell BK125.out 0).trans rfl, (blk_cell BK125.out 1).trans rfl, (blk_cell BK125.out 2).trans rfl, (blk_cell BK126.out 0).trans rfl, (blk_cell BK126.out 1).trans rfl, (blk_cell BK126.out 2).trans rfl⟩ (fun hHeld => ?_)
                 clear hK K; refine norm_ (a' := ?_) ?_ ?_; rotate_left
                 ·show Act.put _ (some 24) _ = _; go_simp; rfl
                 exact norm_ (by first | (simp only [putAll, Act.put, List.setIfInBounds_toArray, List.set_cons_zero, List.set_cons_succ]; done) | (simp only [putAll, Act.put, List.setIfInBounds_toArray, List.set_cons_zero, List.set_cons_succ]; rfl)) (hJ3_14 (v132, gb143) _ ⟨hHeld, HO133.out, (by repeat first | exact BK125.out | refine blk_drewN ?_ _ | refine blk_drew ?_ | refine blk_alloc ?_ _), (by repeat first | exact BK126.out | refine blk_drewN ?_ _ | refine blk_drew ?_ | refine blk_alloc ?_ _), (by repeat first | exact BK127.out | refine blk_drewN ?_ _ | refine blk_drew ?_ | refine blk_alloc ?_ _), (by repeat first | exact BK143.out | refine blk_drewN ?_ _ | refine blk_drew ?_ | refine blk_alloc ?_ _), GW143.out, GE143.out, NB125_143.out, NB143_125.out, NB126_143.out, NB143_126.out, NB127_143.out, NB143_127.out, HB.out⟩)
               ·skip
                rintro v132 w28 ⟨hS_, h0_, h1_, h2_, h3_, h4_⟩
                (try dsimp only at h0_ h1_ h2_ h3_ h4_)
                have n0_ := aS_ h0_; have n1_ := aS_ h1_; have n2_ := aS_ h2_; have n3_ := aS_ h3_; have n4_ := aS_ h4_; clear BK125 BK126 BK127 HB h0_ h1_ h2_ h3_ h4_; have HO133 := n0_; have BK125 := n1_; have BK126 := n2_; have BK127 := n3_; have HB := n4_; clear n0_ n1_ n2_ n3_ n4_; have hHeld := hS_
                refine norm_ (a' := ?_) ?_ ?_
                rotate_left
                ·simp only [putAll, Act.put, List.setIfInBounds_toArray, List.set_cons_zero, List.set_cons_succ]
                 rfl
                refine two_ (i := 6) (j := 14) (Ni := some 27) (Nj := some 8) spec_JoinTalas.K15 spec_JoinTalas.K16 rfl rfl rfl rfl (two_of HT_.out (by kernel_rfl)) (by decide) (by decide) (fun K hK => ?_) (fun K hK => ?_)
                ·skip
                 refine Kd.R_append_rows_step (Kd.int .i64) (w0 := w) w.heap.size (by rfl) (.tmp 24) (.tmp 26) 22 2 (.int .i64 0) 8 rfl Try.underlying22 info2 rfl (by decide) (by omega) v132 t131 l1_1 _ _ _ (fun _ => True) (fun _ => False) rfl rfl ?aO ?aR (fun _ _ h => h) (fun _ h => h.elim) ?aF ?aB ?aS ?aL ?_
                 (case aR => exact (Kd.C_below HR1_1.out HB.out))
                 (case aB => exact HB.out)
                 (case aF => exact (fun _ _ => trivial))
                 (case aO => exact HO133.out)
                 (case aS => exact (below_size HB.out))
                 (case aL => have := LMc18.out; omega)
                 intro v135 w29 ho hb hg hat
                 rw [← Ny134.out] at ho
                 have n0_ := aS_ (blk_grown (g := gb125) (o := .cells #[.string a0_0, .slice A0_1 l0_1.length c0_1, .slice A0_2 l0_2.length c0_2] 26 (0, 0)) (by repeat first | exact BK125.out | refine blk_drewN ?_ _ | refine blk_drew ?_ | refine blk_alloc ?_ _) hg (Kd.R_ne HO133.out BK125.out (by decide)))
                 have n1_ := aS_ (blk_grown (g := gb126) (o := .cells #[.string a1_0, .slice A1_1 l1_1.length c1_1, .slice A1_2 l1_2.length c1_2] 26 (0, 0)) (by repeat first | exact BK126.out | refine blk_drewN ?_ _ | refine blk_drew ?_ | refine blk_alloc ?_ _) hg (Kd.R_ne HO133.out BK126.out (by decide)))
                 have n2_ := aS_ (blk_grown (g := gb127) (o := .cells #[.string (⟨#[]⟩ : ByteArray), .slice none 0 0, .slice none 0 0] 26 (0, 0)) (by repeat first | exact BK127.out | refine blk_drewN ?_ _ | refine blk_drew ?_ | refine blk_alloc ?_ _) hg (Kd.R_ne HO133.out BK127.out (by decide)))
                 have n3_ := aS_ (hb)
                 have n4_ := aS_ (ho); clear BK125 BK126 BK127 HB HO133; have BK125 := n0_; have BK126 := n1_; have BK127 := n2_; have HB := n3_; have HO136 := n4_; clear n0_ n1_ n2_ n3_ n4_ ho hb hg hat
                 refine hK.out _ _ ⟨(blk_cell BK125.out 0).trans rfl, (blk_cell BK125.out 1).trans rfl, (blk_cell BK125.out 2).trans rfl, (blk_cell BK126.out 0).trans rfl, (blk_cell BK126.out 1).trans rfl, (blk_cell BK126.out 2).trans rfl⟩ (fun hHeld => ?_)
                 clear hK K; refine norm_ (a' := ?_) ?_ ?_; rotate_left
                 ·show Act.put _ (some 27) _ = _; go_simp; rfl
                 exact norm_ (by first | (simp only [putAll, Act.put, List.setIfInBounds_toArray, List.set_cons_zero, List.set_cons_succ]; done) | (simp only [putAll, Act.put, List.setIfInBounds_toArray, List.set_cons_zero, List.set_cons_succ]; rfl)) (hJ3_6 (v132, v135) _ ⟨hHeld, HO136.out, (by repeat first | exact BK125.out | refine blk_drewN ?_ _ | refine blk_drew ?_ | refine blk_alloc ?_ _), (by repeat first | exact BK126.out | refine blk_drewN ?_ _ | refine blk_drew ?_ | refine blk_alloc ?_ _), (by repeat first | exact BK127.out | refine blk_drewN ?_ _ | refine blk_drew ?_ | refine blk_alloc ?_ _), HB.out⟩)
                ·skip
                 refine box_step ?hg (N := 8) ?hd (cs := #[.string (⟨#[]⟩ : ByteArray), .slice none 0 0, .slice none 0 0]) (t := 26) ?hr ?_; (case hd => rfl); (case hg => rfl); (case hr => first | (go_simp; done) | (go_simp; rfl))
                 intro gb143 hg w29 hbox hb
                 have n0_ := aS_ (Kd.R_below HO133.out hb)
                 have n1_ := aS_ (blk_below BK125.out hb)
                 have n2_ := aS_ (blk_below BK126.out hb)
                 have n3_ := aS_ (blk_below BK127.out hb)
                 have n4_ := aS_ (below_step HB.out hb)
                 have n5_ := aS_ (hbox)
                 have n6_ := aS_ ((by rw [hg]; exact (below_size HB.out) : w.heap.size ≤ gb143))
                 have n7_ := aS_ ((by rw [hg]; exact (below_size HB.out) : w.heap.size ≤ gb143))
                 have n8_ := aS_ ((by rw [hg]; exact Nat.ne_of_lt (blk_lt (g := gb125) (o := .cells #[.string a0_0, .slice A0_1 l0_1.length c0_1, .slice A0_2 l0_2.length c0_2] 26 (0, 0)) (by repeat first | exact BK125.out | refine blk_drewN ?_ _ | refine blk_drew ?_ | refine blk_alloc ?_ _)) : gb125 ≠ gb143))
                 have n9_ := aS_ ((by rw [hg]; exact Nat.ne_of_gt (blk_lt (g := gb125) (o := .cells #[.string a0_0, .slice A0_1 l0_1.length c0_1, .slice A0_2 l0_2.length c0_2] 26 (0, 0)) (by repeat first | exact BK125.out | refine blk_drewN ?_ _ | refine blk_drew ?_ | refine blk_alloc ?_ _)) : gb143 ≠ gb125))
                 have n10_ := aS_ ((by rw [hg]; exact Nat.ne_of_lt (blk_lt (g := gb126) (o := .cells #[.string a1_0, .slice A1_1 l1_1.length c1_1, .slice A1_2 l1_2.length c1_2] 26 (0, 0)) (by repeat first | exact BK126.out | refine blk_drewN ?_ _ | refine blk_drew ?_ | refine blk_alloc ?_ _)) : gb126 ≠ gb143))
                 have n11_ := aS_ ((by rw [hg]; exact Nat.ne_of_gt (blk_lt (g := gb126) (o := .cells #[.string a1_0, .slice A1_1 l1_1.length c1_1, .slice A1_2 l1_2.length c1_2] 26 (0, 0)) (by repeat first | exact BK126.out | refine blk_drewN ?_ _ | refine blk_drew ?_ | refine blk_alloc ?_ _)) : gb143 ≠ gb126))
                 have n12_ := aS_ ((by rw [hg]; exact Nat.ne_of_lt (blk_lt (g := gb127) (o := .cells #[.string (⟨#[]⟩ : ByteArray), .slice none 0 0, .slice none 0 0] 26 (0, 0)) (by repeat first | exact BK127.out | refine blk_drewN ?_ _ | refine blk_drew ?_ | refine blk_alloc ?_ _)) : gb127 ≠ gb143))
                 have n13_ := aS_ ((by rw [hg]; exact Nat.ne_of_gt (blk_lt (g := gb127) (o := .cells #[.string (⟨#[]⟩ : ByteArray), .slice none 0 0, .slice none 0 0] 26 (0, 0)) (by repeat first | exact BK127.out | refine blk_drewN ?_ _ | refine blk_drew ?_ | refine blk_alloc ?_ _)) : gb143 ≠ gb127))
                 clear HO133 BK125 BK126 BK127 HB; have HO133 := n0_; have BK125 := n1_; have BK126 := n2_; have BK127 := n3_; have HB := n4_; have BK143 := n5_; have GW143 := n6_; have GE143 := n7_; have NB125_143 := n8_; have NB143_125 := n9_; have NB126_143 := n10_; have NB143_126 := n11_; have NB127_143 := n12_; have NB143_127 := n13_; clear n0_ n1_ n2_ n3_ n4_ n5_ n6_ n7_ n8_ n9_ n10_ n11_ n12_ n13_ hb hbox hg
                 refine hK.out _ _ ⟨(blk_cell BK125.out 0).trans rfl, (blk_cell BK125.out 1).trans rfl, (blk_cell BK125.out 2).trans rfl, (blk_cell BK126.out 0).trans rfl, (blk_cell BK126.out 1).trans rfl, (blk_cell BK126.out 2).trans rfl⟩ (fun hHeld => ?_)
                 clear hK K; refine norm_ (a' := ?_) ?_ ?_; rotate_left
                 ·show Act.put _ (some 8) _ = _; go_simp; rfl
                 exact norm_ (by first | (simp only [putAll, Act.put, List.setIfInBounds_toArray, List.set_cons_zero, List.set_cons_succ]; done) | (simp only [putAll, Act.put, List.setIfInBounds_toArray, List.set_cons_zero, List.set_cons_succ]; rfl)) (hJ3_14 (v132, gb143) _ ⟨hHeld, HO133.out, (by repeat first | exact BK125.out | refine blk_drewN ?_ _ | refine blk_drew ?_ | refine blk_alloc ?_ _), (by repeat first | exact BK126.out | refine blk_drewN ?_ _ | refine blk_drew ?_ | refine blk_alloc ?_ _), (by repeat first | exact BK127.out | refine blk_drewN ?_ _ | refine blk_drew ?_ | refine blk_alloc ?_ _), (by repeat first | exact BK143.out | refine blk_drewN ?_ _ | refine blk_drew ?_ | refine blk_alloc ?_ _), GW143.out, GE143.out, NB125_143.out, NB143_125.out, NB126_143.out, NB143_126.out, NB127_143.out, NB143_127.out, HB.out⟩)
              ·skip
               rintro ⟨v132, gb143⟩ w29 ⟨hS_, h0_, h1_, h2_, h3_, h4_, h5_, h6_, h7_, h8_, h9_, h10_, h11_, h12_, h13_⟩
               (try dsimp only at h0_ h1_ h2_ h3_ h4_ h5_ h6_ h7_ h8_ h9_ h10_ h11_ h12_ h13_)
               have n0_ := aS_ h0_; have n1_ := aS_ h1_; have n2_ := aS_ h2_; have n3_ := aS_ h3_; have n4_ := aS_ h4_; have n5_ := aS_ h5_; have n6_ := aS_ h6_; have n7_ := aS_ h7_; have n8_ := aS_ h8_; have n9_ := aS_ h9_; have n10_ := aS_ h10_; have n11_ := aS_ h11_; have n12_ := aS_ h12_; have n13_ := aS_ h13_; clear BK125 BK126 BK127 HB h0_ h1_ h2_ h3_ h4_ h5_ h6_ h7_ h8_ h9_ h10_ h11_ h12_ h13_; have HO133 := n0_; have BK125 := n1_; have BK126 := n2_; have BK127 := n3_; have BK143 := n4_; have GW143 := n5_; have GE143 := n6_; have NB125_143 := n7_; have NB143_125 := n8_; have NB126_143 := n9_; have NB143_126 := n10_; have NB127_143 := n11_; have NB143_127 := n12_; have HB := n13_; clear n0_ n1_ n2_ n3_ n4_ n5_ n6_ n7_ n8_ n9_ n10_ n11_ n12_ n13_; have hHeld := hS_
               refine norm_ (a' := ?_) ?_ ?_
               rotate_left
               ·simp only [putAll, Act.put, List.setIfInBounds_toArray, List.set_cons_zero, List.set_cons_succ]
                rfl
               refine one_ (i := 6) (N := some 27) spec_JoinTalas.K14 rfl rfl (one_of HT_.out (by kernel_rfl)) (by decide) (fun K hK => ?_)
               refine Kd.R_append_rows_step (Kd.int .i64) (w0 := w) w.heap.size (by rfl) (.tmp 24) (.tmp 26) 22 2 (.int .i64 0) 8 rfl Try.underlying22 info2 rfl (by decide) (by omega) v132 t131 l1_1 _ _ _ (fun _ => True) (fun _ => False) rfl rfl ?aO ?aR (fun _ _ h => h) (fun _ h => h.elim) ?aF ?aB ?aS ?aL ?_
               (case aR => exact (Kd.C_below HR1_1.out HB.out))
               (case aB => exact HB.out)
               (case aF => exact (fun _ _ => trivial))
               (case aO => exact HO133.out)
               (case aS => exact (below_size HB.out))
               (case aL => have := LMc18.out; omega)
               intro v135 w30 ho hb hg hat
               rw [← Ny134.out] at ho
               have n0_ := aS_ (blk_grown (g := gb125) (o := .cells #[.string a0_0, .slice A0_1 l0_1.length c0_1, .slice A0_2 l0_2.length c0_2] 26 (0, 0)) (by repeat first | exact BK125.out | refine blk_drewN ?_ _ | refine blk_drew ?_ | refine blk_alloc ?_ _) hg (Kd.R_ne HO133.out BK125.out (by decide)))
               have n1_ := aS_ (blk_grown (g := gb126) (o := .cells #[.string a1_0, .slice A1_1 l1_1.length c1_1, .slice A1_2 l1_2.length c1_2] 26 (0, 0)) (by repeat first | exact BK126.out | refine blk_drewN ?_ _ | refine blk_drew ?_ | refine blk_alloc ?_ _) hg (Kd.R_ne HO133.out BK126.out (by decide)))
               have n2_ := aS_ (blk_grown (g := gb127) (o := .cells #[.string (⟨#[]⟩ : ByteArray), .slice none 0 0, .slice none 0 0] 26 (0, 0)) (by repeat first | exact BK127.out | refine blk_drewN ?_ _ | refine blk_drew ?_ | refine blk_alloc ?_ _) hg (Kd.R_ne HO133.out BK127.out (by decide)))
               have n3_ := aS_ (blk_grown (g := gb143) (o := .cells #[.string (⟨#[]⟩ : ByteArray), .slice none 0 0, .slice none 0 0] 26 (0, 0)) (by repeat first | exact BK143.out | refine blk_drewN ?_ _ | refine blk_drew ?_ | refine blk_alloc ?_ _) hg (Kd.R_ne HO133.out BK143.out (by decide)))
               have n4_ := aS_ (hb)
               have n5_ := aS_ (ho); clear BK125 BK126 BK127 BK143 HB HO133; have BK125 := n0_; have BK126 := n1_; have BK127 := n2_; have BK143 := n3_; have HB := n4_; have HO136 := n5_; clear n0_ n1_ n2_ n3_ n4_ n5_ ho hb hg hat
               refine hK.out _ _ ⟨(blk_cell BK125.out 0).trans rfl, (blk_cell BK125.out 1).trans rfl, (blk_cell BK125.out 2).trans rfl, (blk_cell BK126.out 0).trans rfl, (blk_cell BK126.out 1).trans rfl, (blk_cell BK126.out 2).trans rfl⟩ (fun hHeld => ?_)
               clear hK K; refine norm_ (a' := ?_) ?_ ?_; rotate_left
               ·show Act.put _ (some 27) _ = _; go_simp; rfl
               exact norm_ (by first | (simp only [putAll, Act.put, List.setIfInBounds_toArray, List.set_cons_zero, List.set_cons_succ]; done) | (simp only [putAll, Act.put, List.setIfInBounds_toArray, List.set_cons_zero, List.set_cons_succ]; rfl)) (hJ3_6_14 (v132, v135, gb143) _ ⟨hHeld, HO136.out, (by repeat first | exact BK125.out | refine blk_drewN ?_ _ | refine blk_drew ?_ | refine blk_alloc ?_ _), (by repeat first | exact BK126.out | refine blk_drewN ?_ _ | refine blk_drew ?_ | refine blk_alloc ?_ _), (by repeat first | exact BK127.out | refine blk_drewN ?_ _ | refine blk_drew ?_ | refine blk_alloc ?_ _), (by repeat first | exact BK143.out | refine blk_drewN ?_ _ | refine blk_drew ?_ | refine blk_alloc ?_ _), GW143.out, GE143.out, NB125_143.out, NB143_125.out, NB126_143.out, NB143_126.out, NB127_143.out, NB143_127.out, HB.out⟩)
             ·skip
              rintro ⟨v132, v135⟩ w29 ⟨hS_, h0_, h1_, h2_, h3_, h4_⟩
              (try dsimp only at h0_ h1_ h2_ h3_ h4_)
              have n0_ := aS_ h0_; have n1_ := aS_ h1_; have n2_ := aS_ h2_; have n3_ := aS_ h3_; have n4_ := aS_ h4_; clear BK125 BK126 BK127 HB h0_ h1_ h2_ h3_ h4_; have HO136 := n0_; have BK125 := n1_; have BK126 := n2_; have BK127 := n3_; have HB := n4_; clear n0_ n1_ n2_ n3_ n4_; have hHeld := hS_
              refine norm_ (a' := ?_) ?_ ?_
              rotate_left
              ·simp only [putAll, Act.put, List.setIfInBounds_toArray, List.set_cons_zero, List.set_cons_succ]
               rfl
              refine two_ (i := 9) (j := 14) (Ni := some 30) (Nj := some 8) spec_JoinTalas.K13 spec_JoinTalas.K14 rfl rfl rfl rfl (two_of HT_.out (by kernel_rfl)) (by decide) (by decide) (fun K hK => ?_) (fun K hK => ?_)
              ·skip
               refine goes_ Try.func37 (by kernel_rfl) rfl #[.slice A0_2 l0_2.length c0_2] (by rfl) rfl rfl (by first | rfl | (simp only [List.map_toArray, List.map_cons, List.map_nil]; done) | (simp only [List.map_toArray, List.map_cons, List.map_nil]; rfl)) ?_
               with_reducible refine (spec_l00Own.calls _ _ l0_2 t137 _ ?side1 ?side2 A19.out).mono ?_
               (case side1 => exact (Kd.C_below HR0_2.out HB.out))
               (case side2 => exact HC0_2.out)
               rintro e w30 ⟨v138, rfl, ho0, hb⟩
               refine ⟨_, rfl, ?_⟩
               have n0_ := aS_ (Kd.R_elder' HO136.out (Kd.R_base ho0) hb)
               have n1_ := aS_ (Kd.R_lower (Kd.R_new' ho0 (Kd.R_lt HO136.out)) (below_size HB.out))
               have n2_ := aS_ (blk_below BK125.out hb)
               have n3_ := aS_ (blk_below BK126.out hb)
               have n4_ := aS_ (blk_below BK127.out hb)
               have n5_ := aS_ (below_step HB.out hb); clear HO136 BK125 BK126 BK127 HB; have HO136 := n0_; have HO139 := n1_; have BK125 := n2_; have BK126 := n3_; have BK127 := n4_; have HB := n5_; clear n0_ n1_ n2_ n3_ n4_ n5_
               (try clear hb); (try clear hb2); (try clear hk); (try clear hi); (try clear ho0)
               refine hK.out _ _ ⟨(blk_cell BK125.out 0).trans rfl, (blk_cell BK125.out 1).trans rfl, (blk_cell BK125.out 2).trans rfl, (blk_cell BK126.out 0).trans rfl, (blk_cell BK126.out 1).trans rfl, (blk_cell BK126.out 2).trans rfl⟩ (fun hHeld => ?_)
               clear hK K; refine norm_ (a' := ?_) ?_ ?_; rotate_left
               ·show Act.put _ (some 30) _ = _; go_simp; rfl
               exact norm_ (by first | (simp only [putAll, Act.put, List.setIfInBounds_toArray, List.set_cons_zero, List.set_cons_succ]; done) | (simp only [putAll, Act.put, List.setIfInBounds_toArray, List.set_cons_zero, List.set_cons_succ]; rfl)) (hJ3_6_9 (v132, v135, v138) _ ⟨hHeld, (Kd.R_mono HO136.out (fun _ hk => hk.2)), (Kd.R_mono HO139.out (fun _ hk => hk.2)), (by repeat first | exact BK125.out | refine blk_drewN ?_ _ | refine blk_drew ?_ | refine blk_alloc ?_ _), (by repeat first | exact BK126.out | refine blk_drewN ?_ _ | refine blk_drew ?_ | refine blk_alloc ?_ _), (by repeat first | exact BK127.out | refine blk_drewN ?_ _ | refine blk_drew ?_ | refine blk_alloc ?_ _), HB.out⟩)
              ·skip
               refine box_step ?hg (N := 8) ?hd (cs := #[.string (⟨#[]⟩ : ByteArray), .slice none 0 0, .slice none 0 0]) (t := 26) ?hr ?_; (case hd => rfl); (case hg => rfl); (case hr => first | (go_simp; done) | (go_simp; rfl))
               intro gb143 hg w30 hbox hb
               have n0_ := aS_ (Kd.R_below HO136.out hb)
               have n1_ := aS_ (blk_below BK125.out hb)
               have n2_ := aS_ (blk_below BK126.out hb)
               have n3_ := aS_ (blk_below BK127.out hb)
               have n4_ := aS_ (below_step HB.out hb)
               have n5_ := aS_ (hbox)
               have n6_ := aS_ ((by rw [hg]; exact (below_size HB.out) : w.heap.size ≤ gb143))
               have n7_ := aS_ ((by rw [hg]; exact (below_size HB.out) : w.heap.size ≤ gb143))
               have n8_ := aS_ ((by rw [hg]; exact Nat.ne_of_lt (blk_lt (g := gb125) (o := .cells #[.string a0_0, .slice A0_1 l0_1.length c0_1, .slice A0_2 l0_2.length c0_2] 26 (0, 0)) (by repeat first | exact BK125.out | refine blk_drewN ?_ _ | refine blk_drew ?_ | refine blk_alloc ?_ _)) : gb125 ≠ gb143))
               have n9_ := aS_ ((by rw [hg]; exact Nat.ne_of_gt (blk_lt (g := gb125) (o := .cells #[.string a0_0, .slice A0_1 l0_1.length c0_1, .slice A0_2 l0_2.length c0_2] 26 (0, 0)) (by repeat first | exact BK125.out | refine blk_drewN ?_ _ | refine blk_drew ?_ | refine blk_alloc ?_ _)) : gb143 ≠ gb125))
               have n10_ := aS_ ((by rw [hg]; exact Nat.ne_of_lt (blk_lt (g := gb126) (o := .cells #[.string a1_0, .slice A1_1 l1_1.length c1_1, .slice A1_2 l1_2.length c1_2] 26 (0, 0)) (by repeat first | exact BK126.out | refine blk_drewN ?_ _ | refine blk_drew ?_ | refine blk_alloc ?_ _)) : gb126 ≠ gb143))
               have n11_ := aS_ ((by rw [hg]; exact Nat.ne_of_gt (blk_lt (g := gb126) (o := .cells #[.string a1_0, .slice A1_1 l1_1.length c1_1, .slice A1_2 l1_2.length c1_2] 26 (0, 0)) (by repeat first | exact BK126.out | refine blk_drewN ?_ _ | refine blk_drew ?_ | refine blk_alloc ?_ _)) : gb143 ≠ gb126))
               have n12_ := aS_ ((by rw [hg]; exact Nat.ne_of_lt (blk_lt (g := gb127) (o := .cells #[.string (⟨#[]⟩ : ByteArray), .slice none 0 0, .slice none 0 0] 26 (0, 0)) (by repeat first | exact BK127.out | refine blk_drewN ?_ _ | refine blk_drew ?_ | refine blk_alloc ?_ _)) : gb127 ≠ gb143))
               have n13_ := aS_ ((by rw [hg]; exact Nat.ne_of_gt (blk_lt (g := gb127) (o := .cells #[.string (⟨#[]⟩ : ByteArray), .slice none 0 0, .slice none 0 0] 26 (0, 0)) (by repeat first | exact BK127.out | refine blk_drewN ?_ _ | refine blk_drew ?_ | refine blk_alloc ?_ _)) : gb143 ≠ gb127))
               clear HO136 BK125 BK126 BK127 HB; have HO136 := n0_; have BK125 := n1_; have BK126 := n2_; have BK127 := n3_; have HB := n4_; have BK143 := n5_; have GW143 := n6_; have GE143 := n7_; have NB125_143 := n8_; have NB143_125 := n9_; have NB126_143 := n10_; have NB143_126 := n11_; have NB127_143 := n12_; have NB143_127 := n13_; clear n0_ n1_ n2_ n3_ n4_ n5_ n6_ n7_ n8_ n9_ n10_ n11_ n12_ n13_ hb hbox hg
               refine hK.out _ _ ⟨(blk_cell BK125.out 0).trans rfl, (blk_cell BK125.out 1).trans rfl, (blk_cell BK125.out 2).trans rfl, (blk_cell BK126.out 0).trans rfl, (blk_cell BK126.out 1).trans rfl, (blk_cell BK126.out 2).trans rfl⟩ (fun hHeld => ?_)
               clear hK K; refine norm_ (a' := ?_) ?_ ?_; rotate_left
               ·show Act.put _ (some 8) _ = _; go_simp; rfl
               exact norm_ (by first | (simp only [putAll, Act.put, List.setIfInBounds_toArray, List.set_cons_zero, List.set_cons_succ]; done) | (simp only [putAll, Act.put, List.setIfInBounds_toArray, List.set_cons_zero, List.set_cons_succ]; rfl)) (hJ3_6_14 (v132, v135, gb143) _ ⟨hHeld, HO136.out, (by repeat first | exact BK125.out | refine blk_drewN ?_ _ | refine blk_drew ?_ | refine blk_alloc ?_ _), (by repeat first | exact BK126.out | refine blk_drewN ?_ _ | refine blk_drew ?_ | refine blk_alloc ?_ _), (by repeat first | exact BK127.out | refine blk_drewN ?_ _ | refine blk_drew ?_ | refine blk_alloc ?_ _), (by repeat first | exact BK143.out | refine blk_drewN ?_ _ | refine blk_drew ?_ | refine blk_alloc ?_ _), GW143.out, GE143.out, NB125_143.out, NB143_125.out, NB126_143.out, NB143_126.out, NB127_143.out, NB143_127.out, HB.out⟩)
            ·skip
             rintro ⟨v132, v135, gb143⟩ w30 ⟨hS_, h0_, h1_, h2_, h3_, h4_, h5_, h6_, h7_, h8_, h9_, h10_, h11_, h12_, h13_⟩
             (try dsimp only at h0_ h1_ h2_ h3_ h4_ h5_ h6_ h7_ h8_ h9_ h10_ h11_ h12_ h13_)
             have n0_ := aS_ h0_; have n1_ := aS_ h1_; have n2_ := aS_ h2_; have n3_ := aS_ h3_; have n4_ := aS_ h4_; have n5_ := aS_ h5_; have n6_ := aS_ h6_; have n7_ := aS_ h7_; have n8_ := aS_ h8_; have n9_ := aS_ h9_; have n10_ := aS_ h10_; have n11_ := aS_ h11_; have n12_ := aS_ h12_; have n13_ := aS_ h13_; clear BK125 BK126 BK127 HB h0_ h1_ h2_ h3_ h4_ h5_ h6_ h7_ h8_ h9_ h10_ h11_ h12_ h13_; have HO136 := n0_; have BK125 := n1_; have BK126 := n2_; have BK127 := n3_; have BK143 := n4_; have GW143 := n5_; have GE143 := n6_; have NB125_143 := n7_; have NB143_125 := n8_; have NB126_143 := n9_; have NB143_126 := n10_; have NB127_143 := n11_; have NB143_127 := n12_; have HB := n13_; clear n0_ n1_ n2_ n3_ n4_ n5_ n6_ n7_ n8_ n9_ n10_ n11_ n12_ n13_; have hHeld := hS_
             refine norm_ (a' := ?_) ?_ ?_
             rotate_left
             ·simp only [putAll, Act.put, List.setIfInBounds_toArray, List.set_cons_zero, List.set_cons_succ]
              rfl
             refine one_ (i := 9) (N := some 30) spec_JoinTalas.K12 rfl rfl (one_of HT_.out (by kernel_rfl)) (by decide) (fun K hK => ?_)
             refine goes_ Try.func37 (by kernel_rfl) rfl #[.slice A0_2 l0_2.length c0_2] (by rfl) rfl rfl (by first | rfl | (simp only [List.map_toArray, List.map_cons, List.map_nil]; done) | (simp only [List.map_toArray, List.map_cons, List.map_nil]; rfl)) ?_
             with_reducible refine (spec_l00Own.calls _ _ l0_2 t137 _ ?side1 ?side2 A19.out).mono ?_
             (case side1 => exact (Kd.C_below HR0_2.out HB.out))
             (case side2 => exact HC0_2.out)
             rintro e w31 ⟨v138, rfl, ho0, hb⟩
             refine ⟨_, rfl, ?_⟩
             have n0_ := aS_ (Kd.R_elder' HO136.out (Kd.R_base ho0) hb)
             have n1_ := aS_ (Kd.R_lower (Kd.R_new' ho0 (Kd.R_lt HO136.out)) (below_size HB.out))
             have n2_ := aS_ (blk_below BK125.out hb)
             have n3_ := aS_ (blk_below BK126.out hb)
             have n4_ := aS_ (blk_below BK127.out hb)
             have n5_ := aS_ (blk_below BK143.out hb)
             have n6_ := aS_ (below_step HB.out hb); clear HO136 BK125 BK126 BK127 BK143 HB; have HO136 := n0_; have HO139 := n1_; have BK125 := n2_; have BK126 := n3_; have BK127 := n4_; have BK143 := n5_; have HB := n6_; clear n0_ n1_ n2_ n3_ n4_ n5_ n6_
             (try clear hb); (try clear hb2); (try clear hk); (try clear hi); (try clear ho0)
             refine hK.out _ _ ⟨(blk_cell BK125.out 0).trans rfl, (blk_cell BK125.out 1).trans rfl, (blk_cell BK125.out 2).trans rfl, (blk_cell BK126.out 0).trans rfl, (blk_cell BK126.out 1).trans rfl, (blk_cell BK126.out 2).trans rfl⟩ (fun hHeld => ?_)
             clear hK K; refine norm_ (a' := ?_) ?_ ?_; rotate_left
             ·show Act.put _ (some 30) _ = _; go_simp; rfl
             exact norm_ (by first | (simp only [putAll, Act.put, List.setIfInBounds_toArray, List.set_cons_zero, List.set_cons_succ]; done) | (simp only [putAll, Act.put, List.setIfInBounds_toArray, List.set_cons_zero, List.set_cons_succ]; rfl)) (hJ3_6_9_14 (v132, v135, v138, gb143) _ ⟨hHeld, (Kd.R_mono HO136.out (fun _ hk => hk.2)), (Kd.R_mono HO139.out (fun _ hk => hk.2)), (by repeat first | exact BK125.out | refine blk_drewN ?_ _ | refine blk_drew ?_ | refine blk_alloc ?_ _), (by repeat first | exact BK126.out | refine blk_drewN ?_ _ | refine blk_drew ?_ | refine blk_alloc ?_ _), (by repeat first | exact BK127.out | refine blk_drewN ?_ _ | refine blk_drew ?_ | refine blk_alloc ?_ _), (by repeat first | exact BK143.out | refine blk_drewN ?_ _ | refine blk_drew ?_ | refine blk_alloc ?_ _), GW143.out, GE143.out, NB125_143.out, NB143_125.out, NB126_143.out, NB143_126.out, NB127_143.out, NB143_127.out, HB.out⟩)
           ·skip
            rintro ⟨v132, v135, v138⟩ w30 ⟨hS_, h0_, h1_, h2_, h3_, h4_, h5_⟩
            (try dsimp only at h0_ h1_ h2_ h3_ h4_ h5_)
            have n0_ := aS_ h0_; have n1_ := aS_ h1_; have n2_ := aS_ h2_; have n3_ := aS_ h3_; have n4_ := aS_ h4_; have n5_ := aS_ h5_; clear BK125 BK126 BK127 HB h0_ h1_ h2_ h3_ h4_ h5_; have HO136 := n0_; have HO139 := n1_; have BK125 := n2_; have BK126 := n3_; have BK127 := n4_; have HB := n5_; clear n0_ n1_ n2_ n3_ n4_ n5_; have hHeld := hS_
            refine norm_ (a' := ?_) ?_ ?_
            rotate_left
            ·simp only [putAll, Act.put, List.setIfInBounds_toArray, List.set_cons_zero, List.set_cons_succ]
             rfl
            refine two_ (i := 12) (j := 14) (Ni := some 33) (Nj := some 8) spec_JoinTalas.K19 spec_JoinTalas.K12 rfl rfl rfl rfl (two_of HT_.out (by kernel_rfl)) (by decide) (by decide) (fun K hK => ?_) (fun K hK => ?_)
            ·skip
             refine Kd.R_append_rows_step (Kd.int .i64) (w0 := w) w.heap.size (by rfl) (.tmp 30) (.tmp 32) 22 2 (.int .i64 0) 8 rfl Try.underlying22 info2 rfl (by decide) (by omega) v138 t137 l1_2 _ _ _ (fun k_ => some k_ ≠ (v135 : Value).ownBlock) (fun _ => False) rfl rfl ?aO ?aR (fun _ _ h => h) (fun _ h => h.elim) ?aF ?aB ?aS ?aL ?_
             (case aR => exact (Kd.C_below HR1_2.out HB.out))
             (case aB => exact HB.out)
             (case aF => exact (fun k_ hk => Kd.fresh' (Kd.R_lt HO136.out) k_ hk))
             (case aO => exact HO139.out)
             (case aS => exact (below_size HB.out))
             (case aL => have := LMc20.out; omega)
             intro v141 w31 ho hb hg hat
             rw [← Ny140.out] at ho
             have n0_ := aS_ (blk_grown (g := gb125) (o := .cells #[.string a0_0, .slice A0_1 l0_1.length c0_1, .slice A0_2 l0_2.length c0_2] 26 (0, 0)) (by repeat first | exact BK125.out | refine blk_drewN ?_ _ | refine blk_drew ?_ | refine blk_alloc ?_ _) hg (Kd.R_ne HO139.out BK125.out (by decide)))
             have n1_ := aS_ (blk_grown (g := gb126) (o := .cells #[.string a1_0, .slice A1_1 l1_1.length c1_1, .slice A1_2 l1_2.length c1_2] 26 (0, 0)) (by repeat first | exact BK126.out | refine blk_drewN ?_ _ | refine blk_drew ?_ | refine blk_alloc ?_ _) hg (Kd.R_ne HO139.out BK126.out (by decide)))
             have n2_ := aS_ (blk_grown (g := gb127) (o := .cells #[.string (⟨#[]⟩ : ByteArray), .slice none 0 0, .slice none 0 0] 26 (0, 0)) (by repeat first | exact BK127.out | refine blk_drewN ?_ _ | refine blk_drew ?_ | refine blk_alloc ?_ _) hg (Kd.R_ne HO139.out BK127.out (by decide)))
             have n3_ := aS_ (Kd.R_after (ok := (fun _ => True)) (Kd.R_mono HO136.out (fun _ hk => ⟨trivial, hk⟩)) hg hat)
             have n4_ := aS_ (hb)
             have n5_ := aS_ (ho); clear BK125 BK126 BK127 HO136 HB HO139; have BK125 := n0_; have BK126 := n1_; have BK127 := n2_; have HO136 := n3_; have HB := n4_; have HO142 := n5_; clear n0_ n1_ n2_ n3_ n4_ n5_ ho hb hg hat
             obtain ⟨Ao32, co32, eo32⟩ := Kd.R_slice HO142.out
             (first | subst eo32 | (injection eo32 with f1_ f2_ f3_; have f4_ := f1_.symm; have f5_ := f3_.symm; clear f1_ f2_ f3_; subst f4_; subst f5_))
             obtain ⟨Ao33, co33, eo33⟩ := Kd.R_slice HO136.out
             (first | subst eo33 | (injection eo33 with f1_ f2_ f3_; have f4_ := f1_.symm; have f5_ := f3_.symm; clear f1_ f2_ f3_; subst f4_; subst f5_))
             refine hK.out _ _ ⟨(blk_cell BK125.out 0).trans rfl, (blk_cell BK125.out 1).trans rfl, (blk_cell BK125.out 2).trans rfl, (blk_cell BK126.out 0).trans rfl, (blk_cell BK126.out 1).trans rfl, (blk_cell BK126.out 2).trans rfl⟩ (fun hHeld => ?_)
             clear hK K; refine norm_ (a' := ?_) ?_ ?_; rotate_left
             ·show Act.put _ (some 33) _ = _; go_simp; rfl
             refine pure_ (i := 13) (N := some 34) (v := ?_) (a' := ?_) spec_JoinTalas.K11 rfl rfl (any_of HT_.out (by kernel_rfl)) (fun _ _ _ h => h) (Or.inl ⟨by rfl, ?_⟩) ?_ ?_; rotate_left; (·intro w'; go_simp; with_reducible rfl); rotate_left; (·go_simp; rfl)
             exact norm_ (by first | (simp only [putAll, Act.put, List.setIfInBounds_toArray, List.set_cons_zero, List.set_cons_succ]; done) | (simp only [putAll, Act.put, List.setIfInBounds_toArray, List.set_cons_zero, List.set_cons_succ]; rfl)) (hJ3_6_9_12 (v132, .slice Ao33 y134.length co33, v138, .slice Ao32 y140.length co32) _ ⟨hHeld, (Kd.R_mono HO136.out (fun _ hk => hk.2)), HO142.out, (by repeat first | exact BK125.out | refine blk_drewN ?_ _ | refine blk_drew ?_ | refine blk_alloc ?_ _), (by repeat first | exact BK126.out | refine blk_drewN ?_ _ | refine blk_drew ?_ | refine blk_alloc ?_ _), (by repeat first | exact BK127.out | refine blk_drewN ?_ _ | refine blk_drew ?_ | refine blk_alloc ?_ _), HB.out⟩)
            ·skip
             refine box_step ?hg (N := 8) ?hd (cs := #[.string (⟨#[]⟩ : ByteArray), .slice none 0 0, .slice none 0 0]) (t := 26) ?hr ?_; (case hd => rfl); (case hg => rfl); (case hr => first | (go_simp; done) | (go_simp; rfl))
             intro gb143 hg w31 hbox hb
             have n0_ := aS_ (Kd.R_below HO136.out hb)
             have n1_ := aS_ (Kd.R_below HO139.out hb)
             have n2_ := aS_ (blk_below BK125.out hb)
             have n3_ := aS_ (blk_below BK126.out hb)
             have n4_ := aS_ (blk_below BK127.out hb)
             have n5_ := aS_ (below_step HB.out hb)
             have n6_ := aS_ (hbox)
             have n7_ := aS_ ((by rw [hg]; exact (below_size HB.out) : w.heap.size ≤ gb143))
             have n8_ := aS_ ((by rw [hg]; exact (below_size HB.out) : w.heap.size ≤ gb143))
             have n9_ := aS_ ((by rw [hg]; exact Nat.ne_of_lt (blk_lt (g := gb125) (o := .cells #[.string a0_0, .slice A0_1 l0_1.length c0_1, .slice A0_2 l0_2.length c0_2] 26 (0, 0)) (by repeat first | exact BK125.out | refine blk_drewN ?_ _ | refine blk_drew ?_ | refine blk_alloc ?_ _)) : gb125 ≠ gb143))
             have n10_ := aS_ ((by rw [hg]; exact Nat.ne_of_gt (blk_lt (g := gb125) (o := .cells #[.string a0_0, .slice A0_1 l0_1.length c0_1, .slice A0_2 l0_2.length c0_2] 26 (0, 0)) (by repeat first | exact BK125.out | refine blk_drewN ?_ _ | refine blk_drew ?_ | refine blk_alloc ?_ _)) : gb143 ≠ gb125))
             have n11_ := aS_ ((by rw [hg]; exact Nat.ne_of_lt (blk_lt (g := gb126) (o := .cells #[.string a1_0, .slice A1_1 l1_1.length c1_1, .slice A1_2 l1_2.length c1_2] 26 (0, 0)) (by repeat first | exact BK126.out | refine blk_drewN ?_ _ | refine blk_drew ?_ | refine blk_alloc ?_ _)) : gb126 ≠ gb143))
             have n12_ := aS_ ((by rw [hg]; exact Nat.ne_of_gt (blk_lt (g := gb126) (o := .cells #[.string a1_0, .slice A1_1 l1_1.length c1_1, .slice A1_2 l1_2.length c1_2] 26 (0, 0)) (by repeat first | exact BK126.out | refine blk_drewN ?_ _ | refine blk_drew ?_ | refine blk_alloc ?_ _)) : gb143 ≠ gb126))
             have n13_ := aS_ ((by rw [hg]; exact Nat.ne_of_lt (blk_lt (g := gb127) (o := .cells #[.string (⟨#[]⟩ : ByteArray), .slice none 0 0, .slice none 0 0] 26 (0, 0)) (by repeat first | exact BK127.out | refine blk_drewN ?_ _ | refine blk_drew ?_ | refine blk_alloc ?_ _)) : gb127 ≠ gb143))
             have n14_ := aS_ ((by rw [hg]; exact Nat.ne_of_gt (blk_lt (g := gb127) (o := .cells #[.string (⟨#[]⟩ : ByteArray), .slice none 0 0, .slice none 0 0] 26 (0, 0)) (by repeat first | exact BK127.out | refine blk_drewN ?_ _ | refine blk_drew ?_ | refine blk_alloc ?_ _)) : gb143 ≠ gb127))
             clear HO136 HO139 BK125 BK126 BK127 HB; have HO136 := n0_; have HO139 := n1_; have BK125 := n2_; have BK126 := n3_; have BK127 := n4_; have HB := n5_; have BK143 := n6_; have GW143 := n7_; have GE143 := n8_; have NB125_143 := n9_; have NB143_125 := n10_; have NB126_143 := n11_; have NB143_126 := n12_; have NB127_143 := n13_; have NB143_127 := n14_; clear n0_ n1_ n2_ n3_ n4_ n5_ n6_ n7_ n8_ n9_ n10_ n11_ n12_ n13_ n14_ hb hbox hg
             refine hK.out _ _ ⟨(blk_cell BK125.out 0).trans rfl, (blk_cell BK125.out 1).trans rfl, (blk_cell BK125.out 2).trans rfl, (blk_cell BK126.out 0).trans rfl, (blk_cell BK126.out 1).trans rfl, (blk_cell BK126.out 2).trans rfl⟩ (fun hHeld => ?_)
             clear hK K; refine norm_ (a' := ?_) ?_ ?_; rotate_left
             ·show Act.put _ (some 8) _ = _; go_simp; rfl
             exact norm_ (by first | (simp only [putAll, Act.put, List.setIfInBounds_toArray, List.set_cons_zero, List.set_cons_succ]; done) | (simp only [putAll, Act.put, List.setIfInBounds_toArray, List.set_cons_zero, List.set_cons_succ]; rfl)) (hJ3_6_9_14 (v132, v135, v138, gb143) _ ⟨hHeld, HO136.out, HO139.out, (by repeat first | exact BK125.out | refine blk_drewN ?_ _ | refine blk_drew ?_ | refine blk_alloc ?_ _), (by repeat first | exact BK126.out | refine blk_drewN ?_ _ | refine blk_drew ?_ | refine blk_alloc ?_ _), (by repeat first | exact BK127.out | refine blk_drewN ?_ _ | refine blk_drew ?_ | refine blk_alloc ?_ _), (by repeat first | exact BK143.out | refine blk_drewN ?_ _ | refine blk_drew ?_ | refine blk_alloc ?_ _), GW143.out, GE143.out, NB125_143.out, NB143_125.out, NB126_143.out, NB143_126.out, NB127_143.out, NB143_127.out, HB.out⟩)
          ·skip
           rintro ⟨v132, v135, v138, gb143⟩ w31 ⟨hS_, h0_, h1_, h2_, h3_, h4_, h5_, h6_, h7_, h8_, h9_, h10_, h11_, h12_, h13_, h14_⟩
           (try dsimp only at h0_ h1_ h2_ h3_ h4_ h5_ h6_ h7_ h8_ h9_ h10_ h11_ h12_ h13_ h14_)
           have n0_ := aS_ h0_; have n1_ := aS_ h1_; have n2_ := aS_ h2_; have n3_ := aS_ h3_; have n4_ := aS_ h4_; have n5_ := aS_ h5_; have n6_ := aS_ h6_; have n7_ := aS_ h7_; have n8_ := aS_ h8_; have n9_ := aS_ h9_; have n10_ := aS_ h10_; have n11_ := aS_ h11_; have n12_ := aS_ h12_; have n13_ := aS_ h13_; have n14_ := aS_ h14_; clear BK125 BK126 BK127 HB h0_ h1_ h2_ h3_ h4_ h5_ h6_ h7_ h8_ h9_ h10_ h11_ h12_ h13_ h14_; have HO136 := n0_; have HO139 := n1_; have BK125 := n2_; have BK126 := n3_; have BK127 := n4_; have BK143 := n5_; have GW143 := n6_; have GE143 := n7_; have NB125_143 := n8_; have NB143_125 := n9_; have NB126_143 := n10_; have NB143_126 := n11_; have NB127_143 := n12_; have NB143_127 := n13_; have HB := n14_; clear n0_ n1_ n2_ n3_ n4_ n5_ n6_ n7_ n8_ n9_ n10_ n11_ n12_ n13_ n14_; have hHeld := hS_
           refine norm_ (a' := ?_) ?_ ?_
           rotate_left
           ·simp only [putAll, Act.put, List.setIfInBounds_toArray, List.set_cons_zero, List.set_cons_succ]
            rfl
           refine one_ (i := 12) (N := some 33) spec_JoinTalas.K20 rfl rfl (one_of HT_.out (by kernel_rfl)) (by decide) (fun K hK => ?_)
           refine Kd.R_append_rows_step (Kd.int .i64) (w0 := w) w.heap.size (by rfl) (.tmp 30) (.tmp 32) 22 2 (.int .i64 0) 8 rfl Try.underlying22 info2 rfl (by decide) (by omega) v138 t137 l1_2 _ _ _ (fun k_ => some k_ ≠ (v135 : Value).ownBlock) (fun _ => False) rfl rfl ?aO ?aR (fun _ _ h => h) (fun _ h => h.elim) ?aF ?aB ?aS ?aL ?_
           (case aR => exact (Kd.C_below HR1_2.out HB.out))
           (case aB => exact HB.out)
           (case aF => exact (fun k_ hk => Kd.fresh' (Kd.R_lt HO136.out) k_ hk))
           (case aO => exact HO139.out)
           (case aS => exact (below_size HB.out))
           (case aL => have := LMc20.out; omega)
           intro v141 w32 ho hb hg hat
           rw [← Ny140.out] at ho
           have n0_ := aS_ (blk_grown (g := gb125) (o := .cells #[.string a0_0, .slice A0_1 l0_1.length c0_1, .slice A0_2 l0_2.length c0_2] 26 (0, 0)) (by repeat first | exact BK125.out | refine blk_drewN ?_ _ | refine blk_drew ?_ | refine blk_alloc ?_ _) hg (Kd.R_ne HO139.out BK125.out (by decide)))
           have n1_ := aS_ (blk_grown (g := gb126) (o := .cells #[.string a1_0, .slice A1_1 l1_1.length c1_1, .slice A1_2 l1_2.length c1_2] 26 (0, 0)) (by repeat first | exact BK126.out | refine blk_drewN ?_ _ | refine blk_drew ?_ | refine blk_alloc ?_ _) hg (Kd.R_ne HO139.out BK126.out (by decide)))
           have n2_ := aS_ (blk_grown (g := gb127) (o := .cells #[.string (⟨#[]⟩ : ByteArray), .slice none 0 0, .slice none 0 0] 26 (0, 0)) (by repeat first | exact BK127.out | refine blk_drewN ?_ _ | refine blk_drew ?_ | refine blk_alloc ?_ _) hg (Kd.R_ne HO139.out BK127.out (by decide)))
           have n3_ := aS_ (Kd.R_after (ok := (fun _ => True)) (Kd.R_mono HO136.out (fun _ hk => ⟨trivial, hk⟩)) hg hat)
           have n4_ := aS_ (blk_grown (g := gb143) (o := .cells #[.string (⟨#[]⟩ : ByteArray), .slice none 0 0, .slice none 0 0] 26 (0, 0)) (by repeat first | exact BK143.out | refine blk_drewN ?_ _ | refine blk_drew ?_ | refine blk_alloc ?_ _) hg (Kd.R_ne HO139.out BK143.out (by decide)))
           have n5_ := aS_ (hb)
           have n6_ := aS_ (ho); clear BK125 BK126 BK127 HO136 BK143 HB HO139; have BK125 := n0_; have BK126 := n1_; have BK127 := n2_; have HO136 := n3_; have BK143 := n4_; have HB := n5_; have HO142 := n6_; clear n0_ n1_ n2_ n3_ n4_ n5_ n6_ ho hb hg hat
           obtain ⟨Ao33, co33, eo33⟩ := Kd.R_slice HO142.out
           (first | subst eo33 | (injection eo33 with f1_ f2_ f3_; have f4_ := f1_.symm; have f5_ := f3_.symm; clear f1_ f2_ f3_; subst f4_; subst f5_))
           obtain ⟨Ao34, co34, eo34⟩ := Kd.R_slice HO136.out
           (first | subst eo34 | (injection eo34 with f1_ f2_ f3_; have f4_ := f1_.symm; have f5_ := f3_.symm; clear f1_ f2_ f3_; subst f4_; subst f5_))
           refine hK.out _ _ ⟨(blk_cell BK125.out 0).trans rfl, (blk_cell BK125.out 1).trans rfl, (blk_cell BK125.out 2).trans rfl, (blk_cell BK126.out 0).trans rfl, (blk_cell BK126.out 1).trans rfl, (blk_cell BK126.out 2).trans rfl⟩ (fun hHeld => ?_)
           clear hK K; refine norm_ (a' := ?_) ?_ ?_; rotate_left
           ·show Act.put _ (some 33) _ = _; go_simp; rfl
           refine pure_ (i := 13) (N := some 34) (v := ?_) (a' := ?_) spec_JoinTalas.K10 rfl rfl (any_of HT_.out (by kernel_rfl)) (fun _ _ _ h => h) (Or.inl ⟨by rfl, ?_⟩) ?_ ?_; rotate_left; (·intro w'; go_simp; with_reducible rfl); rotate_left; (·go_simp; rfl)
           exact norm_ (by first | (simp only [putAll, Act.put, List.setIfInBounds_toArray, List.set_cons_zero, List.set_cons_succ]; done) | (simp only [putAll, Act.put, List.setIfInBounds_toArray, List.set_cons_zero, List.set_cons_succ]; rfl)) (hJ3_6_9_12_14 (v132, .slice Ao34 y134.length co34, v138, .slice Ao33 y140.length co33, gb143) _ ⟨hHeld, (Kd.R_mono HO136.out (fun _ hk => hk.2)), HO142.out, (by repeat first | exact BK125.out | refine blk_drewN ?_ _ | refine blk_drew ?_ | refine blk_alloc ?_ _), (by repeat first | exact BK126.out | refine blk_drewN ?_ _ | refine blk_drew ?_ | refine blk_alloc ?_ _), (by repeat first | exact BK127.out | refine blk_drewN ?_ _ | refine blk_drew ?_ | refine blk_alloc ?_ _), (by repeat first | exact BK143.out | refine blk_drewN ?_ _ | refine blk_drew ?_ | refine blk_alloc ?_ _), GW143.out, GE143.out, NB125_143.out, NB143_125.out, NB126_143.out, NB143_126.out, NB127_143.out, NB143_127.out, HB.out⟩)
         ·skip
          rintro ⟨v132, v135, v138, v141⟩ w33 ⟨hS_, h0_, h1_, h2_, h3_, h4_, h5_⟩
          (try dsimp only at h0_ h1_ h2_ h3_ h4_ h5_)
          have n0_ := aS_ h0_; have n1_ := aS_ h1_; have n2_ := aS_ h2_; have n3_ := aS_ h3_; have n4_ := aS_ h4_; have n5_ := aS_ h5_; clear BK125 BK126 BK127 HB h0_ h1_ h2_ h3_ h4_ h5_; have HO136 := n0_; have HO142 := n1_; have BK125 := n2_; have BK126 := n3_; have BK127 := n4_; have HB := n5_; clear n0_ n1_ n2_ n3_ n4_ n5_; have hHeld := hS_
          obtain ⟨Ao34, co34, eo34⟩ := Kd.R_slice HO142.out
          (first | subst eo34 | (injection eo34 with f1_ f2_ f3_; have f4_ := f1_.symm; have f5_ := f3_.symm; clear f1_ f2_ f3_; subst f4_; subst f5_))
          obtain ⟨Ao35, co35, eo35⟩ := Kd.R_slice HO136.out
          (first | subst eo35 | (injection eo35 with f1_ f2_ f3_; have f4_ := f1_.symm; have f5_ := f3_.symm; clear f1_ f2_ f3_; subst f4_; subst f5_))
          refine norm_ (a' := ?_) ?_ ?_
          rotate_left
          ·simp only [putAll, Act.put, List.setIfInBounds_toArray, List.set_cons_zero, List.set_cons_succ]
           rfl
          refine one_ (i := 14) (N := some 8) spec_JoinTalas.K10 rfl rfl (one_of HT_.out (by kernel_rfl)) (by decide) (fun K hK => ?_)
          refine box_step ?hg (N := 8) ?hd (cs := #[.string (⟨#[]⟩ : ByteArray), .slice none 0 0, .slice none 0 0]) (t := 26) ?hr ?_; (case hd => rfl); (case hg => rfl); (case hr => first | (go_simp; done) | (go_simp; rfl))
          intro gb143 hg w36 hbox hb
          have n0_ := aS_ (Kd.R_below HO136.out hb)
          have n1_ := aS_ (Kd.R_below HO142.out hb)
          have n2_ := aS_ (blk_below BK125.out hb)
          have n3_ := aS_ (blk_below BK126.out hb)
          have n4_ := aS_ (blk_below BK127.out hb)
          have n5_ := aS_ (below_step HB.out hb)
          have n6_ := aS_ (hbox)
          have n7_ := aS_ ((by rw [hg]; exact (below_size HB.out) : w.heap.size ≤ gb143))
          have n8_ := aS_ ((by rw [hg]; exact (below_size HB.out) : w.heap.size ≤ gb143))
          have n9_ := aS_ ((by rw [hg]; exact Nat.ne_of_lt (blk_lt (g := gb125) (o := .cells #[.string a0_0, .slice A0_1 l0_1.length c0_1, .slice A0_2 l0_2.length c0_2] 26 (0, 0)) (by repeat first | exact BK125.out | refine blk_drewN ?_ _ | refine blk_drew ?_ | refine blk_alloc ?_ _)) : gb125 ≠ gb143))
          have n10_ := aS_ ((by rw [hg]; exact Nat.ne_of_gt (blk_lt (g := gb125) (o := .cells #[.string a0_0, .slice A0_1 l0_1.length c0_1, .slice A0_2 l0_2.length c0_2] 26 (0, 0)) (by repeat first | exact BK125.out | refine blk_drewN ?_ _ | refine blk_drew ?_ | refine blk_alloc ?_ _)) : gb143 ≠ gb125))
          have n11_ := aS_ ((by rw [hg]; exact Nat.ne_of_lt (blk_lt (g := gb126) (o := .cells #[.string a1_0, .slice A1_1 l1_1.length c1_1, .slice A1_2 l1_2.length c1_2] 26 (0, 0)) (by repeat first | exact BK126.out | refine blk_drewN ?_ _ | refine blk_drew ?_ | refine blk_alloc ?_ _)) : gb126 ≠ gb143))
          have n12_ := aS_ ((by rw [hg]; exact Nat.ne_of_gt (blk_lt (g := gb126) (o := .cells #[.string a1_0, .slice A1_1 l1_1.length c1_1, .slice A1_2 l1_2.length c1_2] 26 (0, 0)) (by repeat first | exact BK126.out | refine blk_drewN ?_ _ | refine blk_drew ?_ | refine blk_alloc ?_ _)) : gb143 ≠ gb126))
          have n13_ := aS_ ((by rw [hg]; exact Nat.ne_of_lt (blk_lt (g := gb127) (o := .cells #[.string (⟨#[]⟩ : ByteArray), .slice none 0 0, .slice none 0 0] 26 (0, 0)) (by repeat first | exact BK127.out | refine blk_drewN ?_ _ | refine blk_drew ?_ | refine blk_alloc ?_ _)) : gb127 ≠ gb143))
          have n14_ := aS_ ((by rw [hg]; exact Nat.ne_of_gt (blk_lt (g := gb127) (o := .cells #[.string (⟨#[]⟩ : ByteArray), .slice none 0 0, .slice none 0 0] 26 (0, 0)) (by repeat first | exact BK127.out | refine blk_drewN ?_ _ | refine blk_drew ?_ | refine blk_alloc ?_ _)) : gb143 ≠ gb127))
          clear HO136 HO142 BK125 BK126 BK127 HB; have HO136 := n0_; have HO142 := n1_; have BK125 := n2_; have BK126 := n3_; have BK127 := n4_; have HB := n5_; have BK143 := n6_; have GW143 := n7_; have GE143 := n8_; have NB125_143 := n9_; have NB143_125 := n10_; have NB126_143 := n11_; have NB143_126 := n12_; have NB127_143 := n13_; have NB143_127 := n14_; clear n0_ n1_ n2_ n3_ n4_ n5_ n6_ n7_ n8_ n9_ n10_ n11_ n12_ n13_ n14_ hb hbox hg
          refine hK.out _ _ ⟨(blk_cell BK125.out 0).trans rfl, (blk_cell BK125.out 1).trans rfl, (blk_cell BK125.out 2).trans rfl, (blk_cell BK126.out 0).trans rfl, (blk_cell BK126.out 1).trans rfl, (blk_cell BK126.out 2).trans rfl⟩ (fun hHeld => ?_)
          clear hK K; refine norm_ (a' := ?_) ?_ ?_; rotate_left
          ·show Act.put _ (some 8) _ = _; go_simp; rfl
          exact norm_ (by first | (simp only [putAll, Act.put, List.setIfInBounds_toArray, List.set_cons_zero, List.set_cons_succ]; done) | (simp only [putAll, Act.put, List.setIfInBounds_toArray, List.set_cons_zero, List.set_cons_succ]; rfl)) (hJ3_6_9_12_14 (v132, .slice Ao35 y134.length co35, v138, .slice Ao34 y140.length co34, gb143) _ ⟨hHeld, HO136.out, HO142.out, (by repeat first | exact BK125.out | refine blk_drewN ?_ _ | refine blk_drew ?_ | refine blk_alloc ?_ _), (by repeat first | exact BK126.out | refine blk_drewN ?_ _ | refine blk_drew ?_ | refine blk_alloc ?_ _), (by repeat first | exact BK127.out | refine blk_drewN ?_ _ | refine blk_drew ?_ | refine blk_alloc ?_ _), (by repeat first | exact BK143.out | refine blk_drewN ?_ _ | refine blk_drew ?_ | refine blk_alloc ?_ _), GW143.out, GE143.out, NB125_143.out, NB143_125.out, NB126_143.out, NB143_126.out, NB127_143.out, NB143_127.out, HB.out⟩)
        rintro ⟨v132, v135, v138, v141, gb143⟩ w34 ⟨hS_, h0_, h1_, h2_, h3_, h4_, h5_, h6_, h7_, h8_, h9_, h10_, h11_, h12_, h13_, h14_⟩
        (try dsimp only at h0_ h1_ h2_ h3_ h4_ h5_ h6_ h7_ h8_ h9_ h10_ h11_ h12_ h13_ h14_)
        have n0_ := aS_ h0_; have n1_ := aS_ h1_; have n2_ := aS_ h2_; have n3_ := aS_ h3_; have n4_ := aS_ h4_; have n5_ := aS_ h5_; have n6_ := aS_ h6_; have n7_ := aS_ h7_; have n8_ := aS_ h8_; have n9_ := aS_ h9_; have n10_ := aS_ h10_; have n11_ := aS_ h11_; have n12_ := aS_ h12_; have n13_ := aS_ h13_; have n14_ := aS_ h14_; clear BK125 BK126 BK127 HB h0_ h1_ h2_ h3_ h4_ h5_ h6_ h7_ h8_ h9_ h10_ h11_ h12_ h13_ h14_; have HO136 := n0_; have HO142 := n1_; have BK125 := n2_; have BK126 := n3_; have BK127 := n4_; have BK143 := n5_; have GW143 := n6_; have GE143 := n7_; have NB125_143 := n8_; have NB143_125 := n9_; have NB126_143 := n10_; have NB143_126 := n11_; have NB127_143 := n12_; have NB143_127 := n13_; have HB := n14_; clear n0_ n1_ n2_ n3_ n4_ n5_ n6_ n7_ n8_ n9_ n10_ n11_ n12_ n13_ n14_; have hHeld := hS_
        obtain ⟨Ao35, co35, eo35⟩ := Kd.R_slice HO142.out
        (first | subst eo35 | (injection eo35 with f1_ f2_ f3_; have f4_ := f1_.symm; have f5_ := f3_.symm; clear f1_ f2_ f3_; subst f4_; subst f5_))
        obtain ⟨Ao36, co36, eo36⟩ := Kd.R_slice HO136.out
        (first | subst eo36 | (injection eo36 with f1_ f2_ f3_; have f4_ := f1_.symm; have f5_ := f3_.symm; clear f1_ f2_ f3_; subst f4_; subst f5_))
        refine norm_ (a' := ?_) ?_ ?_
        rotate_left
        ·simp only [putAll, Act.put, List.setIfInBounds_toArray, List.set_cons_zero, List.set_cons_succ]
         rfl
        refine one_ (i := 15) (N := none) spec_JoinTalas.K21 rfl rfl (one_of HT_.out (by kernel_rfl)) (by decide) (fun K hK => ?_)
        have hs37 : w34.cell? ⟨gb143, 0, none⟩ = some (.string (⟨#[]⟩ : ByteArray)) := (blk_cell BK143.out 0).trans rfl
        have hfs37 := blk_frozen BK143.out 0; have hns37_0 := NB125_143.out; have hns37_1 := NB126_143.out; have hns37_2 := NB127_143.out; have hms37_0 := NB143_125.out; have hms37_1 := NB143_126.out; have hms37_2 := NB143_127.out
        have hs38 : w34.cell? ⟨gb143, 1, none⟩ = some (.slice none 0 0) := (blk_cell BK143.out 1).trans rfl
        have hfs38 := blk_frozen BK143.out 1; have hns38_0 := NB125_143.out; have hns38_1 := NB126_143.out; have hns38_2 := NB127_143.out; have hms38_0 := NB143_125.out; have hms38_1 := NB143_126.out; have hms38_2 := NB143_127.out
        have hs39 : w34.cell? ⟨gb143, 2, none⟩ = some (.slice none 0 0) := (blk_cell BK143.out 2).trans rfl
        have hfs39 := blk_frozen BK143.out 2; have hns39_0 := NB125_143.out; have hns39_1 := NB126_143.out; have hns39_2 := NB127_143.out; have hms39_0 := NB143_125.out; have hms39_1 := NB143_126.out; have hms39_2 := NB143_127.out
        refine skip_ (w1 := ?_) (by rfl) rfl ?_ ?_
        rotate_left
        ·go_simp
         rfl
        refine hK.out _ _ ⟨((cell_far (p := ⟨gb143, _, none⟩) NB125_143.out _).trans (((cell_far (p := ⟨gb143, _, none⟩) NB125_143.out _).trans (((cell_far (p := ⟨gb143, _, none⟩) NB125_143.out _).trans (hHeld.1)))))), ((cell_far (p := ⟨gb143, _, none⟩) NB125_143.out _).trans (((cell_far (p := ⟨gb143, _, none⟩) NB125_143.out _).trans (((cell_far (p := ⟨gb143, _, none⟩) NB125_143.out _).trans (hHeld.2.1)))))), ((cell_far (p := ⟨gb143, _, none⟩) NB125_143.out _).trans (((cell_far (p := ⟨gb143, _, none⟩) NB125_143.out _).trans (((cell_far (p := ⟨gb143, _, none⟩) NB125_143.out _).trans (hHeld.2.2.1)))))), ((cell_far (p := ⟨gb143, _, none⟩) NB126_143.out _).trans (((cell_far (p := ⟨gb143, _, none⟩) NB126_143.out _).trans (((cell_far (p := ⟨gb143, _, none⟩) NB126_143.out _).trans (hHeld.2.2.2.1)))))), ((cell_far (p := ⟨gb143, _, none⟩) NB126_143.out _).trans (((cell_far (p := ⟨gb143, _, none⟩) NB126_143.out _).trans (((cell_far (p := ⟨gb143, _, none⟩) NB126_143.out _).trans (hHeld.2.2.2.2.1)))))), ((cell_far (p := ⟨gb143, _, none⟩) NB126_143.out _).trans (((cell_far (p := ⟨gb143, _, none⟩) NB126_143.out _).trans (((cell_far (p := ⟨gb143, _, none⟩) NB126_143.out _).trans (hHeld.2.2.2.2.2))))))⟩ (fun hHeld => ?_)
        clear hK K
        refine done_ (done_of HT_.out (by kernel_rfl)) ?_
        have n0_ : Aside0 (Kd.R (Kd.int .i64) 2 (((w34.setCell ⟨gb143, 0, none⟩ (.string a2)).setCell ⟨gb143, 1, none⟩ (.slice Ao36 y134.length co36)).setCell ⟨gb143, 2, none⟩ (.slice Ao35 y140.length co35)) w.heap.size (fun k_ => some k_ ≠ (.slice Ao35 y140.length co35 : Value).ownBlock) (.slice Ao36 y134.length co36) y134) := ⟨by (with_reducible repeat (first | apply Kd.R_alloc | apply Kd.R_drewN | apply Kd.R_drew)); exact Kd.R_mono (Kd.R_far (p := ⟨gb143, 2, none⟩) (Kd.R_far (p := ⟨gb143, 1, none⟩) (Kd.R_far (p := ⟨gb143, 0, none⟩) (Kd.R_types HO136.out BK143.out (by decide)) (fun _ hk => hk.2) (.string a2)) (fun _ hk => hk.2) (.slice Ao36 y134.length co36)) (fun _ hk => hk.2) (.slice Ao35 y140.length co35)) (fun _ hk => hk.1)⟩
        have n1_ : Aside0 (Kd.R (Kd.int .i64) 2 (((w34.setCell ⟨gb143, 0, none⟩ (.string a2)).setCell ⟨gb143, 1, none⟩ (.slice Ao36 y134.length co36)).setCell ⟨gb143, 2, none⟩ (.slice Ao35 y140.length co35)) w.heap.size (fun k_ => some k_ ≠ (.slice Ao36 y134.length co36 : Value).ownBlock) (.slice Ao35 y140.length co35) y140) := ⟨by (with_reducible repeat (first | apply Kd.R_alloc | apply Kd.R_drewN | apply Kd.R_drew)); exact Kd.R_mono (Kd.R_far (p := ⟨gb143, 2, none⟩) (Kd.R_far (p := ⟨gb143, 1, none⟩) (Kd.R_far (p := ⟨gb143, 0, none⟩) (Kd.R_types HO142.out BK143.out (by decide)) (fun _ hk => hk.2) (.string a2)) (fun _ hk => hk.2) (.slice Ao36 y134.length co36)) (fun _ hk => hk.2) (.slice Ao35 y140.length co35)) (fun _ hk => hk.1)⟩
        have n2_ : Aside0 ((((w34.setCell ⟨gb143, 0, none⟩ (.string a2)).setCell ⟨gb143, 1, none⟩ (.slice Ao36 y134.length co36)).setCell ⟨gb143, 2, none⟩ (.slice Ao35 y140.length co35)).heap[gb125]? = some (.cells #[.string a0_0, .slice A0_1 l0_1.length c0_1, .slice A0_2 l0_2.length c0_2] 26 (0, 0))) := ⟨by (with_reducible repeat (first | refine blk_drewN ?_ _ | refine blk_drew ?_ | refine blk_alloc ?_ _)); refine blk_far ?_ NB125_143.out _; (with_reducible repeat (first | refine blk_drewN ?_ _ | refine blk_drew ?_ | refine blk_alloc ?_ _)); refine blk_far ?_ NB125_143.out _; (with_reducible repeat (first | refine blk_drewN ?_ _ | refine blk_drew ?_ | refine blk_alloc ?_ _)); refine blk_far ?_ NB125_143.out _; (with_reducible repeat (first | refine blk_drewN ?_ _ | refine blk_drew ?_ | refine blk_alloc ?_ _)); exact BK125.out⟩
        have n3_ : Aside0 ((((w34.setCell ⟨gb143, 0, none⟩ (.string a2)).setCell ⟨gb143, 1, none⟩ (.slice Ao36 y134.length co36)).setCell ⟨gb143, 2, none⟩ (.slice Ao35 y140.length co35)).heap[gb126]? = some (.cells #[.string a1_0, .slice A1_1 l1_1.length c1_1, .slice A1_2 l1_2.length c1_2] 26 (0, 0))) := ⟨by (with_reducible repeat (first | refine blk_drewN ?_ _ | refine blk_drew ?_ | refine blk_alloc ?_ _)); refine blk_far ?_ NB126_143.out _; (with_reducible repeat (first | refine blk_drewN ?_ _ | refine blk_drew ?_ | refine blk_alloc ?_ _)); refine blk_far ?_ NB126_143.out _; (with_reducible repeat (first | refine blk_drewN ?_ _ | refine blk_drew ?_ | refine blk_alloc ?_ _)); refine blk_far ?_ NB126_143.out _; (with_reducible repeat (first | refine blk_drewN ?_ _ | refine blk_drew ?_ | refine blk_alloc ?_ _)); exact BK126.out⟩
        have n4_ : Aside0 ((((w34.setCell ⟨gb143, 0, none⟩ (.string a2)).setCell ⟨gb143, 1, none⟩ (.slice Ao36 y134.length co36)).setCell ⟨gb143, 2, none⟩ (.slice Ao35 y140.length co35)).heap[gb127]? = some (.cells #[.string (⟨#[]⟩ : ByteArray), .slice none 0 0, .slice none 0 0] 26 (0, 0))) := ⟨by (with_reducible repeat (first | refine blk_drewN ?_ _ | refine blk_drew ?_ | refine blk_alloc ?_ _)); refine blk_far ?_ NB127_143.out _; (with_reducible repeat (first | refine blk_drewN ?_ _ | refine blk_drew ?_ | refine blk_alloc ?_ _)); refine blk_far ?_ NB127_143.out _; (with_reducible repeat (first | refine blk_drewN ?_ _ | refine blk_drew ?_ | refine blk_alloc ?_ _)); refine blk_far ?_ NB127_143.out _; (with_reducible repeat (first | refine blk_drewN ?_ _ | refine blk_drew ?_ | refine blk_alloc ?_ _)); exact BK127.out⟩
        have n5_ : Aside0 ((((w34.setCell ⟨gb143, 0, none⟩ (.string a2)).setCell ⟨gb143, 1, none⟩ (.slice Ao36 y134.length co36)).setCell ⟨gb143, 2, none⟩ (.slice Ao35 y140.length co35)).heap[gb143]? = some (.cells #[.string a2, .slice Ao36 y134.length co36, .slice Ao35 y140.length co35] 26 (0, 0))) := ⟨by (with_reducible repeat (first | refine blk_drewN ?_ _ | refine blk_drew ?_ | refine blk_alloc ?_ _)); refine blk_put (cs := #[.string a2, .slice Ao36 y134.length co36, .slice none 0 0]) ?_ 2 _ rfl; (with_reducible repeat (first | refine blk_drewN ?_ _ | refine blk_drew ?_ | refine blk_alloc ?_ _)); refine blk_put (cs := #[.string a2, .slice none 0 0, .slice none 0 0]) ?_ 1 _ rfl; (with_reducible repeat (first | refine blk_drewN ?_ _ | refine blk_drew ?_ | refine blk_alloc ?_ _)); refine blk_put (cs := #[.string (⟨#[]⟩ : ByteArray), .slice none 0 0, .slice none 0 0]) ?_ 0 _ rfl; (with_reducible repeat (first | refine blk_drewN ?_ _ | refine blk_drew ?_ | refine blk_alloc ?_ _)); exact BK143.out⟩
        have n6_ : Aside0 (Below w.heap.size w (((w34.setCell ⟨gb143, 0, none⟩ (.string a2)).setCell ⟨gb143, 1, none⟩ (.slice Ao36 y134.length co36)).setCell ⟨gb143, 2, none⟩ (.slice Ao35 y140.length co35))) := ⟨by repeat (first | (with_reducible first | exact HB.out | apply below_alloc | apply pw_below_drewN | apply below_drew1 | refine below_set ?_ GE125.out | refine below_set ?_ GE126.out | refine below_set ?_ GE127.out | refine below_set ?_ GE143.out) | exact HB.out)⟩
        (try clear HO136); (try clear HO142); (try clear BK125); (try clear BK126); (try clear BK127); (try clear BK143); (try clear HB)
        generalize (((w34.setCell ⟨gb143, 0, none⟩ (.string a2)).setCell ⟨gb143, 1, none⟩ (.slice Ao36 y134.length co36)).setCell ⟨gb143, 2, none⟩ (.slice Ao35 y140.length co35)) = w40 at n0_ n1_ n2_ n3_ n4_ n5_ n6_ ⊢
        have HO136 := n0_; have HO142 := n1_; have BK125 := n2_; have BK126 := n3_; have BK127 := n4_; have BK143 := n5_; have HB := n6_; clear n0_ n1_ n2_ n3_ n4_ n5_ n6_; have hnb41 := NB143_125.out; have hnc41 := NB125_143.out; have hnb42 := NB143_126.out; have hnc42 := NB126_143.out; have hnb43 := NB143_127.out; have hnc43 := NB127_143.out
        have hcz44_0 : w40.cell? ⟨gb143, 0, none⟩ = some (.string a2) := (blk_cell BK143.out 0).trans rfl
        have hcz44_1 : w40.cell? ⟨gb143, 1, none⟩ = some (.slice Ao36 y134.length co36) := (blk_cell BK143.out 1).trans rfl
        have hcz44_2 : w40.cell? ⟨gb143, 2, none⟩ = some (.slice Ao35 y140.length co35) := (blk_cell BK143.out 2).trans rfl
        have hfz44_0 := blk_frozen BK143.out 0
        have hfz44_1 := blk_frozen BK143.out 1
        have hfz44_2 := blk_frozen BK143.out 2; have hnb45 := NB125_126.out; have hnc45 := NB126_125.out; have hnb46 := NB125_127.out; have hnc46 := NB127_125.out
        have hcz47_0 : w40.cell? ⟨gb125, 0, none⟩ = some (.string a0_0) := (blk_cell BK125.out 0).trans rfl
        have hcz47_1 : w40.cell? ⟨gb125, 1, none⟩ = some (.slice A0_1 l0_1.length c0_1) := (blk_cell BK125.out 1).trans rfl
        have hcz47_2 : w40.cell? ⟨gb125, 2, none⟩ = some (.slice A0_2 l0_2.length c0_2) := (blk_cell BK125.out 2).trans rfl
        have hfz47_0 := blk_frozen BK125.out 0
        have hfz47_1 := blk_frozen BK125.out 1
        have hfz47_2 := blk_frozen BK125.out 2
        have p23 : 0 ≤ ((l0_2.length : Int) : Int) := of_decide_eq_true (by assumption)
        have q23 : ((l0_2.length : Int) : Int) < ((y140.length : Int) : Int) := of_decide_eq_true (by assumption)
        obtain ⟨go23, co23, eo23, gb23, gl23, cl23, HG23⟩ := Kd.R_form HO142.out (by omega)
        (first | cases eo23 | (injection eo23 with ea_ en_ ec_; (first | subst ea_ | (injection ea_ with ea_; subst ea_)); subst ec_; clear en_))
        have GB23 := aS_ gb23; have GG23 := aS_ HG23; clear gb23 gl23 HG23
        obtain ⟨hx23_0, hf23_0⟩ := Kd.R_celln 0 HO142.out ((l0_2.length : Int) : Int) p23 q23
        replace p23 := eq_true p23
        replace q23 := eq_true q23
        obtain ⟨hy48_, hz48_⟩ := Kd.R_celln 0 HO142.out ((l0_2.length : Int) : Int) (of_decide_eq_true (by assumption)) (of_decide_eq_true (by assumption))
        (try simp only [Go.IntWalk.toNatUp] at hy48_ hz48_)
        have HP48 := Kd.R_putg HO142.out ((l0_2.length : Int) : Int) 2
        go_upto_if 42 with (first | ((with_reducible refine gate_store (t := 2) (p := 40) rfl ?_); refine store_event (t := 2) (p := 40) (v := ?vo_w49) (w1 := (w40.setCell ⟨go23, ((l0_2.length : Int) : Int).toNat, none⟩ (.int .i64 2))) ?hg ?ho ?hn ?hr ?_; (case ho => rfl); (case hg => rfl); (case hn => rfl); (case hr => first | (go_simp; done) | (go_simp; rfl)); intro w49 hw; have hg : w40.grownBy w49 (some go23) := (by rw [hw]; exact HP48.2); have hp_ : Kd.R (Kd.int .i64) 2 w49 w.heap.size (fun k_ => some k_ ≠ (.slice Ao36 y134.length co36 : Value).ownBlock) (.slice (some ⟨go23, 0, none⟩) y140.length co35) y144 := (by rw [hw, Ny144.out]; exact HP48.1); clear HP48; have n0_ := aS_ (blk_grown (g := gb125) (o := .cells #[.string a0_0, .slice A0_1 l0_1.length c0_1, .slice A0_2 l0_2.length c0_2] 26 (0, 0)) (by repeat first | exact BK125.out | refine blk_drewN ?_ _ | refine blk_drew ?_ | refine blk_alloc ?_ _) hg (Kd.R_ne HO142.out BK125.out (by decide))); have n1_ := aS_ (blk_grown (g := gb126) (o := .cells #[.string a1_0, .slice A1_1 l1_1.length c1_1, .slice A1_2 l1_2.length c1_2] 26 (0, 0)) (by repeat first | exact BK126.out | refine blk_drewN ?_ _ | refine blk_drew ?_ | refine blk_alloc ?_ _) hg (Kd.R_ne HO142.out BK126.out (by decide))); have n2_ := aS_ (blk_grown (g := gb127) (o := .cells #[.string (⟨#[]⟩ : ByteArray), .slice none 0 0, .slice none 0 0] 26 (0, 0)) (by repeat first | exact BK127.out | refine blk_drewN ?_ _ | refine blk_drew ?_ | refine blk_alloc ?_ _) hg (Kd.R_ne HO142.out BK127.out (by decide))); have n3_ := aS_ (Kd.R_after (v := (.slice (some ⟨go23, 0, none⟩) y140.length co35)) (v1 := (.slice (some ⟨go23, 0, none⟩) y140.length co35)) (ok := (fun _ => True)) (by (with_reducible repeat (first | apply Kd.R_alloc | apply Kd.R_drewN | apply Kd.R_drew)); exact Kd.R_mono HO136.out (fun _ hk => ⟨trivial, hk⟩)) hg (.inl rfl)); have n4_ := aS_ (hp_); have n5_ := aS_ (blk_grown (g := gb143) (o := .cells #[.string a2, .slice Ao36 y134.length co36, .slice (some ⟨go23, 0, none⟩) y140.length co35] 26 (0, 0)) (by repeat first | exact BK143.out | refine blk_drewN ?_ _ | refine blk_drew ?_ | refine blk_alloc ?_ _) hg (Kd.R_ne HO142.out BK143.out (by decide))); have n6_ := aS_ ((by rw [hw]; exact below_set (HB.out) GB23.out : Below w.heap.size w w49)); clear BK125; clear BK126; clear BK127; clear HO136; clear HO142; clear BK143; clear HB; have BK125 := n0_; have BK126 := n1_; have BK127 := n2_; have HO136 := n3_; have HO142 := n4_; have BK143 := n5_; have HB := n6_; clear n0_ n1_ n2_ n3_ n4_ n5_ n6_; clear hg hw hp_) | ((with_reducible refine gate_callee (f := 35) rfl ?_); refine goesL_ (some 41) rfl rfl Try.func35 (by kernel_rfl) rfl #[.pointer (some ⟨gb143, 0, none⟩)] rfl (by (try simp only [List.map_toArray, List.map_cons, List.map_nil]); first | done | (rw [show y144.length = y140.length from (Kd.R_reads' HO142.out).1.symm] <;> rfl) | rfl | (simp only [List.length_drop, List.length_take]; rfl)) ?_; (with_reducible refine (spec_l17Ok.calls kj3 gb143 a2 Ao36 co36 y134 (some ⟨go23, 0, none⟩) co35 y144 t145 _ ?side1 ?side2 ?side3 ?side4 ?side5 A24.out).mono ?_); (case side1 => (with_reducible repeat (first | refine blk_drewN ?_ _ | refine blk_drew ?_ | refine blk_alloc ?_ _)); (first | exact BK143.out | (rw [show y144.length = y140.length from (Kd.R_reads' HO142.out).1.symm]; exact BK143.out))); (case side2 => repeat (first | exact (Kd.R_reads' HO136.out).2.2 | (with_reducible refine Kd.C_alloc ?_ _) | (with_reducible refine Kd.C_drewN ?_ _) | (with_reducible refine Kd.C_drew ?_))); (case side3 => exact (Kd.R_reads' HO136.out).2.1); (case side4 => repeat (first | exact (Kd.R_reads' HO142.out).2.2 | (with_reducible refine Kd.C_alloc ?_ _) | (with_reducible refine Kd.C_drewN ?_ _) | (with_reducible refine Kd.C_drew ?_))); (case side5 => rw [show y144.length = y140.length from (Kd.R_reads' HO142.out).1.symm]; exact (Kd.R_reads' HO142.out).2.1); rintro e w' ⟨rfl, ⟨nd, rfl⟩⟩; refine ⟨_, rfl, ?_⟩))
        (try simp only [Act.put, List.setIfInBounds_toArray, List.set_cons_zero, List.set_cons_succ])
        go_cut [] (fun wc => ∃ (kq : Nat) (x128000_24 : ByteArray), Aside0 (spec_JoinTalas.j1 kq a2 y134 y144 = some (r1, r2, r3, r4)) ∧ Aside0 (kq ≤ kj3) ∧ Aside0 (Kd.R (Kd.int .i64) 2 wc w.heap.size (fun k_ => some k_ ≠ ((.slice (some ⟨go23, 0, none⟩) y140.length co35) : Value).ownBlock) (.slice Ao36 y134.length co36) y134) ∧ Aside0 (Kd.R (Kd.int .i64) 2 wc w.heap.size (fun k_ => some k_ ≠ ((.slice Ao36 y134.length co36) : Value).ownBlock) (.slice (some ⟨go23, 0, none⟩) y140.length co35) y144) ∧ Aside0 (wc.heap[gb125]? = some (.cells #[.string a0_0, (.slice A0_1 l0_1.length c0_1), (.slice A0_2 l0_2.length c0_2)] 26 (0, 0))) ∧ Aside0 (wc.heap[gb126]? = some (.cells #[.string a1_0, (.slice A1_1 l1_1.length c1_1), (.slice A1_2 l1_2.length c1_2)] 26 (0, 0))) ∧ Aside0 (wc.heap[gb127]? = some (.cells #[.string x128000_24, (.slice none 0 0), (.slice none 0 0)] 26 (0, 0))) ∧ Aside0 (wc.heap[gb143]? = some (.cells #[.string a2, (.slice Ao36 y134.length co36), (.slice (some ⟨go23, 0, none⟩) y140.length co35)] 26 (0, 0))) ∧ Aside0 (Below w.heap.size w wc))
        case first =>
         have H := HC25.out; clear HC25
         by_cases c50 : t145 = true
         ·subst c50
          have H1 : (spec_JoinTalas.j1 kj3 a2 y134 y144) = some (r1, r2, r3, r4) := by rw [if_pos rfl] at H; exact H
          clear H
          have H := H1; clear H1
          have H' := aS_ H
          clear H
          go_wp2
          go_meet
          case rel => exact ⟨_, ((⟨#[]⟩ : ByteArray)), H', ⟨by have := HJ3.out; first | omega | exact Nat.le_refl _⟩, ⟨by (with_reducible repeat (first | apply Kd.R_alloc | apply Kd.R_drewN | apply Kd.R_drew)); exact Kd.R_mono HO136.out (fun _ hk => hk.2)⟩, ⟨by (with_reducible repeat (first | apply Kd.R_alloc | apply Kd.R_drewN | apply Kd.R_drew)); exact HO142.out⟩, ⟨by (with_reducible repeat (first | refine blk_drewN ?_ _ | refine blk_drew ?_ | refine blk_alloc ?_ _)); exact BK125.out⟩, ⟨by (with_reducible repeat (first | refine blk_drewN ?_ _ | refine blk_drew ?_ | refine blk_alloc ?_ _)); exact BK126.out⟩, ⟨by (with_reducible repeat (first | refine blk_drewN ?_ _ | refine blk_drew ?_ | refine blk_alloc ?_ _)); exact BK127.out⟩, ⟨by (with_reducible repeat (first | refine blk_drewN ?_ _ | refine blk_drew ?_ | refine blk_alloc ?_ _)); exact BK143.out⟩, ⟨by repeat (first | (with_reducible first | exact HB.out | apply below_alloc | apply pw_below_drewN | apply below_drew1 | refine below_set ?_ GE125.out | refine below_set ?_ GE126.out | refine below_set ?_ GE127.out | refine below_set ?_ GE143.out) | exact HB.out)⟩⟩
         ·replace c50 := Bool.eq_false_iff.mpr c50
          subst c50
          have H1 : (some ((⟨#[]⟩ : ByteArray), ([] : List Int), ([] : List Int), 5)) = some (r1, r2, r3, r4) := by rw [if_neg (show ¬ (false = true) by decide)] at H; exact H
          clear H
          have H := H1; clear H1
          simp only [Option.some.injEq, Prod.mk.injEq] at H
          obtain ⟨rfl, rfl, rfl, rfl⟩ := H
          have hnb51 := NB127_125.out; have hnc51 := NB125_127.out; have hnb52 := NB127_126.out; have hnc52 := NB126_127.out; have hnb53 := NB127_143.out; have hnc53 := NB143_127.out
          have hcz54_0 : w49.cell? ⟨gb127, 0, none⟩ = some (.string (⟨#[]⟩ : ByteArray)) := (blk_cell BK127.out 0).trans rfl
          have hcz54_1 : w49.cell? ⟨gb127, 1, none⟩ = some (.slice none 0 0) := (blk_cell BK127.out 1).trans rfl
          have hcz54_2 : w49.cell? ⟨gb127, 2, none⟩ = some (.slice none 0 0) := (blk_cell BK127.out 2).trans rfl
          have hfz54_0 := blk_frozen BK127.out 0
          have hfz54_1 := blk_frozen BK127.out 1
          have hfz54_2 := blk_frozen BK127.out 2
          go_wp2
          refine bodyPost_ret (results_ct rfl _ _ gb127 26 #[.string (⟨#[]⟩ : ByteArray), .slice none 0 0, .slice none 0 0] (0, 0) _ rfl (by (with_reducible repeat (first | refine blk_drewN ?_ _ | refine blk_drew ?_ | refine blk_alloc ?_ _)); refine blk_put (cs := #[.string (⟨#[]⟩ : ByteArray), .slice none 0 0, .slice none 0 0]) ?_ 2 _ rfl; (with_reducible repeat (first | refine blk_drewN ?_ _ | refine blk_drew ?_ | refine blk_alloc ?_ _)); refine blk_put (cs := #[.string (⟨#[]⟩ : ByteArray), .slice none 0 0, .slice none 0 0]) ?_ 1 _ rfl; (with_reducible repeat (first | refine blk_drewN ?_ _ | refine blk_drew ?_ | refine blk_alloc ?_ _)); refine blk_put (cs := #[.string (⟨#[]⟩ : ByteArray), .slice none 0 0, .slice none 0 0]) ?_ 0 _ rfl; (with_reducible repeat (first | refine blk_drewN ?_ _ | refine blk_drew ?_ | refine blk_alloc ?_ _)); exact BK127.out) Try.underlying26 rfl (by kernel_rfl)) rfl ?_
          exact ⟨_, _, by first | rfl | (simp [errW_none, errW_some] <;> rfl) | (simp [*, errW_none, errW_some] <;> rfl), by first | exact Kd.R_nil _ _ _ _ _ | exact Kd.N_nil _ _ _ _ _ | exact Kd.V_nil _ _ _ _ _ | exact Kd.Q_nil _ _ _ _ _ | exact Kd.S_nil _ _ _ _ _, by first | exact Kd.R_nil _ _ _ _ _ | exact Kd.N_nil _ _ _ _ _ | exact Kd.V_nil _ _ _ _ _ | exact Kd.Q_nil _ _ _ _ _ | exact Kd.S_nil _ _ _ _ _, by repeat (first | (with_reducible first | exact HB.out | apply below_alloc | apply pw_below_drewN | apply below_drew1 | refine below_set ?_ GE125.out | refine below_set ?_ GE126.out | refine below_set ?_ GE127.out | refine below_set ?_ GE143.out) | exact HB.out)⟩
        case rest =>
         clear HC25
         try clear c1
         try clear c2
         try clear p2
         try clear q2
         try clear hx2
         try clear c3
         try clear c4
         try clear c5
         try clear c20
         try clear p23
         try clear q23
         try clear hx23
         try clear hf23
         try clear c35
         try clear c37
         try clear c41
         try clear c42
         try clear c43
         try clear c45
         try clear c46
         try clear c50
         try clear c51
         try clear c52
         try clear c53
         try clear hcz44_0
         try clear hcz44_1
         try clear hcz44_2
         try clear hcz47_0
         try clear hcz47_1
         try clear hcz47_2
         try clear hcz54_0
         try clear hcz54_1
         try clear hcz54_2
         try clear hfz44_0
         try clear hfz44_1
         try clear hfz44_2
         try clear hfz47_0
         try clear hfz47_1
         try clear hfz47_2
         try clear hfz54_0
         try clear hfz54_1
         try clear hfz54_2
         try clear hx23_0
         try clear p23
         try clear q23
         obtain ⟨kq, x128000_24, HA, HJ24, HO_144001, HO_144002, BK125, BK126, BK127, BK143, HB⟩ := hcut
         have hl144002_24 := (Kd.R_reads' HO_144002.out).1
         rw [hl144002_24] at HO_144002
         (try simp only [hl144002_24])
         (try simp only [hl144002_24] at BK125)
         (try simp only [hl144002_24] at BK126)
         (try simp only [hl144002_24] at BK127)
         (try simp only [hl144002_24] at BK143)
         (try simp only [hl144002_24] at HO_144001)
         cases kq with
         | zero => exact absurd HA.out (by simp [spec_JoinTalas.j1])
         | succ kj24 =>
          have H := HA.out; clear HA
          simp only [spec_JoinTalas.j1] at H
          simp only [Option.some.injEq, Prod.mk.injEq] at H
          obtain ⟨rfl, rfl, rfl, rfl⟩ := H
          have hnb55 := NB143_125.out; have hnc55 := NB125_143.out; have hnb56 := NB143_126.out; have hnc56 := NB126_143.out; have hnb57 := NB143_127.out; have hnc57 := NB127_143.out
          have hcz58_0 : wc.cell? ⟨gb143, 0, none⟩ = some (.string a2) := (blk_cell BK143.out 0).trans rfl
          have hcz58_1 : wc.cell? ⟨gb143, 1, none⟩ = some (.slice Ao36 y134.length co36) := (blk_cell BK143.out 1).trans rfl
          have hcz58_2 : wc.cell? ⟨gb143, 2, none⟩ = some (.slice (some ⟨go23, 0, none⟩) y144.length co35) := (blk_cell BK143.out 2).trans rfl
          have hfz58_0 := blk_frozen BK143.out 0
          have hfz58_1 := blk_frozen BK143.out 1
          have hfz58_2 := blk_frozen BK143.out 2; have hnb59 := NB127_125.out; have hnc59 := NB125_127.out; have hnb60 := NB127_126.out; have hnc60 := NB126_127.out
          have hcz61_0 : wc.cell? ⟨gb127, 0, none⟩ = some (.string x128000_24) := (blk_cell BK127.out 0).trans rfl
          have hcz61_1 : wc.cell? ⟨gb127, 1, none⟩ = some (.slice none 0 0) := (blk_cell BK127.out 1).trans rfl
          have hcz61_2 : wc.cell? ⟨gb127, 2, none⟩ = some (.slice none 0 0) := (blk_cell BK127.out 2).trans rfl
          have hfz61_0 := blk_frozen BK127.out 0
          have hfz61_1 := blk_frozen BK127.out 1
          have hfz61_2 := blk_frozen BK127.out 2
          go_wp2
          refine bodyPost_ret (results_ct rfl _ _ gb127 26 #[.string a2, .slice Ao36 y134.length co36, .slice (some ⟨go23, 0, none⟩) y144.length co35] (0, 0) _ rfl (by (with_reducible repeat (first | refine blk_drewN ?_ _ | refine blk_drew ?_ | refine blk_alloc ?_ _)); refine blk_put (cs := #[.string a2, .slice Ao36 y134.length co36, .slice none 0 0]) ?_ 2 _ rfl; (with_reducible repeat (first | refine blk_drewN ?_ _ | refine blk_drew ?_ | refine blk_alloc ?_ _)); refine blk_put (cs := #[.string a2, .slice none 0 0, .slice none 0 0]) ?_ 1 _ rfl; (with_reducible repeat (first | refine blk_drewN ?_ _ | refine blk_drew ?_ | refine blk_alloc ?_ _)); refine blk_put (cs := #[.string x128000_24, .slice none 0 0, .slice none 0 0]) ?_ 0 _ rfl; (with_reducible repeat (first | refine blk_drewN ?_ _ | refine blk_drew ?_ | refine blk_alloc ?_ _)); exact BK127.out) Try.underlying26 rfl (by kernel_rfl)) rfl ?_
          exact ⟨_, _, by first | rfl | (simp [errW_none, errW_some] <;> rfl) | (simp [*, errW_none, errW_some] <;> rfl), by (with_reducible repeat (first | apply Kd.R_alloc | apply Kd.R_drewN | apply Kd.R_drew)); exact Kd.R_mono (Kd.R_far (p := ⟨gb127, 2, none⟩) (Kd.R_far (p := ⟨gb127, 1, none⟩) (Kd.R_far (p := ⟨gb127, 0, none⟩) (Kd.R_types HO_144001.out BK127.out (by decide)) (fun _ hk => hk.2) (.string a2)) (fun _ hk => hk.2) (.slice Ao36 y134.length co36)) (fun _ hk => hk.2) (.slice (some ⟨go23, 0, none⟩) y144.length co35)) (fun _ hk => hk.1), by (with_reducible repeat (first | apply Kd.R_alloc | apply Kd.R_drewN | apply Kd.R_drew)); exact Kd.R_mono (Kd.R_far (p := ⟨gb127, 2, none⟩) (Kd.R_far (p := ⟨gb127, 1, none⟩) (Kd.R_far (p := ⟨gb127, 0, none⟩) (Kd.R_types HO_144002.out BK127.out (by decide)) (fun _ hk => hk.2) (.string a2)) (fun _ hk => hk.2) (.slice Ao36 y134.length co36)) (fun _ hk => hk.2) (.slice (some ⟨go23, 0, none⟩) y144.length co35)) (fun _ hk => hk.1), by repeat (first | (with_reducible first | exact HB.out | apply below_alloc | apply pw_below_drewN | apply below_drew1 | refine below_set ?_ GE125.out | refine below_set ?_ GE126.out | refine below_set ?_ GE127.out | refine below_set ?_ GE143.out) | exact HB.out)⟩
       ·rw [if_neg c22] at H
        exact absurd H (by simp)
      ·rw [if_neg c21] at H
       exact absurd H (by simp)
     ·rw [if_neg c20] at H
      exact absurd H (by simp)
    ·rw [if_neg c18] at H
     exact absurd H (by simp)
end Go.Proofs.Ytgdiabfmjcejdaa.P
end

section
/- How the arguments of this seat's laws read, as the kinds of the printed words: an argument that the row reads has the cells of its kind, and its numbers, texts and lengths are in bounds. No condition. -/
namespace Go.Proofs.Ytgdiabfmjcejdaa.P
open Go.RowKit Go.ChangeShapes Go.WideShapes Go.Proofs.YtgdiabfmjcejdaaW.PrintWords Go.Proofs.YtgdiabfmjcejdaaW.PrintLast
set_option linter.unusedVariables false

section
variable {H : Type} {enc : TypeId × Value → H} {P : Program} {w : World} {held : Bool}

theorem list_choose {α : Type} (p : Nat → α → Prop) : ∀ n, (∀ i, i < n → ∃ y, p i y) → ∃ ys : List α, ys.length = n ∧ ∀ (i : Nat) (y : α), ys[i]? = some y → p i y := by
  intro n
  induction n with
  | zero => exact fun _ => ⟨[], rfl, fun i y h => by simp at h⟩
  | succ n ih =>
    intro h
    obtain ⟨ys, hl, hp⟩ := ih (fun i hi => h i (by omega))
    obtain ⟨z, hz⟩ := h n (by omega)
    refine ⟨ys ++ [z], by simp [hl], fun i y hy => ?_⟩
    rcases Nat.lt_or_ge i ys.length with hi | hi
    · rw [List.getElem?_append_left hi] at hy
      exact hp i y hy
    · rw [List.getElem?_append_right hi] at hy
      have h0 : i - ys.length = 0 := by
        rcases Nat.eq_zero_or_pos (i - ys.length) with h1 | h1
        · exact h1
        · rw [List.getElem?_eq_none (by simp; omega)] at hy
          cases hy
      rw [h0] at hy
      simp only [List.getElem?_cons_zero, Option.some.injEq] at hy
      subst hy
      have : i = n := by omega
      subst this
      exact hz

theorem len_cons {n : Nat} {cs : List Value} (h : cs.length = n + 1) : ∃ c t, cs = c :: t ∧ t.length = n := by
  cases cs with
  | nil => simp at h
  | cons c t => exact ⟨c, t, rfl, by simpa using h⟩

theorem opn_int {t : TypeId} {k : IntKind} (ht : P.underlying t = some (.int k)) {fuel : Nat} {cs : List Value} {x : DataW H × List MemPlace} (h : DataW.trod enc P w 0 (fun _ => true) held fuel t cs = some x) :
    ∃ y : Int, (Kd.int k).K w y cs ∧ (Lit.int k y).wf = true := by
  obtain ⟨n, hcs, _, hw⟩ := DataW.trod_int ht h
  exact ⟨n, hcs, hw⟩

theorem opn_bool {t : TypeId} (ht : P.underlying t = some .bool) {fuel : Nat} {cs : List Value} {x : DataW H × List MemPlace} (h : DataW.trod enc P w 0 (fun _ => true) held fuel t cs = some x) :
    ∃ y : Bool, Kd.bool.K w y cs ∧ True := by
  obtain ⟨b, hcs, _⟩ := DataW.trod_bool ht h
  exact ⟨b, hcs, trivial⟩

theorem opn_string {t : TypeId} (ht : P.underlying t = some .string) {fuel : Nat} {cs : List Value} {x : DataW H × List MemPlace} (h : DataW.trod enc P w 0 (fun _ => true) held fuel t cs = some x) :
    ∃ y : ByteArray, Kd.string.K w y cs ∧ y.size ≤ maxLen := by
  obtain ⟨s, hcs, _, hs⟩ := DataW.trod_string ht h
  exact ⟨s, hcs, hs⟩

theorem opn_slice {α : Type} (d : Kd α) (ok : α → Prop) {t e : TypeId} (ht : P.underlying t = some (.slice e)) (ce : P.cellsOf e = d.sz)
    (hE : ∀ {fuel : Nat} {cs : List Value} {x : DataW H × List MemPlace}, DataW.trod enc P w 0 (fun _ => true) held fuel e cs = some x → ∃ y : α, d.K w y cs ∧ ok y)
    {fuel : Nat} {cs : List Value} {x : DataW H × List MemPlace} (h : DataW.trod enc P w 0 (fun _ => true) held fuel t cs = some x) :
    ∃ ys : List α, (Kd.slice e d).K w ys cs ∧ ys.length ≤ maxLen ∧ ∀ y ∈ ys, ok y := by
  rcases Go.Deep.open_slice ht h with ⟨rfl, _⟩ | ⟨a, len, cap, m, n, D, Pl, rfl, hb, hl, hm, hmm, rfl, hx⟩
  · exact ⟨[], ⟨none, 0, rfl, Nat.le_refl _, rfl, by simp, fun h => absurd h (Nat.lt_irrefl 0)⟩, Nat.zero_le _, by simp⟩
  · simp only [if_true] at hmm
    subst hmm
    obtain ⟨ys, hyl, hy⟩ := list_choose (fun i (y : α) => (∃ cs', w.cells? 0 (a.add (i * P.cellsOf e)) (P.cellsOf e) = some cs' ∧ d.K w y cs') ∧ ok y) len (fun i hi => by
      obtain ⟨cs', h1, h2⟩ := hx i (by omega)
      obtain ⟨y, hk, ho⟩ := hE h2
      exact ⟨y, ⟨cs', h1, hk⟩, ho⟩)
    subst hyl
    refine ⟨ys, ⟨some a, m, rfl, hl, rfl, Nat.le_trans hl (by unfold maxLen at hm; exact hm), fun _ => ⟨a, rfl, fun j p hp => ?_⟩⟩, Nat.le_trans hl hm, fun y hmem => ?_⟩
    · obtain ⟨⟨cs', h1, hk⟩, _⟩ := hy j p hp
      obtain ⟨_, hlen, hcell⟩ := World.cells?_some h1
      rw [ce] at hlen hcell
      refine ⟨cs', hlen, hk, fun i u hu => ?_⟩
      have hi : i < d.sz := by
        rw [← hlen]
        exact (List.getElem?_eq_some_iff.1 hu).1
      have := hcell i hi
      rw [Go.Deep.add_add] at this
      rw [this, hu]
    · obtain ⟨i, hi⟩ := List.getElem?_of_mem hmem
      exact (hy i y hi).2
end
theorem opn_L22 {H : Type} {enc : TypeId × Value → H} {w : World} {held : Bool} {fuel : Nat} {cs : List Value} {x : DataW H × List MemPlace} (h : DataW.trod enc Try.prog w 0 (fun _ => true) held fuel 22 cs = some x) :
    ∃ y : List Int, (Kd.slice 2 (Kd.int .i64)).K w y cs ∧ y.length ≤ maxLen ∧ ∀ y0 ∈ y, (Lit.int .i64 y0).wf = true :=
  opn_slice (Kd.int .i64) (fun y0 => (Lit.int .i64 y0).wf = true) Try.underlying22 (show Try.prog.cellsOf 2 = _ by kernel_rfl) (fun h => (opn_int Try.underlying2) h) h
theorem opn_S24 {H : Type} {enc : TypeId × Value → H} {w : World} {held : Bool} {fuel : Nat} {cs : List Value} {x : DataW H × List MemPlace} (h : DataW.trod enc Try.prog w 0 (fun _ => true) held fuel 24 cs = some x) :
    ∃ y : S24, k24.K w y cs ∧ y.f0.size ≤ maxLen ∧ (y.f1.length ≤ maxLen ∧ ∀ y0 ∈ y.f1, (Lit.int .i64 y0).wf = true) ∧ (y.f2.length ≤ maxLen ∧ ∀ y0 ∈ y.f2, (Lit.int .i64 y0).wf = true) := by
  obtain ⟨xs, n, _, _, hl, hlen, hf⟩ := DataW.trod_struct Try.underlying24 h
  rw [show Try.prog.cellsOf 24 = 3 from by kernel_rfl] at hl
  obtain ⟨c0, t0, rfl, hl0⟩ := len_cons hl
  obtain ⟨c1, t1, rfl, hl1⟩ := len_cons hl0
  obtain ⟨c2, t2, rfl, hl2⟩ := len_cons hl1
  obtain rfl := List.eq_nil_of_length_eq_zero hl2
  have h0 := hf 0 _ rfl
  rw [List.getElem?_eq_getElem (show 0 < xs.length by rw [hlen]; decide)] at h0
  obtain ⟨y0, k0, w0⟩ := (opn_string Try.underlying9) (show DataW.trod enc Try.prog w 0 (fun _ => true) held n 9 [c0] = some _ from by simpa [show Try.prog.cellsOf 9 = 1 from by kernel_rfl] using h0)
  have h1 := hf 1 _ rfl
  rw [List.getElem?_eq_getElem (show 1 < xs.length by rw [hlen]; decide)] at h1
  obtain ⟨y1, k1, w1⟩ := opn_L22 (show DataW.trod enc Try.prog w 0 (fun _ => true) held n 22 [c1] = some _ from by simpa [show Try.prog.cellsOf 22 = 1 from by kernel_rfl] using h1)
  have h2 := hf 2 _ rfl
  rw [List.getElem?_eq_getElem (show 2 < xs.length by rw [hlen]; decide)] at h2
  obtain ⟨y2, k2, w2⟩ := opn_L22 (show DataW.trod enc Try.prog w 0 (fun _ => true) held n 22 [c2] = some _ from by simpa [show Try.prog.cellsOf 22 = 1 from by kernel_rfl] using h2)
  exact ⟨⟨y0, y1, y2⟩, ⟨[c0], [c1, c2], rfl, k0, ⟨[c1], [c2], rfl, k1, k2⟩⟩, w0, w1, w2⟩
end Go.Proofs.Ytgdiabfmjcejdaa.P
end

section
namespace Go.Proofs.Ytgdiabfmjcejdaa.P
open Go.RowKit Go.Proofs.Ytgdiabfmjcejdaa.P Go.Proofs.YtgdiabfmjcejdaaW.PrintWords Go.Proofs.YtgdiabfmjcejdaaW.PrintLast Go.Proofs.YtgdiabfmjcejdaaW.PrintMore
set_option linter.unusedVariables false
set_option linter.unusedSimpArgs false
theorem Ev.succ {α : Type} {g : Nat → Option α} {r : α} (h : Ev (fun k => g (k + 1)) r) : Ev g r := Ev.step (f := fun k => g (k + 1)) (fun _ => rfl) h
theorem Ev.ite_pos {α : Type} {c : Prop} [Decidable c] {f g : Nat → Option α} {r : α} (hc : c) (h : Ev f r) : Ev (fun k => if c then f k else g k) r := Ev.congr (fun _ => if_pos hc) h
theorem Ev.ite_neg {α : Type} {c : Prop} [Decidable c] {f g : Nat → Option α} {r : α} (hc : ¬ c) (h : Ev g r) : Ev (fun k => if c then f k else g k) r := Ev.congr (fun _ => if_neg hc) h
theorem Ev.bindc {α β : Type} {o : Option α} {f : Nat → α → Option β} {a : α} {r : β} (ho : o = some a) (h : Ev (fun k => f k a) r) : Ev (fun k => o.bind (f k)) r := Ev.congr (fun _ => by rw [ho]; rfl) h
theorem Ev.konst {α : Type} {o : Option α} {r : α} (h : o = some r) : Ev (fun _ => o) r := ⟨0, fun _ _ => h⟩
theorem Ev.both {α : Type} {g : Nat → Option α} {r q : α} (h : Ev g r) (h' : Ev g q) : r = q := by
  obtain ⟨a, ha⟩ := h
  obtain ⟨b, hb⟩ := h'
  have h1 := ha (max a b) (Nat.le_max_left _ _)
  have h2 := hb (max a b) (Nat.le_max_right _ _)
  rw [h1] at h2
  exact Option.some.inj h2
theorem Ev.cast {α : Type} {g : Nat → Option α} {r q : α} (h : Ev g r) (e : r = q) : Ev g q := e ▸ h
theorem Ev.out {α : Type} {g : Nat → Option α} {r : α} (h : Ev g r) : ∃ k, g k = some r := h.rounds

/-- A sum, a difference that needs no wrap. -/
theorem w64 {x : Int} (h0 : -9223372036854775808 ≤ x) (h1 : x ≤ 9223372036854775807) : wrap64 x = x := by unfold wrap64; omega
theorem mn_eq (a b : Int) : mn a b = min a b := by unfold mn; split <;> omega
theorem mx_eq (a b : Int) : mx a b = max a b := by unfold mx; split <;> omega
theorem wf64 {x : Int} (h : (Lit.int .i64 x).wf = true) : -9223372036854775808 ≤ x ∧ x ≤ 9223372036854775807 := by
  simp [Lit.wf, IntKind.min, IntKind.max, IntKind.signed, IntKind.bits] at h
  omega
theorem slices_Concat2_ev (p q : List Int) (hp : p.length ≤ 1048576) (hq : q.length ≤ 1048576) : Ev (fun k => slices_Concat_int64_int64.f k [p, q]) (p ++ q) := by
  have r0 : rd_L1 [p, q] 0 = p := rfl
  have r1 : rd_L1 [p, q] 1 = q := rfl
  have w1 : wrap64 ((0 : Int) + 1) = 1 := w64 (by omega) (by omega)
  have w2 : wrap64 ((1 : Int) + 1) = 2 := w64 (by omega) (by omega)
  have w3 : wrap64 ((0 : Int) + (p.length : Int)) = (p.length : Int) := by rw [w64 (by omega) (by omega)]; omega
  have w4 : wrap64 ((p.length : Int) + (q.length : Int)) = (p.length : Int) + (q.length : Int) := w64 (by omega) (by omega)
  have ll : (([p, q] : List (List Int)).length : Int) = 2 := rfl
  have l1 : Ev (fun k => slices_Concat_int64_int64.l1 k [] [p, q] 2 0) (p ++ q) := by
    refine Ev.succ ?_
    simp only [slices_Concat_int64_int64.l1, r0, w1, ll]
    refine Ev.ite_pos (by omega) (Ev.ite_pos (by omega) (Ev.ite_pos (by omega) (Ev.ite_pos (by simp only [List.length_nil]; omega) (Ev.succ ?_))))
    simp only [slices_Concat_int64_int64.l1, r1, w2, ll, List.nil_append]
    refine Ev.ite_pos (by omega) (Ev.ite_pos (by omega) (Ev.ite_pos (by omega) (Ev.ite_pos (by omega) (Ev.succ ?_))))
    simp only [slices_Concat_int64_int64.l1, ll]
    exact Ev.ite_neg (by omega) (Ev.now _)
  unfold slices_Concat_int64_int64.f
  rw [ll]
  refine Ev.succ ?_
  simp only [slices_Concat_int64_int64.l0, r0, w1, w3, ll]
  refine Ev.ite_pos (by omega) (Ev.ite_pos (by omega) (Ev.ite_pos (by omega) (Ev.ite_neg (by omega) (Ev.succ ?_))))
  simp only [slices_Concat_int64_int64.l0, r1, w2, w4, ll]
  refine Ev.ite_pos (by omega) (Ev.ite_pos (by omega) (Ev.ite_pos (by omega) (Ev.ite_neg (by omega) (Ev.succ ?_))))
  simp only [slices_Concat_int64_int64.l0, ll]
  refine Ev.ite_neg (by omega) (Ev.bindc (a := []) ?_ l1)
  unfold slices_Grow_int64_int64.f
  rw [if_pos ⟨rfl, by omega, by omega⟩]
theorem set_at {l : List Int} {i : Nat} {v : Int} {m : List Int} (h : i < l.length) (e : l.take i = m) : (l.set i v).take (i + 1) = m ++ [v] := by
  rw [List.take_succ_eq_append_getElem (by simpa using h)]
  simp [List.take_set_of_le, e]
theorem rd_at {l : List Int} {i : Nat} (h : i < l.length) : rd l (i : Int) = l[i] := by simp [rd, h]

theorem toInt64S_l0 (l : List Int) (hl : l.length ≤ 9223372036854775807) : ∀ (d i : Nat) (m : List Int), l.length - i = d → i ≤ l.length → m.length = l.length → m.take i = l.take i → Ev (fun k => laws_toInt64S.l0 k l m i) l := by
  intro d
  induction d with
  | zero =>
    intro i m hd hi hm ht
    have : i = l.length := by omega
    subst this
    refine Ev.succ ?_
    simp only [laws_toInt64S.l0]
    refine Ev.ite_neg (by omega) ?_
    rw [List.take_of_length_le (by omega), List.take_of_length_le (Nat.le_refl _)] at ht
    rw [ht]
    exact Ev.now _
  | succ d ih =>
    intro i m hd hi hm ht
    refine Ev.succ ?_
    simp only [laws_toInt64S.l0]
    refine Ev.ite_pos (by omega) ?_
    refine Ev.ite_pos (by omega) ?_
    refine Ev.ite_pos (by omega) ?_
    rw [w64 (x := (i : Int) + 1) (by omega) (by omega), rd_at (show i < l.length by omega), Int.toNat_natCast]
    have := ih (i + 1) (m.set i l[i]) (by omega) (by omega) (by simpa using hm) (by
      rw [set_at (by omega) ht, ← List.take_succ_eq_append_getElem (by omega)])
    simpa using this
theorem toInt64S_ev (l : List Int) (h : l.length ≤ 35184372088832) : Ev (fun k => laws_toInt64S.f k l) l := by
  unfold laws_toInt64S.f
  refine Ev.ite_pos (by omega) ?_
  refine Ev.ite_pos (by omega) ?_
  exact toInt64S_l0 l (by omega) l.length 0 _ (by omega) (by omega) (by simp) (by simp)

theorem eqInt64S_l0 (a b : List Int) (hl : a.length ≤ 9223372036854775807) (hab : a.length = b.length) : ∀ (d i : Nat), a.length - i = d → i ≤ a.length → a.take i = b.take i → Ev (fun k => laws_eqInt64S.l0 k a b i) (decide (a = b)) := by
  intro d
  induction d with
  | zero =>
    intro i hd hi ht
    refine Ev.succ ?_
    simp only [laws_eqInt64S.l0]
    refine Ev.ite_neg (by omega) ?_
    rw [List.take_of_length_le (by omega), List.take_of_length_le (by omega)] at ht
    simpa [ht] using Ev.now true
  | succ d ih =>
    intro i hd hi ht
    refine Ev.succ ?_
    simp only [laws_eqInt64S.l0]
    refine Ev.ite_pos (by omega) ?_
    refine Ev.ite_pos (by omega) ?_
    refine Ev.ite_pos (by omega) ?_
    by_cases he : rd a i = rd b i
    · refine Ev.ite_pos he ?_
      rw [w64 (x := (i : Int) + 1) (by omega) (by omega)]
      rw [rd_at (show i < a.length by omega), rd_at (show i < b.length by omega)] at he
      have := ih (i + 1) (by omega) (by omega) (by
        rw [List.take_succ_eq_append_getElem (by omega), List.take_succ_eq_append_getElem (by omega), ht, he])
      simpa using this
    · refine Ev.ite_neg he ?_
      have : ¬ a = b := fun e => he (by rw [e])
      simpa [this] using Ev.now false
theorem eqInt64S_ev (a b : List Int) (hl : a.length ≤ 9223372036854775807) : Ev (fun k => laws_eqInt64S.f k a b) (decide (a = b)) := by
  unfold laws_eqInt64S.f
  by_cases h : a.length = b.length
  · refine Ev.ite_pos (by omega) ?_
    exact eqInt64S_l0 a b hl h a.length 0 (by omega) (by omega) (by simp)
  · refine Ev.ite_neg (by omega) ?_
    have : ¬ a = b := fun e => h (by rw [e])
    simpa [this] using Ev.now false
theorem eqInt64S_self (a : List Int) (hl : a.length ≤ 9223372036854775807) : Ev (fun k => laws_eqInt64S.f k a a) true := by simpa using eqInt64S_ev a a hl

/-- The marks from v on: n of them. -/
def marks : Nat → Int → List Int
  | 0, _ => []
  | n + 1, v => v :: marks n (v + 1)
theorem marks_length : ∀ n v, (marks n v).length = n
  | 0, _ => rfl
  | n + 1, v => by simp [marks, marks_length n]
theorem marks_get : ∀ n v i, i < n → (marks n v)[i]? = some (v + i)
  | 0, _, i, h => by omega
  | n + 1, v, 0, _ => by simp [marks]
  | n + 1, v, i + 1, h => by
    simp only [marks, List.getElem?_cons_succ]
    rw [marks_get n (v + 1) i (by omega)]
    congr 1
    omega
theorem markInt64S_l0 (n : Nat) (v : Int) (hn : n ≤ 4611686018427387904) (h0 : 0 ≤ v) (hv : v ≤ 4611686018427387903) : ∀ (d i : Nat) (l : List Int), n - i = d → i ≤ n → l.length = n → (∀ j, j < i → l[j]? = some (v + j)) →
    Ev (fun k => laws_markInt64S.l0 k l (v + i) i) (v + n, marks n v) := by
  intro d
  induction d with
  | zero =>
    intro i l hd hi hl hj
    have : i = n := by omega
    subst this
    refine Ev.succ ?_
    simp only [laws_markInt64S.l0]
    refine Ev.ite_neg (by omega) ?_
    have : l = marks i v := by
      refine List.ext_getElem? fun j => ?_
      rcases Nat.lt_or_ge j i with h | h
      · rw [hj j h, marks_get i v j h]
      · rw [List.getElem?_eq_none (by omega), List.getElem?_eq_none (by rw [marks_length]; omega)]
    rw [this]
    exact Ev.now _
  | succ d ih =>
    intro i l hd hi hl hj
    refine Ev.succ ?_
    simp only [laws_markInt64S.l0]
    refine Ev.ite_pos (by omega) ?_
    refine Ev.ite_pos (by omega) ?_
    rw [w64 (x := (i : Int) + 1) (by omega) (by omega), w64 (x := v + (i : Int) + 1) (by omega) (by omega), Int.toNat_natCast]
    have := ih (i + 1) (l.set i (v + i)) (by omega) (by omega) (by simpa using hl) (fun j hj' => by
      rcases Nat.lt_or_ge j i with h | h
      · rw [List.getElem?_set_ne (by omega), hj j h]
      · have : j = i := by omega
        subst this
        rw [List.getElem?_set_self (by omega)])
    simpa [Int.add_assoc] using this
theorem markInt64S_ev (l : List Int) (v : Int) (hn : l.length ≤ 4611686018427387904) (h0 : 0 ≤ v) (hv : v ≤ 4611686018427387903) : Ev (fun k => laws_markInt64S.f k l v) (v + l.length, marks l.length v) := by
  unfold laws_markInt64S.f
  have := markInt64S_l0 l.length v hn h0 hv l.length 0 l (by omega) (by omega) rfl (fun j hj => by omega)
  simpa using this
theorem heldInt64S_l0 (n : Nat) (v : Int) (hn : n ≤ 4611686018427387904) (h0 : 0 ≤ v) (hv : v ≤ 4611686018427387903) : ∀ (d i : Nat), n - i = d → i ≤ n →
    Ev (fun k => laws_heldInt64S.l0 k (marks n v) (v + i) i) (v + n) := by
  intro d
  induction d with
  | zero =>
    intro i hd hi
    have : i = n := by omega
    subst this
    refine Ev.succ ?_
    simp only [laws_heldInt64S.l0]
    refine Ev.ite_neg (by rw [marks_length]; omega) ?_
    exact Ev.now _
  | succ d ih =>
    intro i hd hi
    refine Ev.succ ?_
    simp only [laws_heldInt64S.l0]
    refine Ev.ite_pos (by rw [marks_length]; omega) ?_
    refine Ev.ite_pos (by omega) ?_
    refine Ev.ite_pos (by
      have h := marks_get n v i (by omega)
      simp only [rd, Int.toNat_natCast, List.getD_eq_getElem?_getD, h, Option.getD_some]) ?_
    rw [w64 (x := (i : Int) + 1) (by omega) (by omega), w64 (x := v + (i : Int) + 1) (by omega) (by omega)]
    have := ih (i + 1) (by omega) (by omega)
    simpa [Int.add_assoc] using this
theorem heldInt64S_ev (n : Nat) (v : Int) (hn : n ≤ 4611686018427387904) (h0 : 0 ≤ v) (hv : v ≤ 4611686018427387903) : Ev (fun k => laws_heldInt64S.f k (marks n v) v) (v + n) := by
  unfold laws_heldInt64S.f
  have := heldInt64S_l0 n v hn h0 hv n 0 (by omega) (by omega)
  simpa using this
theorem Ev.and {α : Type} {g : Nat → Option α} {r : α} {P : Nat → Prop} (h : Ev g r) (h' : ∃ K, ∀ k, K ≤ k → P k) : ∃ K, ∀ k, K ≤ k → (g k = some r ∧ P k) := by
  obtain ⟨a, ha⟩ := h
  obtain ⟨b, hb⟩ := h'
  exact ⟨max a b, fun k hk => ⟨ha k (Nat.le_trans (Nat.le_max_left _ _) hk), hb k (Nat.le_trans (Nat.le_max_right _ _) hk)⟩⟩
def smallB (b : Int) : Bool := decide (97 ≤ b) && decide (b ≤ 122)
def digitB (b : Int) : Bool := decide (48 ≤ b) && decide (b ≤ 57)
def nameB (s : ByteArray) : Bool := decide (1 ≤ s.size) && decide (s.size ≤ 10) && smallB (bt s 0) && (List.range' 0 s.size).all fun j => smallB (bt s j) || digitB (bt s j)
theorem toList_nil (s : ByteArray) : s.toList = [] ↔ s.size = 0 := by
  rw [ByteArray.toList_eq, List.eq_nil_iff_length_eq_zero]
  exact Iff.rfl
theorem spec_l01Small_eq (b : Int) : spec_l01Small.f b = some (smallB b) := by
  unfold spec_l01Small.f smallB
  by_cases h : b ≥ 97
  · have : 97 ≤ b := h
    simp [this]
  · have : ¬ 97 ≤ b := h
    simp [this]
theorem spec_l01Digit_eq (b : Int) : spec_l01Digit.f b = some (digitB b) := by
  unfold spec_l01Digit.f digitB
  by_cases h : b ≥ 48
  · have : 48 ≤ b := h
    simp [this]
  · have : ¬ 48 ≤ b := h
    simp [this]
def bytesB (s : ByteArray) (i d : Nat) : Bool := (List.range' i d).all fun j => smallB (bt s j) || digitB (bt s j)
theorem bytesB_succ (s : ByteArray) (i d : Nat) : bytesB s i (d + 1) = ((smallB (bt s i) || digitB (bt s i)) && bytesB s (i + 1) d) := by
  simp [bytesB, List.range'_succ]
theorem spec_l01Name_l0 (s : ByteArray) (hs : s.size ≤ 10) : ∀ (d i : Nat), s.size - i = d → Ev (fun k => spec_l01Name.l0 k s i) (bytesB s i d) := by
  intro d
  induction d with
  | zero =>
    intro i hd
    refine Ev.succ ?_
    simp only [spec_l01Name.l0]
    refine Ev.ite_neg (by omega) ?_
    exact Ev.now _
  | succ d ih =>
    intro i hd
    refine Ev.succ ?_
    simp only [spec_l01Name.l0]
    refine Ev.ite_pos (by omega) ?_
    refine Ev.ite_pos (by omega) ?_
    refine Ev.bindc (spec_l01Small_eq _) ?_
    have ih' : Ev (fun k => spec_l01Name.l0 k s ((i : Int) + 1)) (bytesB s (i + 1) d) := by simpa using ih (i + 1) (by omega)
    rw [w64 (x := (i : Int) + 1) (by omega) (by omega), bytesB_succ]
    cases h : smallB (bt s i) with
    | true =>
      refine Ev.ite_pos rfl ?_
      simpa using ih'
    | false =>
      refine Ev.ite_neg (by decide) ?_
      refine Ev.bindc (spec_l01Digit_eq _) ?_
      cases h' : digitB (bt s i) with
      | true =>
        refine Ev.ite_pos rfl ?_
        simpa using ih'
      | false =>
        refine Ev.ite_neg (by decide) ?_
        simpa using Ev.now false
theorem spec_l01Name_ev (s : ByteArray) : Ev (fun k => spec_l01Name.f k s) (nameB s) := by
  unfold spec_l01Name.f nameB
  have hno : Ev (fun k => spec_l01Name.j0 k s true) false := by
    refine Ev.succ ?_
    simp only [spec_l01Name.j0]
    exact Ev.ite_pos (by simp) (Ev.now _)
  by_cases h0 : s.size = 0
  · refine Ev.ite_pos ((toList_nil s).2 h0) ?_
    exact Ev.cast hno (by simp [h0])
  refine Ev.ite_neg (fun h => h0 ((toList_nil s).1 h)) ?_
  by_cases h1 : s.size ≤ 10
  · refine Ev.ite_neg (by omega) ?_
    refine Ev.ite_pos (by omega) ?_
    refine Ev.bindc (spec_l01Small_eq _) ?_
    cases h : smallB (bt s 0) with
    | true =>
      refine Ev.succ ?_
      simp only [spec_l01Name.j0]
      refine Ev.ite_neg (by simp) ?_
      have := spec_l01Name_l0 s h1 s.size 0 (by omega)
      refine Ev.cast (by simpa using this) ?_
      have h2 : 1 ≤ s.size := by omega
      simp [bytesB, h1, h2]
    | false => exact Ev.cast hno (by simp)
  · refine Ev.ite_pos (by omega) ?_
    exact Ev.cast hno (by simp; omega)
theorem impl_onlyNameBytes_l0 (s : ByteArray) (hs : s.size ≤ 10) : ∀ (d i : Nat), s.size - i = d → Ev (fun k => impl_onlyNameBytes.l0 k s (s.size : Int) i) (bytesB s i d) := by
  intro d
  induction d with
  | zero =>
    intro i hd
    refine Ev.succ ?_
    simp only [impl_onlyNameBytes.l0]
    refine Ev.ite_neg (by omega) ?_
    exact Ev.now _
  | succ d ih =>
    intro i hd
    refine Ev.succ ?_
    simp only [impl_onlyNameBytes.l0]
    refine Ev.ite_pos (by omega) ?_
    refine Ev.ite_pos (by omega) ?_
    refine Ev.ite_pos (by omega) ?_
    have ih' : Ev (fun k => impl_onlyNameBytes.l0 k s (s.size : Int) ((i : Int) + 1)) (bytesB s (i + 1) d) := by simpa using ih (i + 1) (by omega)
    rw [w64 (x := (i : Int) + 1) (by omega) (by omega), bytesB_succ]
    have key : Ev (fun k => if bt s i < 48 then some false else if bt s i > 57 then some false else impl_onlyNameBytes.l0 k s (s.size : Int) ((i : Int) + 1)) (digitB (bt s i) && bytesB s (i + 1) d) := by
      by_cases a : bt s i < 48
      · refine Ev.ite_pos a ?_
        refine Ev.cast (Ev.now false) ?_
        have : ¬ 48 ≤ bt s i := by omega
        simp [digitB, this]
      refine Ev.ite_neg a ?_
      by_cases b : bt s i > 57
      · refine Ev.ite_pos b ?_
        refine Ev.cast (Ev.now false) ?_
        have : ¬ bt s i ≤ 57 := by omega
        simp [digitB, this]
      refine Ev.ite_neg b ?_
      refine Ev.cast ih' ?_
      have h1 : 48 ≤ bt s i := by omega
      have h2 : bt s i ≤ 57 := by omega
      simp [digitB, h1, h2]
    by_cases a : bt s i < 97
    · refine Ev.ite_pos a ?_
      refine Ev.cast key ?_
      have : ¬ 97 ≤ bt s i := by omega
      simp [smallB, this]
    refine Ev.ite_neg a ?_
    by_cases b : bt s i > 122
    · refine Ev.ite_pos b ?_
      refine Ev.cast key ?_
      have : ¬ bt s i ≤ 122 := by omega
      simp [smallB, this]
    refine Ev.ite_neg b ?_
    refine Ev.cast ih' ?_
    have h1 : 97 ≤ bt s i := by omega
    have h2 : bt s i ≤ 122 := by omega
    simp [smallB, h1, h2]
theorem impl_IsName_ev (s : ByteArray) : Ev (fun k => impl_IsName.f k s) (nameB s) := by
  unfold impl_IsName.f nameB
  by_cases h0 : s.size = 0
  · refine Ev.ite_pos (by omega) ?_
    exact Ev.cast (Ev.now false) (by simp [h0])
  refine Ev.ite_neg (by omega) ?_
  by_cases h1 : s.size ≤ 10
  · refine Ev.ite_neg (by omega) ?_
    refine Ev.ite_pos (by omega) ?_
    by_cases a : bt s 0 < 97
    · refine Ev.ite_pos a ?_
      refine Ev.cast (Ev.now false) ?_
      have : ¬ 97 ≤ bt s 0 := by omega
      simp [smallB, this]
    refine Ev.ite_neg a ?_
    by_cases b : bt s 0 > 122
    · refine Ev.ite_pos b ?_
      refine Ev.cast (Ev.now false) ?_
      have : ¬ bt s 0 ≤ 122 := by omega
      simp [smallB, this]
    refine Ev.ite_neg b ?_
    refine Ev.bind (a := bytesB s 0 s.size) ?_ ?_
    · unfold impl_onlyNameBytes.f
      simpa using impl_onlyNameBytes_l0 s h1 s.size 0 (by omega)
    · refine Ev.cast (Ev.now _) ?_
      have h2 : 1 ≤ s.size := by omega
      have h3 : 97 ≤ bt s 0 := by omega
      have h4 : bt s 0 ≤ 122 := by omega
      simp [bytesB, h1, h2, smallB, h3, h4]
  · refine Ev.ite_pos (by omega) ?_
    exact Ev.cast (Ev.now false) (by simp; omega)
def sumM (l : List Int) : Nat → Nat → Int → Int
  | 0, _, acc => acc
  | d + 1, i, acc => sumM l d (i + 1) (acc + rd l i)
theorem sumM_bound (l : List Int) (B : Int) (hB : ∀ i : Nat, i < l.length → 0 ≤ rd l i ∧ rd l i ≤ B) : ∀ (d i : Nat) (acc : Int), i + d ≤ l.length → acc ≤ sumM l d i acc ∧ sumM l d i acc ≤ acc + B * d := by
  intro d
  induction d with
  | zero => intro i acc h; simp [sumM]
  | succ d ih =>
    intro i acc h
    have := ih (i + 1) (acc + rd l i) (by omega)
    have hb := hB i (by omega)
    have e : B * ((d + 1 : Nat) : Int) = B * d + B := by rw [Int.natCast_add, Int.mul_add]; simp
    simp only [sumM]
    rw [e]
    omega
theorem spec_l17Sum_l0 (l : List Int) (hl : l.length ≤ 1048576) (hB : ∀ i : Nat, i < l.length → 0 ≤ rd l i ∧ rd l i ≤ 1048576) : ∀ (d i : Nat) (acc : Int), l.length - i = d → 0 ≤ acc → acc ≤ 1048576 * i → Ev (fun k => spec_l17Sum.l0 k l acc i) (sumM l d i acc) := by
  intro d
  induction d with
  | zero =>
    intro i acc hd h0 h1
    refine Ev.succ ?_
    simp only [spec_l17Sum.l0]
    refine Ev.ite_neg (by omega) ?_
    exact Ev.now _
  | succ d ih =>
    intro i acc hd h0 h1
    have hb := hB i (by omega)
    refine Ev.succ ?_
    simp only [spec_l17Sum.l0]
    refine Ev.ite_pos (by omega) ?_
    refine Ev.ite_pos (by omega) ?_
    rw [w64 (x := (i : Int) + 1) (by omega) (by omega), w64 (x := acc + rd l i) (by omega) (by omega)]
    simpa [sumM] using ih (i + 1) (acc + rd l i) (by omega) (by omega) (by omega)
def sumI (l : List Int) : Int := sumM l l.length 0 0
theorem spec_l17Sum_ev (l : List Int) (hl : l.length ≤ 1048576) (hB : ∀ i : Nat, i < l.length → 0 ≤ rd l i ∧ rd l i ≤ 1048576) : Ev (fun k => spec_l17Sum.f k l) (sumI l) := by
  unfold spec_l17Sum.f sumI
  simpa using spec_l17Sum_l0 l hl hB l.length 0 0 (by omega) (by omega) (by omega)
theorem all_rd {l : List Int} {q : Int → Bool} (h : l.all q = true) (i : Nat) (hi : i < l.length) : q (rd l i) = true := by
  rw [rd_at hi]
  exact List.all_eq_true.1 h _ (List.getElem_mem _)
theorem impl_sumOf_l0 (l : List Int) (hl : l.length ≤ 1048576) (hB : ∀ i : Nat, i < l.length → 0 ≤ rd l i ∧ rd l i ≤ 1048576) : ∀ (d i : Nat) (acc : Int), l.length - i = d → 0 ≤ acc → acc ≤ 1048576 * i → Ev (fun k => impl_sumOf.l0 k acc l (l.length : Int) i) (sumM l d i acc) := by
  intro d
  induction d with
  | zero =>
    intro i acc hd h0 h1
    refine Ev.succ ?_
    simp only [impl_sumOf.l0]
    refine Ev.ite_neg (by omega) ?_
    exact Ev.now _
  | succ d ih =>
    intro i acc hd h0 h1
    have hb := hB i (by omega)
    refine Ev.succ ?_
    simp only [impl_sumOf.l0]
    refine Ev.ite_pos (by omega) ?_
    refine Ev.ite_pos (by omega) ?_
    refine Ev.ite_pos (by omega) ?_
    rw [w64 (x := (i : Int) + 1) (by omega) (by omega), w64 (x := acc + rd l i) (by omega) (by omega)]
    simpa [sumM] using ih (i + 1) (acc + rd l i) (by omega) (by omega) (by omega)
theorem impl_sumOf_ev (l : List Int) (hl : l.length ≤ 1048576) (hB : ∀ i : Nat, i < l.length → 0 ≤ rd l i ∧ rd l i ≤ 1048576) : Ev (fun k => impl_sumOf.f k l) (sumI l) := by
  unfold impl_sumOf.f sumI
  simpa using impl_sumOf_l0 l hl hB l.length 0 0 (by omega) (by omega) (by omega)
theorem spec_l00In_eq (n a b : Int) : spec_l00In.f n a b = some (decide (a ≤ n) && decide (n ≤ b)) := by
  unfold spec_l00In.f
  by_cases h : n ≥ a
  · have : a ≤ n := h
    simp [this]
  · have : ¬ a ≤ n := h
    simp [this]
def secB (n : Int) : Bool := decide (1 ≤ n) && decide (n ≤ 16)
def mkB (n : Int) : Bool := decide (2 ≤ n) && decide (n ≤ 3)
def rowB (x y : List Int) (i d : Nat) : Bool := (List.range' i d).all fun j => secB (rd x j) && (if j = 0 then decide (rd y j = 1) else mkB (rd y j))
def talaB (s : ByteArray) (x y : List Int) : Bool := nameB s && (decide (1 ≤ x.length) && decide (x.length ≤ 8)) && decide (y.length = x.length) && rowB x y 0 x.length && decide (sumI x ≤ 32)
theorem rowB_succ (x y : List Int) (i d : Nat) : rowB x y i (d + 1) = ((secB (rd x i) && (if i = 0 then decide (rd y i = 1) else mkB (rd y i))) && rowB x y (i + 1) d) := by
  simp [rowB, List.range'_succ]
theorem rowB_sec {x y : List Int} (h : rowB x y 0 x.length = true) : ∀ i : Nat, i < x.length → 1 ≤ rd x i ∧ rd x i ≤ 16 := by
  intro i hi
  simp only [rowB, List.all_eq_true, List.mem_range'_1, Bool.and_eq_true] at h
  have := (h i (by omega)).1
  simpa [secB] using this
theorem spec_l17Ok_l0 (s : ByteArray) (x y : List Int) (hx : x.length ≤ 8) (hy : y.length = x.length) : ∀ (d i : Nat), x.length - i = d → rowB x y 0 i = true → i ≤ x.length → Ev (fun k => spec_l17Ok.l0 k (x.length : Int) i s x y) (rowB x y i d && decide (sumI x ≤ 32)) := by
  intro d
  induction d with
  | zero =>
    intro i hd hr hi
    have : i = x.length := by omega
    subst this
    refine Ev.succ ?_
    simp only [spec_l17Ok.l0]
    refine Ev.ite_neg (by omega) ?_
    refine Ev.bind (spec_l17Sum_ev x (by omega) (fun j hj => by have := rowB_sec hr j hj; omega)) ?_
    simpa [rowB] using Ev.now _
  | succ d ih =>
    intro i hd hr hi
    refine Ev.succ ?_
    simp only [spec_l17Ok.l0]
    refine Ev.ite_pos (by omega) ?_
    refine Ev.ite_pos (by omega) ?_
    refine Ev.ite_pos (by omega) ?_
    refine Ev.bindc (spec_l00In_eq _ _ _) ?_
    rw [w64 (x := (i : Int) + 1) (by omega) (by omega), rowB_succ]
    have hr' : secB (rd x i) = true → (if i = 0 then decide (rd y i = 1) else mkB (rd y i)) = true → rowB x y 0 (i + 1) = true := by
      intro h1 h2
      simp only [rowB, List.all_eq_true, List.mem_range'_1, Bool.and_eq_true] at hr ⊢
      intro j hj
      by_cases e : j = i
      · subst e
        exact ⟨h1, h2⟩
      · exact hr j (by omega)
    have ih' := fun h1 h2 => ih (i + 1) (by omega) (hr' h1 h2) (by omega)
    simp only [Int.natCast_add, Int.cast_ofNat_Int] at ih'
    cases h1 : (decide (1 ≤ rd x i) && decide (rd x i ≤ 16)) with
    | false =>
      refine Ev.ite_neg (by decide) ?_
      refine Ev.cast (Ev.now false) ?_
      simp [secB, h1]
    | true =>
      have h1' : secB (rd x i) = true := h1
      refine Ev.ite_pos rfl ?_
      by_cases h0 : i = 0
      · subst h0
        refine Ev.ite_pos rfl ?_
        refine Ev.ite_pos (by omega) ?_
        by_cases h2 : rd y ((0 : Nat) : Int) = 1
        · refine Ev.ite_pos h2 ?_
          refine Ev.ite_neg (by omega) ?_
          refine Ev.cast (ih' h1' (by simpa using h2)) ?_
          have h3 : rd y 0 = 1 := h2
          have h4 : secB (rd x 0) = true := h1'
          simp [h4, h3]
        · refine Ev.ite_neg h2 ?_
          refine Ev.cast (Ev.now false) ?_
          have h3 : ¬ rd y 0 = 1 := h2
          simp [h3]
      · refine Ev.ite_neg (by omega) ?_
        refine Ev.ite_pos (by omega) ?_
        refine Ev.ite_pos (by omega) ?_
        refine Ev.bindc (spec_l00In_eq _ _ _) ?_
        cases h2 : (decide (2 ≤ rd y i) && decide (rd y i ≤ 3)) with
        | false =>
          refine Ev.ite_neg (by decide) ?_
          refine Ev.cast (Ev.now false) ?_
          simp [h0, mkB, h2]
        | true =>
          have h2' : mkB (rd y i) = true := h2
          refine Ev.ite_pos rfl ?_
          refine Ev.cast (ih' h1' (by simpa [h0] using h2')) ?_
          simp [h1', h0, h2']
theorem spec_l17Ok_ev (s : ByteArray) (x y : List Int) : Ev (fun k => spec_l17Ok.f k s x y) (talaB s x y) := by
  unfold spec_l17Ok.f talaB
  have hno : Ev (fun k => spec_l17Ok.j0 k (x.length : Int) true s x y) false := by
    refine Ev.succ ?_
    simp only [spec_l17Ok.j0]
    exact Ev.ite_pos (by simp) (Ev.now _)
  refine Ev.bind (spec_l01Name_ev s) ?_
  cases h : nameB s with
  | false =>
    refine Ev.ite_neg (by decide) ?_
    exact Ev.cast hno (by simp)
  | true =>
    refine Ev.ite_pos rfl ?_
    refine Ev.bindc (spec_l00In_eq _ _ _) ?_
    by_cases h1 : 1 ≤ x.length ∧ x.length ≤ 8
    · refine Ev.ite_pos (by simp; omega) ?_
      by_cases h2 : y.length = x.length
      · refine Ev.succ ?_
        simp only [spec_l17Ok.j0]
        refine Ev.ite_neg (by simp [h2]) ?_
        have := spec_l17Ok_l0 s x y h1.2 h2 x.length 0 (by omega) (by simp [rowB]) (by omega)
        refine Ev.cast (by simpa using this) ?_
        simp [h1.1, h1.2, h2]
      · have e : ((y.length : Int) != (x.length : Int)) = true := by simp; omega
        rw [e]
        exact Ev.cast hno (by simp [h2])
    · refine Ev.ite_neg (by simp; omega) ?_
      refine Ev.cast hno ?_
      rw [Eq.comm, Bool.eq_false_iff]
      intro hh
      simp only [Bool.and_eq_true, decide_eq_true_eq] at hh
      exact h1 hh.1.1.1.2
theorem talaB_parts {s : ByteArray} {x y : List Int} (h : talaB s x y = true) : 1 ≤ x.length ∧ x.length ≤ 8 ∧ y.length = x.length ∧ rowB x y 0 x.length = true ∧ sumI x ≤ 32 := by
  simp only [talaB, Bool.and_eq_true, decide_eq_true_eq] at h
  exact ⟨h.1.1.1.2.1, h.1.1.1.2.2, h.1.1.2, h.1.2, h.2⟩
theorem impl_Tala_beats_ev (s : ByteArray) (x y : List Int) (hx : x.length ≤ 8) (h : x.all secB = true) : Ev (fun k => impl_Tala_beats.f k s x y) (sumI x) := by
  unfold impl_Tala_beats.f
  refine Ev.bind (impl_sumOf_ev x (by omega) (fun i hi => ?_)) (Ev.now _)
  have := all_rd h i hi
  simp [secB] at this
  omega
theorem impl_ValidTala_ev (s : ByteArray) (x y : List Int) : Ev (fun k => impl_ValidTala.f k s x y) (talaB s x y) := by
  unfold impl_ValidTala.f talaB
  refine Ev.bind (impl_IsName_ev s) ?_
  cases h : nameB s with
  | false =>
    refine Ev.ite_neg (by decide) ?_
    exact Ev.cast (Ev.now false) (by simp)
  | true =>
  refine Ev.ite_pos rfl ?_
  by_cases h0 : x.length < 1
  · refine Ev.ite_pos (by omega) ?_
    refine Ev.cast (Ev.now false) ?_
    have : ¬ 1 ≤ x.length := by omega
    simp [this]
  refine Ev.ite_neg (by omega) ?_
  by_cases h1 : x.length > 8
  · refine Ev.ite_pos (by omega) ?_
    refine Ev.cast (Ev.now false) ?_
    have : ¬ x.length ≤ 8 := by omega
    simp [this]
  refine Ev.ite_neg (by omega) ?_
  refine Ev.bindc (show impl_allWithin.f x 1 16 = some (x.all secB) from rfl) ?_
  have key : rowB x y 0 x.length = (x.all secB && decide (rd y 0 = 1) && (List.range' 1 (x.length - 1)).all fun j => mkB (rd y j)) := by
    rw [Bool.eq_iff_iff]
    simp only [rowB, List.all_eq_true, List.mem_range'_1, Bool.and_eq_true, decide_eq_true_eq]
    constructor
    · intro hh
      refine ⟨⟨fun a ha => ?_, ?_⟩, fun j hj => ?_⟩
      · obtain ⟨j, hj, rfl⟩ := List.getElem_of_mem ha
        have := (hh j (by omega)).1
        rwa [rd_at hj] at this
      · simpa using (hh 0 (by omega)).2
      · have := (hh j (by omega)).2
        rwa [if_neg (by omega)] at this
    · rintro ⟨⟨h1, h2⟩, h3⟩ j hj
      refine ⟨?_, ?_⟩
      · rw [rd_at (show j < x.length by omega)]
        exact h1 _ (List.getElem_mem _)
      · by_cases e : j = 0
        · rw [if_pos e]
          subst e
          simpa using h2
        · rw [if_neg e]
          exact h3 j (by omega)
  rw [key]
  cases h2 : x.all secB with
  | false =>
    refine Ev.ite_neg (by decide) ?_
    exact Ev.cast (Ev.now false) (by simp)
  | true =>
  refine Ev.ite_pos rfl ?_
  refine Ev.bind (impl_Tala_beats_ev s x y (by omega) h2) ?_
  by_cases h3 : sumI x > 32
  · refine Ev.ite_pos h3 ?_
    refine Ev.cast (Ev.now false) ?_
    have : ¬ sumI x ≤ 32 := by omega
    simp [this]
  refine Ev.ite_neg h3 ?_
  by_cases h4 : y.length = x.length
  · refine Ev.ite_pos (by omega) ?_
    refine Ev.ite_pos (by omega) ?_
    by_cases h5 : rd y 0 = 1
    · refine Ev.ite_pos h5 ?_
      refine Ev.ite_pos (by omega) ?_
      refine Ev.bindc (show impl_allWithin.f (y.drop 1) 2 3 = some ((y.drop 1).all mkB) from rfl) ?_
      refine Ev.cast (Ev.now _) ?_
      have h6 : sumI x ≤ 32 := by omega
      have h7 : 1 ≤ x.length := by omega
      have h8 : x.length ≤ 8 := by omega
      have h9 : (y.drop 1).all mkB = (List.range' 1 (x.length - 1)).all fun j => mkB (rd y j) := by
        rw [Bool.eq_iff_iff]
        simp only [List.all_eq_true, List.mem_range'_1]
        constructor
        · intro hh j hj
          rw [rd_at (show j < y.length by omega)]
          refine hh _ ?_
          rw [List.mem_iff_getElem]
          exact ⟨j - 1, by simp; omega, by rw [List.getElem_drop]; congr 1; omega⟩
        · intro hh a ha
          obtain ⟨j, hj, rfl⟩ := List.getElem_of_mem ha
          have hj' : j < y.length - 1 := by simpa using hj
          have := hh (1 + j) (by omega)
          rw [rd_at (show 1 + j < y.length by omega)] at this
          rw [List.getElem_drop]
          exact this
      rw [h9]
      simp [h4, h5, h6, h7, h8]
    · refine Ev.ite_neg h5 ?_
      exact Ev.cast (Ev.now false) (by simp [h5])
  · refine Ev.ite_neg (by omega) ?_
    exact Ev.cast (Ev.now false) (by simp [h4])
theorem laws_szInt64S_ge (l : List Int) (a : Int) (h0 : 0 ≤ a) (h1 : a ≤ 1048576) (hl : l.length ≤ 9223372036854775807) : ∃ t, laws_szInt64S.f l a = some t ∧ (t < 0 ∨ (0 ≤ t ∧ t ≤ a ∧ l.length ≤ 1048576)) := by
  unfold laws_szInt64S.f
  rw [w64 (x := a - (l.length : Int)) (by omega) (by omega)]
  by_cases h : a - (l.length : Int) < 0
  · exact ⟨-1, by rw [if_pos h], .inl (by decide)⟩
  · exact ⟨_, by rw [if_neg h], .inr (by omega)⟩
theorem laws_szTala_ge (s : ByteArray) (x y : List Int) (a : Int) (h0 : 0 ≤ a) (h1 : a ≤ 1048576) (hs : s.size ≤ maxLen) (hx : x.length ≤ maxLen) (hy : y.length ≤ maxLen) :
    ∃ t, laws_szTala.f s x y a = some t ∧ (t < 0 ∨ (0 ≤ t ∧ t ≤ a ∧ s.size ≤ 1048576 ∧ x.length ≤ 1048576 ∧ y.length ≤ 1048576)) := by
  unfold maxLen at hs hx hy
  unfold laws_szTala.f
  rw [w64 (x := a - (s.size : Int)) (by omega) (by omega)]
  by_cases h : a - (s.size : Int) < 0
  · exact ⟨-1, by rw [if_pos h], .inl (by decide)⟩
  rw [if_neg h]
  obtain ⟨t, ht, hc⟩ := laws_szInt64S_ge x (a - s.size) (by omega) (by omega) (by omega)
  rw [ht]
  simp only [Option.bind_some]
  rcases hc with hc | hc
  · exact ⟨-1, by rw [if_pos hc], .inl (by decide)⟩
  rw [if_neg (by omega)]
  obtain ⟨t', ht', hc'⟩ := laws_szInt64S_ge y t (by omega) (by omega) (by omega)
  rw [ht']
  simp only [Option.bind_some]
  rcases hc' with hc' | hc'
  · exact ⟨-1, by rw [if_pos hc'], .inl (by decide)⟩
  exact ⟨t', by rw [if_neg (by omega)], .inr (by omega)⟩
theorem laws_toTala_ev (s : ByteArray) (x y : List Int) (hx : x.length ≤ 1048576) (hy : y.length ≤ 1048576) : Ev (fun k => laws_toTala.f k s x y) (s, x, y) := by
  unfold laws_toTala.f
  exact Ev.bind (toInt64S_ev x (by omega)) (Ev.bind (toInt64S_ev y (by omega)) (Ev.now _))
theorem laws_eqTala_self (s : ByteArray) (x y : List Int) (hx : x.length ≤ 1048576) (hy : y.length ≤ 1048576) : Ev (fun k => laws_eqTala.f k s x y s x y) true := by
  unfold laws_eqTala.f
  refine Ev.ite_pos rfl ?_
  refine Ev.bind (eqInt64S_self x (by omega)) ?_
  refine Ev.ite_pos rfl ?_
  refine Ev.bind (eqInt64S_self y (by omega)) ?_
  exact Ev.ite_pos rfl (Ev.now _)
end Go.Proofs.Ytgdiabfmjcejdaa.P
end
