/- Texts of this seat, merged: QSlicesContainsfuncInt64Int64133, QImplReasonAny, QImplToneof, QImplRagaReason, QPreSh, QImplWithin, QSlicesIndexfuncInt64Int64164, QSlicesContainsfuncInt64Int64149, QImplAllwithin, QImplMostrepeats, QPreDn. -/
import Derived.Test.YtinlejhffokbaaaGSM1
section
namespace Go.Proofs.Ytinlejhffokbaaa.P
open Go.RowKit Go.Proofs.YtinlejhffokbaaaW.PrintWords Go.Proofs.YtinlejhffokbaaaW.PrintLast Go.Proofs.YtinlejhffokbaaaW.PrintMore
attribute [local go_sem] max2_int min2_int max_two min_two max_three min_three max_four min_four
set_option linter.unusedVariables false
set_option linter.unusedSimpArgs false
set_option maxHeartbeats 16000000
set_option maxRecDepth 100000
theorem slices_ContainsFunc_int64_int64_133.calls (g : Nat) (lb : Array Value) (eg : ∀ args w, (callFunc g args).run Try.prog w = .ok (.enter g args) w) (V : Nat → Value) (p : Nat → Bool) (A : Option Addr) (n c : Nat) (w : World) (hn : n ≤ 9223372036854775807)
    (hA : 0 < n → ∃ ad, A = some ad ∧ ∀ j, j < n → w.cell? (ad.add j) = some (V j))
    (hp : ∀ W j, j < n → Below w.heap.size w W → Calls Try.prog g (#[V j] ++ lb) W fun e w' => e = .returned (.bool (p j)) ∧ Below w.heap.size w w') :
    Calls Try.prog 133 #[.slice A n c, .func (.func g) #[] lb] w fun e w' => e = .returned (.bool ((List.range n).any p)) ∧ Below w.heap.size w w' := by
  have hc := slices_IndexFunc_int64_int64_156.calls g lb eg V p A n c w hn hA hp; rw [← fstIdx_any]; clear eg hA hp; go_enter Try.func133, Try.ntmps133; go_wp2_with ((with_reducible refine hc.mono ?_); rintro e w' ⟨rfl, hb'⟩)
  go_ret
  exact ⟨rfl, hb'⟩
def impl_reason_any.f (l0 : List (List Int)) (a1 a2 : Int) : Option Bool := if (l0.all fun p => (impl_Raga_reason_1.f p a1 a2).isSome) = true then some (l0.any fun p => impl_Raga_reason_1.f p a1 a2 == some true) else none
theorem impl_reason_any.calls (A0 : Option Addr) (c0 : Nat) (l0 : List (List Int)) (g1 : Nat) (a1 : Int) (g2 : Nat) (a2 : Int) (r : Bool) (w : World) (hr0 : Kd.C (Kd.slice 2 (Kd.int .i64)) w A0 l0.length l0) (hc0 : l0.length ≤ c0) (hp1 : w.heap[g1]? = some (.cells #[.int .i64 a1] 2 (0, 0))) (hp2 : w.heap[g2]? = some (.cells #[.int .i64 a2] 2 (0, 0))) (h : impl_reason_any.f l0 a1 a2 = some r) :
    Calls Try.prog 133 #[.slice A0 l0.length c0, .func (.func 147) #[] #[.pointer (some ⟨g1, 0, none⟩), .pointer (some ⟨g2, 0, none⟩)]] w fun e w' => e = .returned (.bool r) ∧ Below w.heap.size w w' := by
  unfold impl_reason_any.f at h
  split at h
  · rename_i ha
    have hr := Option.some.inj h
    have hs : ∀ j, j < l0.length → impl_Raga_reason_1.f (l0.getD j []) a1 a2 = some (impl_Raga_reason_1.f (l0.getD j []) a1 a2 == some true) := by
      intro j hj
      have h1 := List.all_eq_true.1 ha (l0.getD j []) (by
        rw [List.getD_eq_getElem?_getD, List.getElem?_eq_getElem hj]
        exact List.getElem_mem hj)
      obtain ⟨b, hb⟩ := Option.isSome_iff_exists.1 h1; rw [hb]
      cases b <;> rfl
    have hC := slices_ContainsFunc_int64_int64_133.calls 147 #[.pointer (some ⟨g1, 0, none⟩), .pointer (some ⟨g2, 0, none⟩)] (enters_of Try.func147 (by kernel_rfl) rfl) (fun j => match A0 with | some ad => (w.cell? (ad.add j)).getD (.bool false) | none => .bool false) (fun j => impl_Raga_reason_1.f (l0.getD j []) a1 a2 == some true) A0 l0.length c0 w hr0.2.1
      (fun h0 => by
        obtain ⟨ad, rfl, _⟩ := hr0.2.2 h0; refine ⟨ad, rfl, fun j hj => ?_⟩; obtain ⟨ad', A1, c1, he, hx, _⟩ := at_L1 hr0 (j : Int) (by omega) (by omega)
        cases he
        simp only [Int.toNat_natCast] at hx
        simp only [hx, Option.getD_some])
      (fun W j hj hb => by
        obtain ⟨ad, A1, c1, he, hx, hl, hC1⟩ := at_L1 hr0 (j : Int) (by omega) (by omega); subst he; simp only [Int.toNat_natCast] at hx; have e : rd_L1 l0 (j : Int) = l0.getD j [] := rfl; rw [e] at hx hl hC1; simp only [hx, Option.getD_some]
        exact (impl_Raga_reason_1.calls A1 c1 (l0.getD j []) g1 a1 g2 a2 _ W (Kd.C_below hC1 hb) hl (blk_below hp1 hb) (blk_below hp2 hb) (hs j hj)).mono fun e w' ⟨he, nd, hw⟩ => ⟨he, by subst hw; exact pw_below_drewN hb _⟩)
    rw [range_any_list l0 [] (fun p => impl_Raga_reason_1.f p a1 a2 == some true), hr] at hC; exact hC
  · exact absurd h (by simp)
def impl_ToneOf.f (a0 : Int) : Option (Int) := some (Int.tmod (wrap64 ((Int.tmod a0 12) + 12)) 12)
theorem impl_ToneOf.calls (a0 : Int) (r : Int) (w : World) (h : impl_ToneOf.f a0 = some r) :
  Calls Try.prog 70 #[.int .i64 a0] w fun e w' => e = .returned (.int .i64 r) ∧ Drawn0 w w' := by
 have H : (some (Int.tmod (wrap64 ((Int.tmod a0 12) + 12)) 12)) = some r := h; clear h; obtain rfl := Option.some.inj H; go_enter Try.func70, Try.ntmps70; go_wp2
 go_ret
 exact ⟨sv_, dr_⟩
def IsS2 (w0 W : World) (g : Nat) (f0 : Int) : Prop := W.heap[g]? = some (.cells #[.int .i64 f0] 2 (0, 0)) ∧ w0.heap.size ≤ g
theorem IsS2.grown {w0 W : World} {g : Nat} {f0 : Int} {W1 : World} {row : Option Nat} (h : IsS2 w0 W g f0) (hw : W.grownBy W1 row) (hne : some g ≠ row) : IsS2 w0 W1 g f0 := by
 obtain ⟨hb, hg⟩ := h; exact ⟨blk_grown hb hw hne, hg⟩
theorem IsS2.fresh {w0 W : World} {g : Nat} {f0 : Int} (h : IsS2 w0 W g f0) : ∀ k, W.heap.size ≤ k → k ≠ g := by
 obtain ⟨hb, hg⟩ := h; exact Kd.freshB hb
theorem IsS2.below {w0 W : World} {g : Nat} {f0 : Int} {W1 : World} (h : IsS2 w0 W g f0) (hw : Below W.heap.size W W1) : IsS2 w0 W1 g f0 := h.grown (grown_of_below hw none) (by simp)
theorem IsS2.alloc {w0 W : World} {g : Nat} {f0 : Int} (h : IsS2 w0 W g f0) (o : Obj) : IsS2 w0 (W.alloc o) g f0 := h.below (below_alloc (Below.refl _ _) o)
theorem IsS2.drewN {w0 W : World} {g : Nat} {f0 : Int} (h : IsS2 w0 W g f0) (m : Nat) : IsS2 w0 (W.drewN m) g f0 := h
theorem IsS2.drew {w0 W : World} {g : Nat} {f0 : Int} (h : IsS2 w0 W g f0) : IsS2 w0 W.drew g f0 := h
theorem IsS2.at_ {w0 W : World} {g : Nat} {f0 : Int} {w' : World} {m : Nat} (hq : W.drewN m = w') (h : IsS2 w0 W g f0) : IsS2 w0 w' g f0 := by subst hq; exact IsS2.drewN h m
theorem IsS2.ge {w0 W : World} {g : Nat} {f0 : Int} (h : IsS2 w0 W g f0) : w0.heap.size ≤ g := by
 obtain ⟨hb, hg⟩ := h; exact hg
theorem IsS2.new (w0 W : World) (f0 : Int) (hB : Below w0.heap.size w0 W) : IsS2 w0 (W.alloc (.cells #[.int .i64 f0] 2)) W.heap.size f0 := ⟨by simpa using heap_alloc_new W _, hB.size⟩

mutual
def impl_Raga_reason.j0 : Nat → Int → Int → Bool → ByteArray → List Int → List Int → Int → Int → List (List Int) → Int → Int → Option (Int)
 | 0, _, _, _, _, _, _, _, _, _, _, _ => none
 | k + 1, x1, x2, x13, x279000, x279001, x279002, x279003, x279004, x279005, x282000, x283000 => if x13 = true then (some 1) else ((impl_abs.f (wrap64 (x1 - x2))).bind fun t285 => (if t285 > 12 then (some 2) else (if x2 > x1 then ((slices_Contains_int64_int64.f k x279001 x283000).bind fun t286 => (impl_Raga_reason.j1 k x1 x2 (!t286) x279000 x279001 x279002 x279003 x279004 x279005 x282000 x283000)) else (impl_Raga_reason.j1 k x1 x2 false x279000 x279001 x279002 x279003 x279004 x279005 x282000 x283000))))
def impl_Raga_reason.j1 : Nat → Int → Int → Bool → ByteArray → List Int → List Int → Int → Int → List (List Int) → Int → Int → Option (Int)
 | 0, _, _, _, _, _, _, _, _, _, _, _ => none
 | k + 1, x1, x2, x30, x279000, x279001, x279002, x279003, x279004, x279005, x282000, x283000 => if x30 = true then (some 3) else (if x2 < x1 then ((slices_Contains_int64_int64.f k x279002 x283000).bind fun t287 => (impl_Raga_reason.j2 k (!t287) x279000 x279001 x279002 x279003 x279004 x279005 x282000 x283000)) else (impl_Raga_reason.j2 k false x279000 x279001 x279002 x279003 x279004 x279005 x282000 x283000))
def impl_Raga_reason.j2 : Nat → Bool → ByteArray → List Int → List Int → Int → Int → List (List Int) → Int → Int → Option (Int)
 | 0, _, _, _, _, _, _, _, _, _ => none
 | k + 1, x41, x279000, x279001, x279002, x279003, x279004, x279005, x282000, x283000 => if x41 = true then (some 4) else ((impl_reason_any.f x279005 x282000 x283000).bind fun t288 => (if t288 = true then (some 5) else (some 0)))
end
def impl_Raga_reason.f (k : Nat) (a0_0 : ByteArray) (l0_1 : List Int) (l0_2 : List Int) (a0_3 : Int) (a0_4 : Int) (l0_5 : List (List Int)) (a1 : Int) (a2 : Int) : Option (Int) := (impl_ToneOf.f a1).bind fun t279 => ((impl_ToneOf.f a2).bind fun t280 => ((impl_Raga_hasTone.f k a0_0 l0_1 l0_2 a0_3 a0_4 l0_5 t279).bind fun t283 => (if t283 = true then ((impl_Raga_hasTone.f k a0_0 l0_1 l0_2 a0_3 a0_4 l0_5 t280).bind fun t284 => (impl_Raga_reason.j0 k a1 a2 (!t284) a0_0 l0_1 l0_2 a0_3 a0_4 l0_5 t279 t280)) else (impl_Raga_reason.j0 k a1 a2 true a0_0 l0_1 l0_2 a0_3 a0_4 l0_5 t279 t280))))
theorem impl_Raga_reason.calls (k : Nat) (a0_0 : ByteArray) (A0_1 : Option Addr) (c0_1 : Nat) (l0_1 : List Int) (A0_2 : Option Addr) (c0_2 : Nat) (l0_2 : List Int) (a0_3 : Int) (a0_4 : Int) (A0_5 : Option Addr) (c0_5 : Nat) (l0_5 : List (List Int)) (a1 : Int) (a2 : Int) (r : Int) (w : World) (hr0_1 : Kd.C (Kd.int .i64) w A0_1 l0_1.length l0_1) (hc0_1 : l0_1.length ≤ c0_1) (hr0_2 : Kd.C (Kd.int .i64) w A0_2 l0_2.length l0_2) (hc0_2 : l0_2.length ≤ c0_2) (hr0_5 : Kd.C (Kd.slice 2 (Kd.int .i64)) w A0_5 l0_5.length l0_5) (hc0_5 : l0_5.length ≤ c0_5) (h : impl_Raga_reason.f k a0_0 l0_1 l0_2 a0_3 a0_4 l0_5 a1 a2 = some r) :
  Calls Try.prog 120 #[.agg #[.string a0_0, .slice A0_1 l0_1.length c0_1, .slice A0_2 l0_2.length c0_2, .int .i64 a0_3, .int .i64 a0_4, .slice A0_5 l0_5.length c0_5], .int .i64 a1, .int .i64 a2] w fun e w' => e = .returned (.int .i64 r) ∧ Below w.heap.size w w' := by
 have hu29 := Try.underlying29; have HR0_1 := Aside0.mk hr0_1; have HC0_1 := Aside0.mk hc0_1; clear hr0_1 hc0_1; have HR0_2 := Aside0.mk hr0_2; have HC0_2 := Aside0.mk hc0_2; clear hr0_2 hc0_2; have HR0_5 := Aside0.mk hr0_5; have HC0_5 := Aside0.mk hc0_5; clear hr0_5 hc0_5; have HB := Aside0.mk (Below.refl w.heap.size w); have H : ((impl_ToneOf.f a1).bind fun t279 => ((impl_ToneOf.f a2).bind fun t280 => ((impl_Raga_hasTone.f k a0_0 l0_1 l0_2 a0_3 a0_4 l0_5 t279).bind fun t283 => (if t283 = true then ((impl_Raga_hasTone.f k a0_0 l0_1 l0_2 a0_3 a0_4 l0_5 t280).bind fun t284 => (impl_Raga_reason.j0 k a1 a2 (!t284) a0_0 l0_1 l0_2 a0_3 a0_4 l0_5 t279 t280)) else (impl_Raga_reason.j0 k a1 a2 true a0_0 l0_1 l0_2 a0_3 a0_4 l0_5 t279 t280))))) = some r := h; clear h; replace H := Option.bind_eq_some_iff.mp H; obtain ⟨t279, A40, H⟩ := H; (try dsimp only at H); have A4 := Aside0.mk A40; clear A40; replace H := Option.bind_eq_some_iff.mp H; obtain ⟨t280, A50, H⟩ := H; (try dsimp only at H); have A5 := Aside0.mk A50; clear A50; have HC6 := Aside0.mk H; clear H; go_enter Try.func120, Try.ntmps120
 go_upto_region 2 with (first | ((with_reducible refine gate_dst (N := 3) rfl ?_); refine box_event ?hg (N := 3) ?hd (cs := #[.string a0_0, .slice A0_1 l0_1.length c0_1, .slice A0_2 l0_2.length c0_2, .int .i64 a0_3, .int .i64 a0_4, .slice A0_5 l0_5.length c0_5]) (t := 29) ?hr ?_; (case hd => rfl); (case hg => rfl); (case hr => first | (go_simp; done) | (go_simp; rfl)); intro gb278 hg w7 hbox hb; have n0_ := Aside0.mk (below_step (ba_ HB.out) hb); have n1_ := Aside0.mk (hbox); have n2_ := Aside0.mk ((by rw [hg]; exact (below_size (ba_ HB.out)) : w.heap.size ≤ gb278)); have n3_ := Aside0.mk ((by rw [hg]; exact (below_size (ba_ HB.out)) : w.heap.size ≤ gb278)); clear HB; have HB := n0_; have BK278 := n1_; have GW278 := n2_; have GE278 := n3_; clear n0_ n1_ n2_ n3_; clear hb hbox hg) | ((with_reducible refine gate_callee (f := 70) rfl ?_); refine goesL_ (some 10) rfl rfl Try.func70 (by kernel_rfl) rfl #[.int .i64 a1] rfl av_ ?_; (with_reducible refine (impl_ToneOf.calls a1 t279 _ A4.out).mono ?_); rintro e w' ⟨rfl, ⟨nd, rfl⟩⟩; refine ⟨_, rfl, ?_⟩; (try (rw [drewN_self w7]; generalize hq_ : World.drewN w7 _ = w7; have n0_ : Aside0 (w7.heap[gb278]? = some (.cells #[.string a0_0, .slice A0_1 l0_1.length c0_1, .slice A0_2 l0_2.length c0_2, .int .i64 a0_3, .int .i64 a0_4, .slice A0_5 l0_5.length c0_5] 29 (0, 0))) := ⟨by rw [← hq_]; exact (by repeat first | exact BK278.out | refine blk_drewN ?_ _ | refine blk_drew ?_ | refine blk_alloc ?_ _)⟩; have n1_ : Aside0 (Below w.heap.size w w7) := ⟨by rw [← hq_]; exact (bg_ HB.out GE278.out)⟩; clear BK278 HB hq_; have BK278 := n0_; have HB := n1_; clear n0_ n1_))) | ((with_reducible refine gate_callee (f := 70) rfl ?_); refine goesL_ (some 12) rfl rfl Try.func70 (by kernel_rfl) rfl #[.int .i64 a2] rfl av_ ?_; (with_reducible refine (impl_ToneOf.calls a2 t280 _ A5.out).mono ?_); rintro e w' ⟨rfl, ⟨nd, rfl⟩⟩; refine ⟨_, rfl, ?_⟩; (try (rw [drewN_self w7]; generalize hq_ : World.drewN w7 _ = w7; have n0_ : Aside0 (w7.heap[gb278]? = some (.cells #[.string a0_0, .slice A0_1 l0_1.length c0_1, .slice A0_2 l0_2.length c0_2, .int .i64 a0_3, .int .i64 a0_4, .slice A0_5 l0_5.length c0_5] 29 (0, 0))) := ⟨by rw [← hq_]; exact (by repeat first | exact BK278.out | refine blk_drewN ?_ _ | refine blk_drew ?_ | refine blk_alloc ?_ _)⟩; have n1_ : Aside0 (Below w.heap.size w w7) := ⟨by rw [← hq_]; exact (bg_ HB.out GE278.out)⟩; clear BK278 HB hq_; have BK278 := n0_; have HB := n1_; clear n0_ n1_))) | ((with_reducible refine gate_dst (N := 7) rfl ?_); refine box_event ?hg (N := 7) ?hd (cs := #[.int .i64 0]) (t := 2) ?hr ?_; (case hd => rfl); (case hg => rfl); (case hr => first | (go_simp; done) | (go_simp; rfl)); intro gb281 hg w8 hbox hb; have n0_ := Aside0.mk (blk_below (g := gb278) (o := .cells #[.string a0_0, .slice A0_1 l0_1.length c0_1, .slice A0_2 l0_2.length c0_2, .int .i64 a0_3, .int .i64 a0_4, .slice A0_5 l0_5.length c0_5] 29 (0, 0)) (by repeat first | exact BK278.out | refine blk_drewN ?_ _ | refine blk_drew ?_ | refine blk_alloc ?_ _) hb); have n1_ := Aside0.mk (below_step (bg_ HB.out GE278.out) hb); have n2_ := Aside0.mk (hbox); have n3_ := Aside0.mk ((by rw [hg]; exact (below_size (bg_ HB.out GE278.out)) : w.heap.size ≤ gb281)); have n4_ := Aside0.mk ((by rw [hg]; exact (below_size (bg_ HB.out GE278.out)) : w.heap.size ≤ gb281)); have n5_ := Aside0.mk ((by rw [hg]; exact Nat.ne_of_lt (blk_lt (g := gb278) (o := .cells #[.string a0_0, .slice A0_1 l0_1.length c0_1, .slice A0_2 l0_2.length c0_2, .int .i64 a0_3, .int .i64 a0_4, .slice A0_5 l0_5.length c0_5] 29 (0, 0)) (by repeat first | exact BK278.out | refine blk_drewN ?_ _ | refine blk_drew ?_ | refine blk_alloc ?_ _)) : gb278 ≠ gb281)); have n6_ := Aside0.mk ((by rw [hg]; exact Nat.ne_of_gt (blk_lt (g := gb278) (o := .cells #[.string a0_0, .slice A0_1 l0_1.length c0_1, .slice A0_2 l0_2.length c0_2, .int .i64 a0_3, .int .i64 a0_4, .slice A0_5 l0_5.length c0_5] 29 (0, 0)) (by repeat first | exact BK278.out | refine blk_drewN ?_ _ | refine blk_drew ?_ | refine blk_alloc ?_ _)) : gb281 ≠ gb278)); clear BK278; clear HB; have BK278 := n0_; have HB := n1_; have BK281 := n2_; have GW281 := n3_; have GE281 := n4_; have NB278_281 := n5_; have NB281_278 := n6_; clear n0_ n1_ n2_ n3_ n4_ n5_ n6_; clear hb hbox hg) | ((with_reducible refine gate_dst (N := 8) rfl ?_); refine box_event ?hg (N := 8) ?hd (cs := #[.int .i64 0]) (t := 2) ?hr ?_; (case hd => rfl); (case hg => rfl); (case hr => first | (go_simp; done) | (go_simp; rfl)); intro gb282 hg w9 hbox hb; have n0_ := Aside0.mk (blk_below (g := gb278) (o := .cells #[.string a0_0, .slice A0_1 l0_1.length c0_1, .slice A0_2 l0_2.length c0_2, .int .i64 a0_3, .int .i64 a0_4, .slice A0_5 l0_5.length c0_5] 29 (0, 0)) (by repeat first | exact BK278.out | refine blk_drewN ?_ _ | refine blk_drew ?_ | refine blk_alloc ?_ _) hb); have n1_ := Aside0.mk (blk_below (g := gb281) (o := .cells #[.int .i64 0] 2 (0, 0)) (by repeat first | exact BK281.out | refine blk_drewN ?_ _ | refine blk_drew ?_ | refine blk_alloc ?_ _) hb); have n2_ := Aside0.mk (below_step (bh_ HB.out GE278.out GE281.out) hb); have n3_ := Aside0.mk (hbox); have n4_ := Aside0.mk ((by rw [hg]; exact (below_size (bh_ HB.out GE278.out GE281.out)) : w.heap.size ≤ gb282)); have n5_ := Aside0.mk ((by rw [hg]; exact (below_size (bh_ HB.out GE278.out GE281.out)) : w.heap.size ≤ gb282)); have n6_ := Aside0.mk ((by rw [hg]; exact Nat.ne_of_lt (blk_lt (g := gb278) (o := .cells #[.string a0_0, .slice A0_1 l0_1.length c0_1, .slice A0_2 l0_2.length c0_2, .int .i64 a0_3, .int .i64 a0_4, .slice A0_5 l0_5.length c0_5] 29 (0, 0)) (by repeat first | exact BK278.out | refine blk_drewN ?_ _ | refine blk_drew ?_ | refine blk_alloc ?_ _)) : gb278 ≠ gb282)); have n7_ := Aside0.mk ((by rw [hg]; exact Nat.ne_of_gt (blk_lt (g := gb278) (o := .cells #[.string a0_0, .slice A0_1 l0_1.length c0_1, .slice A0_2 l0_2.length c0_2, .int .i64 a0_3, .int .i64 a0_4, .slice A0_5 l0_5.length c0_5] 29 (0, 0)) (by repeat first | exact BK278.out | refine blk_drewN ?_ _ | refine blk_drew ?_ | refine blk_alloc ?_ _)) : gb282 ≠ gb278)); have n8_ := Aside0.mk ((by rw [hg]; exact Nat.ne_of_lt (blk_lt (g := gb281) (o := .cells #[.int .i64 0] 2 (0, 0)) (by repeat first | exact BK281.out | refine blk_drewN ?_ _ | refine blk_drew ?_ | refine blk_alloc ?_ _)) : gb281 ≠ gb282)); have n9_ := Aside0.mk ((by rw [hg]; exact Nat.ne_of_gt (blk_lt (g := gb281) (o := .cells #[.int .i64 0] 2 (0, 0)) (by repeat first | exact BK281.out | refine blk_drewN ?_ _ | refine blk_drew ?_ | refine blk_alloc ?_ _)) : gb282 ≠ gb281)); clear BK278; clear BK281; clear HB; have BK278 := n0_; have BK281 := n1_; have HB := n2_; have BK282 := n3_; have GW282 := n4_; have GE282 := n5_; have NB278_282 := n6_; have NB282_278 := n7_; have NB281_282 := n8_; have NB282_281 := n9_; clear n0_ n1_ n2_ n3_ n4_ n5_ n6_ n7_ n8_ n9_; clear hb hbox hg; have hnb10 := NB281_278.out; have hnc10 := NB278_281.out; have hnb11 := NB281_282.out; have hnc11 := NB282_281.out; have hcz12_0 : w9.cell? ⟨gb281, 0, none⟩ = some (.int .i64 0) := (blk_cell BK281.out 0).trans rfl; have hfz12_0 := blk_frozen BK281.out 0; have hnb13 := NB282_278.out; have hnc13 := NB278_282.out; have hcz14_0 : w9.cell? ⟨gb282, 0, none⟩ = some (.int .i64 0) := (blk_cell BK282.out 0).trans rfl; have hfz14_0 := blk_frozen BK282.out 0))
 (try simp only [Act.put, List.setIfInBounds_toArray, List.set_cons_zero, List.set_cons_succ])
 go_cut [13] (fun v13 wc => ∃ (kq : Nat) (x13_5 : Bool), v13 = .bool x13_5 ∧ Aside0 (impl_Raga_reason.j0 kq a1 a2 x13_5 a0_0 l0_1 l0_2 a0_3 a0_4 l0_5 t279 t280 = some r) ∧ Aside0 (kq ≤ k) ∧ Aside0 (wc.heap[gb278]? = some (.cells #[.string a0_0, (.slice A0_1 l0_1.length c0_1), (.slice A0_2 l0_2.length c0_2), .int .i64 a0_3, .int .i64 a0_4, (.slice A0_5 l0_5.length c0_5)] 29 (0, 0))) ∧ Aside0 (wc.heap[gb281]? = some (.cells #[.int .i64 t279] 2 (0, 0))) ∧ Aside0 (wc.heap[gb282]? = some (.cells #[.int .i64 t280] 2 (0, 0))) ∧ Aside0 (Below w.heap.size w wc))
 case first =>
  have H := HC6.out; clear HC6; replace H := Option.bind_eq_some_iff.mp H; obtain ⟨t283, A150, H⟩ := H; (try dsimp only at H); have A15 := Aside0.mk A150; clear A150
  by_cases c16 : t283 = true
  ·subst c16; rw [if_pos rfl] at H; replace H := Option.bind_eq_some_iff.mp H; obtain ⟨t284, A170, H⟩ := H; (try dsimp only at H); have A17 := Aside0.mk A170; clear A170; have H' := Aside0.mk H; clear H; have hnb18 := NB278_281.out; have hnc18 := NB281_278.out; have hnb19 := NB278_282.out; have hnc19 := NB282_278.out; obtain ⟨hcz20_0, hcz20_1, hcz20_2, hcz20_3, hcz20_4, hcz20_5, hfz20_0⟩ := bx6_ (w := w9) BK278.out; have hnb21 := NB281_282.out; have hnc21 := NB282_281.out; have hcz22_0 : w9.cell? ⟨gb281, 0, none⟩ = some (.int .i64 0) := (blk_cell BK281.out 0).trans rfl; have hfz22_0 := blk_frozen BK281.out 0; go_wp2_with (first | ((with_reducible refine gate_callee (f := 69) rfl ?_); refine goesL_ (some 16) rfl rfl Try.func69 (by kernel_rfl) rfl #[.agg #[.string a0_0, .slice A0_1 l0_1.length c0_1, .slice A0_2 l0_2.length c0_2, .int .i64 a0_3, .int .i64 a0_4, .slice A0_5 l0_5.length c0_5], .int .i64 t279] rfl av_ ?_; (with_reducible refine (impl_Raga_hasTone.calls k a0_0 _ _ l0_1 _ _ l0_2 a0_3 a0_4 _ _ l0_5 t279 true _ ?side1 HC0_1.out ?side3 HC0_2.out ?side5 HC0_5.out A15.out).mono ?_); (case side1 => exact Kd.C_below HR0_1.out (bi_ HB.out GE278.out GE281.out GE282.out)); (case side3 => exact Kd.C_below HR0_2.out (bi_ HB.out GE278.out GE281.out GE282.out)); (case side5 => exact Kd.C_below HR0_5.out (bi_ HB.out GE278.out GE281.out GE282.out)); rintro e w23 ⟨rfl, hb⟩; refine ⟨_, rfl, ?_⟩; have n0_ := Aside0.mk (blk_below (g := gb278) (o := .cells #[.string a0_0, .slice A0_1 l0_1.length c0_1, .slice A0_2 l0_2.length c0_2, .int .i64 a0_3, .int .i64 a0_4, .slice A0_5 l0_5.length c0_5] 29 (0, 0)) (by (with_reducible repeat (first | refine blk_drewN ?_ _ | refine blk_drew ?_ | refine blk_alloc ?_ _)); refine blk_far ?_ NB278_282.out _; (with_reducible repeat (first | refine blk_drewN ?_ _ | refine blk_drew ?_ | refine blk_alloc ?_ _)); refine blk_far ?_ NB278_281.out _; exact bk_ BK278.out) hb); have n1_ := Aside0.mk (blk_below (g := gb281) (o := .cells #[.int .i64 t279] 2 (0, 0)) (by (with_reducible repeat (first | refine blk_drewN ?_ _ | refine blk_drew ?_ | refine blk_alloc ?_ _)); refine blk_far ?_ NB281_282.out _; (with_reducible repeat (first | refine blk_drewN ?_ _ | refine blk_drew ?_ | refine blk_alloc ?_ _)); refine blk_put (cs := #[.int .i64 0]) ?_ 0 _ rfl; exact bk_ BK281.out) hb); have n2_ := Aside0.mk (blk_below (g := gb282) (o := .cells #[.int .i64 t280] 2 (0, 0)) (by (with_reducible repeat (first | refine blk_drewN ?_ _ | refine blk_drew ?_ | refine blk_alloc ?_ _)); refine blk_put (cs := #[.int .i64 0]) ?_ 0 _ rfl; (with_reducible repeat (first | refine blk_drewN ?_ _ | refine blk_drew ?_ | refine blk_alloc ?_ _)); refine blk_far ?_ NB282_281.out _; exact bk_ BK282.out) hb); have n3_ := Aside0.mk (below_step (bi_ HB.out GE278.out GE281.out GE282.out) hb); clear BK278; clear BK281; clear BK282; clear HB; have BK278 := n0_; have BK281 := n1_; have BK282 := n2_; have HB := n3_; clear n0_ n1_ n2_ n3_; (try clear hb); (try clear hb2); (try clear hk); (try clear hi); obtain ⟨hcz24_0, hcz24_1, hcz24_2, hcz24_3, hcz24_4, hcz24_5, hfz24_0⟩ := bx6_ (w := w23) BK278.out; have hcz25_0 : w23.cell? ⟨gb282, 0, none⟩ = some (.int .i64 t280) := (blk_cell BK282.out 0).trans rfl; have hfz25_0 := blk_frozen BK282.out 0) | (go_at_call 69; (with_reducible refine (impl_Raga_hasTone.calls k a0_0 _ _ l0_1 _ _ l0_2 a0_3 a0_4 _ _ l0_5 t280 t284 _ ?side1 HC0_1.out ?side3 HC0_2.out ?side5 HC0_5.out A17.out).mono ?_); (case side1 => exact (Kd.C_below HR0_1.out HB.out)); (case side3 => exact (Kd.C_below HR0_2.out HB.out)); (case side5 => exact (Kd.C_below HR0_5.out HB.out)); rintro e w26 ⟨rfl, hb⟩; have n0_ := Aside0.mk (blk_below (g := gb278) (o := .cells #[.string a0_0, .slice A0_1 l0_1.length c0_1, .slice A0_2 l0_2.length c0_2, .int .i64 a0_3, .int .i64 a0_4, .slice A0_5 l0_5.length c0_5] 29 (0, 0)) (by repeat first | exact BK278.out | refine blk_drewN ?_ _ | refine blk_drew ?_ | refine blk_alloc ?_ _) hb); have n1_ := Aside0.mk (blk_below (g := gb281) (o := .cells #[.int .i64 t279] 2 (0, 0)) (by repeat first | exact BK281.out | refine blk_drewN ?_ _ | refine blk_drew ?_ | refine blk_alloc ?_ _) hb); have n2_ := Aside0.mk (blk_below (g := gb282) (o := .cells #[.int .i64 t280] 2 (0, 0)) (by repeat first | exact BK282.out | refine blk_drewN ?_ _ | refine blk_drew ?_ | refine blk_alloc ?_ _) hb); have n3_ := Aside0.mk (below_step (bi_ HB.out GE278.out GE281.out GE282.out) hb); clear BK278; clear BK281; clear BK282; clear HB; have BK278 := n0_; have BK281 := n1_; have BK282 := n2_; have HB := n3_; clear n0_ n1_ n2_ n3_; (try clear hb); (try clear hb2); (try clear hk); (try clear hi)))
   go_meet
   case rel => exact ⟨_, (!t284), sv_, H', ⟨by first | omega | exact Nat.le_refl _⟩, ⟨bk_ BK278.out⟩, ⟨bk_ BK281.out⟩, ⟨bk_ BK282.out⟩, ⟨bi_ HB.out GE278.out GE281.out GE282.out⟩⟩
  ·replace c16 := Bool.eq_false_iff.mpr c16; subst c16; rw [if_neg (show ¬ (false = true) by decide)] at H; have H' := Aside0.mk H; clear H; have hnb27 := NB278_281.out; have hnc27 := NB281_278.out; have hnb28 := NB278_282.out; have hnc28 := NB282_278.out; obtain ⟨hcz29_0, hcz29_1, hcz29_2, hcz29_3, hcz29_4, hcz29_5, hfz29_0⟩ := bx6_ (w := w9) BK278.out; have hnb30 := NB281_282.out; have hnc30 := NB282_281.out; have hcz31_0 : w9.cell? ⟨gb281, 0, none⟩ = some (.int .i64 0) := (blk_cell BK281.out 0).trans rfl; have hfz31_0 := blk_frozen BK281.out 0; go_wp2_with (first | ((with_reducible refine gate_callee (f := 69) rfl ?_); refine goesL_ (some 16) rfl rfl Try.func69 (by kernel_rfl) rfl #[.agg #[.string a0_0, .slice A0_1 l0_1.length c0_1, .slice A0_2 l0_2.length c0_2, .int .i64 a0_3, .int .i64 a0_4, .slice A0_5 l0_5.length c0_5], .int .i64 t279] rfl av_ ?_; (with_reducible refine (impl_Raga_hasTone.calls k a0_0 _ _ l0_1 _ _ l0_2 a0_3 a0_4 _ _ l0_5 t279 false _ ?side1 HC0_1.out ?side3 HC0_2.out ?side5 HC0_5.out A15.out).mono ?_); (case side1 => exact Kd.C_below HR0_1.out (bi_ HB.out GE278.out GE281.out GE282.out)); (case side3 => exact Kd.C_below HR0_2.out (bi_ HB.out GE278.out GE281.out GE282.out)); (case side5 => exact Kd.C_below HR0_5.out (bi_ HB.out GE278.out GE281.out GE282.out)); rintro e w32 ⟨rfl, hb⟩; refine ⟨_, rfl, ?_⟩; have n0_ := Aside0.mk (blk_below (g := gb278) (o := .cells #[.string a0_0, .slice A0_1 l0_1.length c0_1, .slice A0_2 l0_2.length c0_2, .int .i64 a0_3, .int .i64 a0_4, .slice A0_5 l0_5.length c0_5] 29 (0, 0)) (by (with_reducible repeat (first | refine blk_drewN ?_ _ | refine blk_drew ?_ | refine blk_alloc ?_ _)); refine blk_far ?_ NB278_282.out _; (with_reducible repeat (first | refine blk_drewN ?_ _ | refine blk_drew ?_ | refine blk_alloc ?_ _)); refine blk_far ?_ NB278_281.out _; exact bk_ BK278.out) hb); have n1_ := Aside0.mk (blk_below (g := gb281) (o := .cells #[.int .i64 t279] 2 (0, 0)) (by (with_reducible repeat (first | refine blk_drewN ?_ _ | refine blk_drew ?_ | refine blk_alloc ?_ _)); refine blk_far ?_ NB281_282.out _; (with_reducible repeat (first | refine blk_drewN ?_ _ | refine blk_drew ?_ | refine blk_alloc ?_ _)); refine blk_put (cs := #[.int .i64 0]) ?_ 0 _ rfl; exact bk_ BK281.out) hb); have n2_ := Aside0.mk (blk_below (g := gb282) (o := .cells #[.int .i64 t280] 2 (0, 0)) (by (with_reducible repeat (first | refine blk_drewN ?_ _ | refine blk_drew ?_ | refine blk_alloc ?_ _)); refine blk_put (cs := #[.int .i64 0]) ?_ 0 _ rfl; (with_reducible repeat (first | refine blk_drewN ?_ _ | refine blk_drew ?_ | refine blk_alloc ?_ _)); refine blk_far ?_ NB282_281.out _; exact bk_ BK282.out) hb); have n3_ := Aside0.mk (below_step (bi_ HB.out GE278.out GE281.out GE282.out) hb); clear BK278; clear BK281; clear BK282; clear HB; have BK278 := n0_; have BK281 := n1_; have BK282 := n2_; have HB := n3_; clear n0_ n1_ n2_ n3_; (try clear hb); (try clear hb2); (try clear hk); (try clear hi)))
   go_meet
   case rel => exact ⟨_, (true), sv_, H', ⟨by first | omega | exact Nat.le_refl _⟩, ⟨bk_ BK278.out⟩, ⟨bk_ BK281.out⟩, ⟨bk_ BK282.out⟩, ⟨bi_ HB.out GE278.out GE281.out GE282.out⟩⟩
 case rest =>
  clear HC6; (try clear c1); (try clear c2); (try clear p2); (try clear c3); (try clear c6); (try clear c7); (try clear c10); (try clear c11); (try clear c12); (try clear c13); (try clear c16); (try clear c18); (try clear c19); (try clear c21); (try clear c27); (try clear c28); (try clear c30); (try clear hcz12_0 hcz14_0 hcz20_0 hcz20_1 hcz20_2 hcz20_3 hcz20_4 hcz20_5 hcz22_0 hcz24_0 hcz24_1 hcz24_2 hcz24_3 hcz24_4 hcz24_5 hcz25_0 hcz29_0 hcz29_1 hcz29_2 hcz29_3 hcz29_4 hcz29_5 hcz31_0); (try clear hfz12_0); (try clear hfz14_0); (try clear hfz20_0); (try clear hfz22_0); (try clear hfz24_0); (try clear hfz25_0); (try clear hfz29_0); (try clear hfz31_0); obtain ⟨kq, x13_5, rfl, HA, HJ5, BK278, BK281, BK282, HB⟩ := hcut
  cases kq with
  | zero => exact absurd HA.out (by simp [impl_Raga_reason.j0])
  | succ kj5 =>
   have H := HA.out; clear HA; simp only [impl_Raga_reason.j0] at H
   by_cases c33 : x13_5 = true
   ·subst c33; rw [if_pos rfl] at H; obtain rfl := Option.some.inj H; go_wp2
    go_ret
    exact ⟨by first | rfl | (simp [errW_none, errW_some] <;> rfl) | (simp [*, errW_none, errW_some] <;> rfl), bi_ HB.out GE278.out GE281.out GE282.out⟩
   ·replace c33 := Bool.eq_false_iff.mpr c33; subst c33; rw [if_neg (show ¬ (false = true) by decide)] at H; replace H := Option.bind_eq_some_iff.mp H; obtain ⟨t285, A340, H⟩ := H; (try dsimp only at H); have A34 := Aside0.mk A340; clear A340
    by_cases c35 : t285 > 12
    ·rw [if_pos c35] at H; have c35b0 : decide (12 < t285) = true := decide_eq_true c35; clear c35; obtain rfl := Option.some.inj H; go_wp2_with (first | ((with_reducible refine gate_callee (f := 138) rfl ?_); refine goesL_ (some 28) rfl rfl Try.func138 (by kernel_rfl) rfl #[.int .i64 (wrap64 (a1 - a2))] rfl av_ ?_; (with_reducible refine (impl_abs.calls (wrap64 (a1 - a2)) t285 _ A34.out).mono ?_); rintro e w36 ⟨rfl, hb⟩; refine ⟨_, rfl, ?_⟩; have n0_ := Aside0.mk (blk_below (g := gb278) (o := .cells #[.string a0_0, .slice A0_1 l0_1.length c0_1, .slice A0_2 l0_2.length c0_2, .int .i64 a0_3, .int .i64 a0_4, .slice A0_5 l0_5.length c0_5] 29 (0, 0)) (by repeat first | exact BK278.out | refine blk_drewN ?_ _ | refine blk_drew ?_ | refine blk_alloc ?_ _) hb); have n1_ := Aside0.mk (blk_below (g := gb281) (o := .cells #[.int .i64 t279] 2 (0, 0)) (by repeat first | exact BK281.out | refine blk_drewN ?_ _ | refine blk_drew ?_ | refine blk_alloc ?_ _) hb); have n2_ := Aside0.mk (blk_below (g := gb282) (o := .cells #[.int .i64 t280] 2 (0, 0)) (by repeat first | exact BK282.out | refine blk_drewN ?_ _ | refine blk_drew ?_ | refine blk_alloc ?_ _) hb); have n3_ := Aside0.mk (below_step (bi_ HB.out GE278.out GE281.out GE282.out) hb); clear BK278; clear BK281; clear BK282; clear HB; have BK278 := n0_; have BK281 := n1_; have BK282 := n2_; have HB := n3_; clear n0_ n1_ n2_ n3_; (try clear hb); (try clear hb2); (try clear hk); (try clear hi)))
     go_ret
     exact ⟨by first | rfl | (simp [errW_none, errW_some] <;> rfl) | (simp [*, errW_none, errW_some] <;> rfl), bi_ HB.out GE278.out GE281.out GE282.out⟩
    ·rw [if_neg c35] at H; have c35b0 : decide (12 < t285) = false := decide_eq_false c35; clear c35; have HC37 := Aside0.mk H; clear H
     go_upto_region 6 with (first | ((with_reducible refine gate_callee (f := 138) rfl ?_); refine goesL_ (some 28) rfl rfl Try.func138 (by kernel_rfl) rfl #[.int .i64 (wrap64 (a1 - a2))] rfl av_ ?_; (with_reducible refine (impl_abs.calls (wrap64 (a1 - a2)) t285 _ A34.out).mono ?_); rintro e w38 ⟨rfl, hb⟩; refine ⟨_, rfl, ?_⟩; have n0_ := Aside0.mk (blk_below (g := gb278) (o := .cells #[.string a0_0, .slice A0_1 l0_1.length c0_1, .slice A0_2 l0_2.length c0_2, .int .i64 a0_3, .int .i64 a0_4, .slice A0_5 l0_5.length c0_5] 29 (0, 0)) (by repeat first | exact BK278.out | refine blk_drewN ?_ _ | refine blk_drew ?_ | refine blk_alloc ?_ _) hb); have n1_ := Aside0.mk (blk_below (g := gb281) (o := .cells #[.int .i64 t279] 2 (0, 0)) (by repeat first | exact BK281.out | refine blk_drewN ?_ _ | refine blk_drew ?_ | refine blk_alloc ?_ _) hb); have n2_ := Aside0.mk (blk_below (g := gb282) (o := .cells #[.int .i64 t280] 2 (0, 0)) (by repeat first | exact BK282.out | refine blk_drewN ?_ _ | refine blk_drew ?_ | refine blk_alloc ?_ _) hb); have n3_ := Aside0.mk (below_step (bi_ HB.out GE278.out GE281.out GE282.out) hb); clear BK278; clear BK281; clear BK282; clear HB; have BK278 := n0_; have BK281 := n1_; have BK282 := n2_; have HB := n3_; clear n0_ n1_ n2_ n3_; (try clear hb); (try clear hb2); (try clear hk); (try clear hi)))
     (try simp only [Act.put, List.setIfInBounds_toArray, List.set_cons_zero, List.set_cons_succ])
     go_cut [30] (fun v30 wc => ∃ (kq : Nat) (x30_36 : Bool), v30 = .bool x30_36 ∧ Aside0 (impl_Raga_reason.j1 kq a1 a2 x30_36 a0_0 l0_1 l0_2 a0_3 a0_4 l0_5 t279 t280 = some r) ∧ Aside0 (kq ≤ kj5) ∧ Aside0 (wc.heap[gb278]? = some (.cells #[.string a0_0, (.slice A0_1 l0_1.length c0_1), (.slice A0_2 l0_2.length c0_2), .int .i64 a0_3, .int .i64 a0_4, (.slice A0_5 l0_5.length c0_5)] 29 (0, 0))) ∧ Aside0 (wc.heap[gb281]? = some (.cells #[.int .i64 t279] 2 (0, 0))) ∧ Aside0 (wc.heap[gb282]? = some (.cells #[.int .i64 t280] 2 (0, 0))) ∧ Aside0 (Below w.heap.size w wc))
     case first =>
      have H := HC37.out; clear HC37
      by_cases c39 : a2 > a1
      ·rw [if_pos c39] at H; have c39b0 : decide (a1 < a2) = true := decide_eq_true c39; clear c39; (first | rw [c39b0] | (simp only [i64_w, i32_w]; rw [c39b0]) | skip); replace H := Option.bind_eq_some_iff.mp H; obtain ⟨t286, A400, H⟩ := H; (try dsimp only at H); have A40 := Aside0.mk A400; clear A400; have H' := Aside0.mk H; clear H; have hnb41 := NB278_281.out; have hnc41 := NB281_278.out; have hnb42 := NB278_282.out; have hnc42 := NB282_278.out; obtain ⟨hcz43_0, hcz43_1, hcz43_2, hcz43_3, hcz43_4, hcz43_5, hfz43_0⟩ := bx6_ (w := w38) BK278.out; have hnb44 := NB282_281.out; have hnc44 := NB281_282.out; have hcz45_0 : w38.cell? ⟨gb282, 0, none⟩ = some (.int .i64 t280) := (blk_cell BK282.out 0).trans rfl; have hfz45_0 := blk_frozen BK282.out 0; go_wp2_with (first | (go_at_call 118; (with_reducible refine (slices_Contains_int64_int64.calls kj5 _ _ l0_1 t280 t286 _ ?side1 HC0_1.out A40.out).mono ?_); (case side1 => exact (Kd.C_below HR0_1.out HB.out)); rintro e w' ⟨rfl, ⟨nd, rfl⟩⟩))
       go_meet
       case rel => exact ⟨_, (!t286), sv_, H', ⟨by have := HJ5.out; first | omega | exact Nat.le_refl _⟩, ⟨bk_ BK278.out⟩, ⟨bk_ BK281.out⟩, ⟨bk_ BK282.out⟩, ⟨bi_ HB.out GE278.out GE281.out GE282.out⟩⟩
      ·rw [if_neg c39] at H; have c39b0 : decide (a1 < a2) = false := decide_eq_false c39; clear c39; (first | rw [c39b0] | (simp only [i64_w, i32_w]; rw [c39b0]) | skip); have H' := Aside0.mk H; clear H; go_wp2
       go_meet
       case rel => exact ⟨_, (false), sv_, H', ⟨by have := HJ5.out; first | omega | exact Nat.le_refl _⟩, ⟨bk_ BK278.out⟩, ⟨bk_ BK281.out⟩, ⟨bk_ BK282.out⟩, ⟨bi_ HB.out GE278.out GE281.out GE282.out⟩⟩
     case rest =>
      clear HC37; (try clear c1); (try clear c2); (try clear p2); (try clear c3); (try clear c4); (try clear c6); (try clear p6); (try clear c7); (try clear c10); (try clear c11); (try clear c12); (try clear c13); (try clear c16); (try clear c18); (try clear c19); (try clear c21); (try clear c27); (try clear c28); (try clear c30); (try clear c33); (try clear c35); (try clear c35b0); (try clear c39); (try clear c39b0); (try clear c41); (try clear c42); (try clear c44); (try clear hcz12_0 hcz14_0 hcz20_0 hcz20_1 hcz20_2 hcz20_3 hcz20_4 hcz20_5 hcz22_0 hcz24_0 hcz24_1 hcz24_2 hcz24_3 hcz24_4 hcz24_5 hcz25_0 hcz29_0 hcz29_1 hcz29_2 hcz29_3 hcz29_4 hcz29_5 hcz31_0 hcz43_0 hcz43_1 hcz43_2 hcz43_3 hcz43_4 hcz43_5 hcz45_0); (try clear hfz12_0); (try clear hfz14_0); (try clear hfz20_0); (try clear hfz22_0); (try clear hfz24_0); (try clear hfz25_0); (try clear hfz29_0); (try clear hfz31_0); (try clear hfz43_0); (try clear hfz45_0); (try clear p2); obtain ⟨kq, x30_36, rfl, HA, HJ36, BK278, BK281, BK282, HB⟩ := hcut
      cases kq with
      | zero => exact absurd HA.out (by simp [impl_Raga_reason.j1])
      | succ kj36 =>
       have H := HA.out; clear HA; simp only [impl_Raga_reason.j1] at H
       by_cases c46 : x30_36 = true
       ·subst c46; rw [if_pos rfl] at H; obtain rfl := Option.some.inj H; go_wp2
        go_ret
        exact ⟨by first | rfl | (simp [errW_none, errW_some] <;> rfl) | (simp [*, errW_none, errW_some] <;> rfl), bi_ HB.out GE278.out GE281.out GE282.out⟩
       ·replace c46 := Bool.eq_false_iff.mpr c46; subst c46; rw [if_neg (show ¬ (false = true) by decide)] at H; have HC47 := Aside0.mk H; clear H
        go_upto_region 8 with (fail)
        go_cut [41] (fun v41 wc => ∃ (kq : Nat) (x41_46 : Bool), v41 = .bool x41_46 ∧ Aside0 (impl_Raga_reason.j2 kq x41_46 a0_0 l0_1 l0_2 a0_3 a0_4 l0_5 t279 t280 = some r) ∧ Aside0 (kq ≤ kj36) ∧ Aside0 (wc.heap[gb278]? = some (.cells #[.string a0_0, (.slice A0_1 l0_1.length c0_1), (.slice A0_2 l0_2.length c0_2), .int .i64 a0_3, .int .i64 a0_4, (.slice A0_5 l0_5.length c0_5)] 29 (0, 0))) ∧ Aside0 (wc.heap[gb281]? = some (.cells #[.int .i64 t279] 2 (0, 0))) ∧ Aside0 (wc.heap[gb282]? = some (.cells #[.int .i64 t280] 2 (0, 0))) ∧ Aside0 (Below w.heap.size w wc))
        case first =>
         have H := HC47.out; clear HC47
         by_cases c48 : a2 < a1
         ·rw [if_pos c48] at H; have c48b0 : decide (a2 < a1) = true := decide_eq_true c48; clear c48; (first | rw [c48b0] | (simp only [i64_w, i32_w]; rw [c48b0]) | skip); replace H := Option.bind_eq_some_iff.mp H; obtain ⟨t287, A490, H⟩ := H; (try dsimp only at H); have A49 := Aside0.mk A490; clear A490; have H' := Aside0.mk H; clear H; have hnb50 := NB278_281.out; have hnc50 := NB281_278.out; have hnb51 := NB278_282.out; have hnc51 := NB282_278.out; obtain ⟨hcz52_0, hcz52_1, hcz52_2, hcz52_3, hcz52_4, hcz52_5, hfz52_0⟩ := bx6_ (w := wc) BK278.out; have hnb53 := NB282_281.out; have hnc53 := NB281_282.out; have hcz54_0 : wc.cell? ⟨gb282, 0, none⟩ = some (.int .i64 t280) := (blk_cell BK282.out 0).trans rfl; have hfz54_0 := blk_frozen BK282.out 0; go_wp2_with (first | (go_at_call 118; (with_reducible refine (slices_Contains_int64_int64.calls kj36 _ _ l0_2 t280 t287 _ ?side1 HC0_2.out A49.out).mono ?_); (case side1 => exact (Kd.C_below HR0_2.out HB.out)); rintro e w' ⟨rfl, ⟨nd, rfl⟩⟩))
          go_meet
          case rel => exact ⟨_, (!t287), sv_, H', ⟨by have := HJ5.out; have := HJ36.out; first | omega | exact Nat.le_refl _⟩, ⟨bk_ BK278.out⟩, ⟨bk_ BK281.out⟩, ⟨bk_ BK282.out⟩, ⟨bi_ HB.out GE278.out GE281.out GE282.out⟩⟩
         ·rw [if_neg c48] at H; have c48b0 : decide (a2 < a1) = false := decide_eq_false c48; clear c48; (first | rw [c48b0] | (simp only [i64_w, i32_w]; rw [c48b0]) | skip); have H' := Aside0.mk H; clear H; go_wp2
          go_meet
          case rel => exact ⟨_, (false), sv_, H', ⟨by have := HJ5.out; have := HJ36.out; first | omega | exact Nat.le_refl _⟩, ⟨bk_ BK278.out⟩, ⟨bk_ BK281.out⟩, ⟨bk_ BK282.out⟩, ⟨bi_ HB.out GE278.out GE281.out GE282.out⟩⟩
        case rest =>
         clear HC47; (try clear c1); (try clear c2); (try clear p2); (try clear c3); (try clear c4); (try clear c5); (try clear c6); (try clear p6); (try clear c7); (try clear c10); (try clear c11); (try clear c12); (try clear c13); (try clear c16); (try clear c18); (try clear c19); (try clear c21); (try clear c27); (try clear c28); (try clear c30); (try clear c33); (try clear c35); (try clear c35b0); (try clear c39); (try clear c39b0); (try clear c41); (try clear c42); (try clear c44); (try clear c46); (try clear c48); (try clear c48b0); (try clear c50); (try clear c51); (try clear c53); (try clear hcz12_0 hcz14_0 hcz20_0 hcz20_1 hcz20_2 hcz20_3 hcz20_4 hcz20_5 hcz22_0 hcz24_0 hcz24_1 hcz24_2 hcz24_3 hcz24_4 hcz24_5 hcz25_0 hcz29_0 hcz29_1 hcz29_2 hcz29_3 hcz29_4 hcz29_5 hcz31_0 hcz43_0 hcz43_1 hcz43_2 hcz43_3 hcz43_4 hcz43_5 hcz45_0 hcz52_0 hcz52_1 hcz52_2 hcz52_3 hcz52_4 hcz52_5 hcz54_0); (try clear hfz12_0); (try clear hfz14_0); (try clear hfz20_0); (try clear hfz22_0); (try clear hfz24_0); (try clear hfz25_0); (try clear hfz29_0); (try clear hfz31_0); (try clear hfz43_0); (try clear hfz45_0); (try clear hfz52_0); (try clear hfz54_0); (try clear p2); (try clear p6); obtain ⟨kq, x41_46, rfl, HA, HJ46, BK278, BK281, BK282, HB⟩ := hcut
         cases kq with
         | zero => exact absurd HA.out (by simp [impl_Raga_reason.j2])
         | succ kj46 =>
          have H := HA.out; clear HA; simp only [impl_Raga_reason.j2] at H
          by_cases c55 : x41_46 = true
          ·subst c55; rw [if_pos rfl] at H; obtain rfl := Option.some.inj H; go_wp2
           go_ret
           exact ⟨by first | rfl | (simp [errW_none, errW_some] <;> rfl) | (simp [*, errW_none, errW_some] <;> rfl), bi_ HB.out GE278.out GE281.out GE282.out⟩
          ·replace c55 := Bool.eq_false_iff.mpr c55; subst c55; rw [if_neg (show ¬ (false = true) by decide)] at H; replace H := Option.bind_eq_some_iff.mp H; obtain ⟨t288, A560, H⟩ := H; (try dsimp only at H); have A56 := Aside0.mk A560; clear A560
           by_cases c57 : t288 = true
           ·subst c57; rw [if_pos rfl] at H; obtain rfl := Option.some.inj H; have hnb58 := NB278_281.out; have hnc58 := NB281_278.out; have hnb59 := NB278_282.out; have hnc59 := NB282_278.out; obtain ⟨hcz60_0, hcz60_1, hcz60_2, hcz60_3, hcz60_4, hcz60_5, hfz60_0⟩ := bx6_ (w := wc) BK278.out; go_wp2_with (first | ((with_reducible refine gate_callee (f := 133) rfl ?_); refine goesL_ (some 56) rfl rfl Try.func133 (by kernel_rfl) rfl #[.slice A0_5 l0_5.length c0_5, .func (.func 147) #[] #[.pointer (some ⟨gb281, 0, none⟩), .pointer (some ⟨gb282, 0, none⟩)]] rfl av_ ?_; (with_reducible refine (impl_reason_any.calls _ _ l0_5 gb281 t279 gb282 t280 true _ ?side1 HC0_5.out ?side3 ?side4 A56.out).mono ?_); (case side1 => exact (Kd.C_below HR0_5.out HB.out)); (case side3 => exact bk_ BK281.out); (case side4 => exact bk_ BK282.out); rintro e w61 ⟨rfl, hb⟩; refine ⟨_, rfl, ?_⟩; have n0_ := Aside0.mk (blk_below (g := gb278) (o := .cells #[.string a0_0, .slice A0_1 l0_1.length c0_1, .slice A0_2 l0_2.length c0_2, .int .i64 a0_3, .int .i64 a0_4, .slice A0_5 l0_5.length c0_5] 29 (0, 0)) (by repeat first | exact BK278.out | refine blk_drewN ?_ _ | refine blk_drew ?_ | refine blk_alloc ?_ _) hb); have n1_ := Aside0.mk (blk_below (g := gb281) (o := .cells #[.int .i64 t279] 2 (0, 0)) (by repeat first | exact BK281.out | refine blk_drewN ?_ _ | refine blk_drew ?_ | refine blk_alloc ?_ _) hb); have n2_ := Aside0.mk (blk_below (g := gb282) (o := .cells #[.int .i64 t280] 2 (0, 0)) (by repeat first | exact BK282.out | refine blk_drewN ?_ _ | refine blk_drew ?_ | refine blk_alloc ?_ _) hb); have n3_ := Aside0.mk (below_step (bi_ HB.out GE278.out GE281.out GE282.out) hb); clear BK278; clear BK281; clear BK282; clear HB; have BK278 := n0_; have BK281 := n1_; have BK282 := n2_; have HB := n3_; clear n0_ n1_ n2_ n3_; (try clear hb); (try clear hb2); (try clear hk); (try clear hi)))
            go_ret
            exact ⟨by first | rfl | (simp [errW_none, errW_some] <;> rfl) | (simp [*, errW_none, errW_some] <;> rfl), bi_ HB.out GE278.out GE281.out GE282.out⟩
           ·replace c57 := Bool.eq_false_iff.mpr c57; subst c57; rw [if_neg (show ¬ (false = true) by decide)] at H; obtain rfl := Option.some.inj H; have hnb62 := NB278_281.out; have hnc62 := NB281_278.out; have hnb63 := NB278_282.out; have hnc63 := NB282_278.out; obtain ⟨hcz64_0, hcz64_1, hcz64_2, hcz64_3, hcz64_4, hcz64_5, hfz64_0⟩ := bx6_ (w := wc) BK278.out; go_wp2_with (first | ((with_reducible refine gate_callee (f := 133) rfl ?_); refine goesL_ (some 56) rfl rfl Try.func133 (by kernel_rfl) rfl #[.slice A0_5 l0_5.length c0_5, .func (.func 147) #[] #[.pointer (some ⟨gb281, 0, none⟩), .pointer (some ⟨gb282, 0, none⟩)]] rfl av_ ?_; (with_reducible refine (impl_reason_any.calls _ _ l0_5 gb281 t279 gb282 t280 false _ ?side1 HC0_5.out ?side3 ?side4 A56.out).mono ?_); (case side1 => exact (Kd.C_below HR0_5.out HB.out)); (case side3 => exact bk_ BK281.out); (case side4 => exact bk_ BK282.out); rintro e w65 ⟨rfl, hb⟩; refine ⟨_, rfl, ?_⟩; have n0_ := Aside0.mk (blk_below (g := gb278) (o := .cells #[.string a0_0, .slice A0_1 l0_1.length c0_1, .slice A0_2 l0_2.length c0_2, .int .i64 a0_3, .int .i64 a0_4, .slice A0_5 l0_5.length c0_5] 29 (0, 0)) (by repeat first | exact BK278.out | refine blk_drewN ?_ _ | refine blk_drew ?_ | refine blk_alloc ?_ _) hb); have n1_ := Aside0.mk (blk_below (g := gb281) (o := .cells #[.int .i64 t279] 2 (0, 0)) (by repeat first | exact BK281.out | refine blk_drewN ?_ _ | refine blk_drew ?_ | refine blk_alloc ?_ _) hb); have n2_ := Aside0.mk (blk_below (g := gb282) (o := .cells #[.int .i64 t280] 2 (0, 0)) (by repeat first | exact BK282.out | refine blk_drewN ?_ _ | refine blk_drew ?_ | refine blk_alloc ?_ _) hb); have n3_ := Aside0.mk (below_step (bi_ HB.out GE278.out GE281.out GE282.out) hb); clear BK278; clear BK281; clear BK282; clear HB; have BK278 := n0_; have BK281 := n1_; have BK282 := n2_; have HB := n3_; clear n0_ n1_ n2_ n3_; (try clear hb); (try clear hb2); (try clear hk); (try clear hi)))
            go_ret
            exact ⟨by first | rfl | (simp [errW_none, errW_some] <;> rfl) | (simp [*, errW_none, errW_some] <;> rfl), bi_ HB.out GE278.out GE281.out GE282.out⟩
end Go.Proofs.Ytinlejhffokbaaa.P
end

section
namespace Go.Proofs.Ytinlejhffokbaaa.P
open Go.RowKit Go.Proofs.YtinlejhffokbaaaW.PrintWords Go.Proofs.YtinlejhffokbaaaW.PrintLast Go.Proofs.YtinlejhffokbaaaW.PrintMore
attribute [local go_sem] max2_int min2_int max_two min_two max_three min_three max_four min_four
set_option linter.unusedVariables false
set_option linter.unusedSimpArgs false

section
variable {P : Program} {ops : Array Oper} {Q : Exit → Act → World → Prop} {md : Region.Mode} {S : World → Prop} {ds : List Nat} {fuel : Nat} {l : Array Bool} {a a' : Act} {w : World} {oi : Oper} {v : Value} {T : Bool × List (List Nat × List Nat)} {B : List Nat}
theorem pu_ (hT : Aside0 (rtab md ops = T)) (i n : Nat) (l' : Array Bool) (h : wpAnyLast P md ops Q S ds fuel l' a' w) (hc : anyT T l.toList l'.toList i = true := by kernel_rfl) (hi : ops[i]? = some oi := by rfl) (hN : oi.dst = some n := by rfl)
    (hQ : ∀ c a w, Q (.panic c) (a.put oi.dst v) w → Q (.panic c) a w := by exact fun _ _ _ h => h) (hw : Region.wanted oi (yielded ops a.tmps) = true := by rfl) (hr : ∀ w', (execOp a.eval oi).run P w' = .ok (.value v) w' := by intro w'; go_simp; with_reducible rfl) (ha : a.put (some n) v = a' := by go_simp; rfl) : wpAnyLast P md ops Q S ds (fuel + 1) l a w :=
  pure_ l' hi hN (any_of hT.out hc) hQ (.inl ⟨hw, hr⟩) ha h
theorem un_ (hT : Aside0 (rtab md ops = T)) (i n : Nat) (l' : Array Bool) (h : wpAnyLast P md ops Q S ds fuel l' a' w) (hc : anyT T l.toList l'.toList i = true := by kernel_rfl) (hi : ops[i]? = some oi := by rfl) (hN : oi.dst = some n := by rfl)
    (hQ : ∀ c a w, Q (.panic c) (a.put oi.dst undef) w → Q (.panic c) a w := by exact fun _ _ _ h => h) (hw : Region.wanted oi (yielded ops a.tmps) = false := by rfl) (ha : a.put (some n) undef = a' := by go_simp; rfl) : wpAnyLast P md ops Q S ds (fuel + 1) l a w :=
  pure_ l' hi hN (any_of hT.out hc) hQ (.inr ⟨hw, rfl⟩) ha h
theorem tk_ (hT : Aside0 (rtab md ops = T)) (hB : Aside0 (waitsOk T.2 B = true)) (hS : S w) (i n : Nat) (l' : Array Bool) (h : wpAnyLast P md ops Q S ds fuel l' a' w) (hc : takeW T B ds l.toList l'.toList i = true := by kernel_rfl) (hi : ops[i]? = some oi := by rfl) (hN : oi.dst = some n := by rfl)
    (hQ : ∀ c a w, Q (.panic c) (a.put oi.dst v) w → Q (.panic c) a w := by exact fun _ _ _ h => h) (hw : Region.wanted oi (yielded ops a.tmps) = true := by rfl) (hr : ∀ w', S w' → (execOp a.eval oi).run P w' = .ok (.value v) w' := by intro w' hs; repeat (obtain ⟨_, hs⟩ := hs); go_simp; with_reducible rfl) (ha : a.put (some n) v = a' := by go_simp; rfl) : wpAnyLast P md ops Q S ds (fuel + 1) l a w :=
  take_ l' hi hN (take_ofW hT.out hB.out hc) hQ (.inl ⟨hw, hr⟩) hS ha h
end

end Go.Proofs.Ytinlejhffokbaaa.P
end

section
namespace Go.Proofs.Ytinlejhffokbaaa.P
open Go.RowKit Go.Proofs.YtinlejhffokbaaaW.PrintWords Go.Proofs.YtinlejhffokbaaaW.PrintLast Go.Proofs.YtinlejhffokbaaaW.PrintMore
attribute [local go_sem] max2_int min2_int max_two min_two max_three min_three max_four min_four
set_option linter.unusedVariables false
set_option linter.unusedSimpArgs false
def impl_within.f (a0 : Int) (a1 : Int) (a2 : Int) : Option (Bool) := if a0 ≥ a1 then (some (decide (a0 ≤ a2))) else (some false)
theorem impl_within.calls (a0 : Int) (a1 : Int) (a2 : Int) (r : Bool) (w : World) (h : impl_within.f a0 a1 a2 = some r) :
  Calls Try.prog 65 #[.int .i64 a0, .int .i64 a1, .int .i64 a2] w fun e w' => e = .returned (.bool r) ∧ Drawn0 w w' := by
 have H : (if a0 ≥ a1 then (some (decide (a0 ≤ a2))) else (some false)) = some r := h; clear h
 by_cases c4 : a0 ≥ a1
 ·rw [if_pos c4] at H; have c4b0 : decide (a1 ≤ a0) = true := decide_eq_true c4; clear c4; obtain rfl := Option.some.inj H; go_enter Try.func65, Try.ntmps65; go_wp2
  go_ret
  exact ⟨sv_, dr_⟩
 ·rw [if_neg c4] at H; have c4b0 : decide (a1 ≤ a0) = false := decide_eq_false c4; clear c4; obtain rfl := Option.some.inj H; go_enter Try.func65, Try.ntmps65; go_wp2
  go_ret
  exact ⟨sv_, dr_⟩
theorem slices_IndexFunc_int64_int64_164.calls (g : Nat) (lb : Array Value) (eg : ∀ args w, (callFunc g args).run Try.prog w = .ok (.enter g args) w) (V : Nat → Value) (p : Nat → Bool) (A : Option Addr) (n c : Nat) (w : World) (hn : n ≤ 9223372036854775807)
    (hA : 0 < n → ∃ ad, A = some ad ∧ ∀ j, j < n → w.cell? (ad.add j) = some (V j))
    (hp : ∀ W j, j < n → Below w.heap.size w W → Calls Try.prog g (#[V j] ++ lb) W fun e w' => e = .returned (.bool (p j)) ∧ Below w.heap.size w w') :
    Calls Try.prog 164 #[.slice A n c, .func (.func g) #[] lb] w fun e w' => e = .returned (.int .i64 (fstIdx p n 0)) ∧ Below w.heap.size w w' := by
  have HA := Aside0.mk hA; have HP := Aside0.mk hp; have EG := Aside0.mk eg; clear hA hp eg; go_enter Try.func164, Try.ntmps164; go_wp2
  go_loopg [5, 8] n (fun gg _ s8 wr => ∃ kk : Nat, kk ≤ n ∧ Aside0 (n - kk ≤ gg) ∧ s8 = .int .i64 kk ∧ Aside0 (Below w.heap.size w wr) ∧ Aside0 (fstIdx p (n - kk) kk = fstIdx p n 0))
  case atStart => exact ⟨0, Nat.zero_le _, ⟨by omega⟩, rfl, ⟨Below.refl _ w⟩, ⟨rfl⟩⟩
  case round =>
    obtain ⟨kk, hkk, hg, rfl, BW, HF⟩ := hrel
    by_cases hlt : kk < n
    · have hltz : (kk : Int) < (n : Int) := by omega
      obtain ⟨ad, rfl, hA⟩ := HA.out (by omega); have hcell : wr.cell? (ad.add kk) = some (V kk) := (BW.out.cell (World.block_lt_of_cell? w _ (hA kk hlt))).trans (hA kk hlt); have hcall := HP.out wr kk hlt BW.out; have eg := EG.out; clear hA; obtain ⟨m, hm⟩ : ∃ m, n - kk = m + 1 := ⟨n - kk - 1, by omega⟩
      have hm' : n - (kk + 1) = m := by omega
      have HM := Aside0.mk hm'; have hF := HF.out; rw [hm, fstIdx_succ] at hF; clear hm hm' HF
      cases hq : p kk with
      | true =>
        rw [hq] at hcall hF; rw [if_pos rfl] at hF; have HF := Aside0.mk hF; clear hF hq; go_wp2_with ((with_reducible refine hcall.mono ?_); rintro e w' ⟨rfl, hb'⟩)
        go_ret
        exact ⟨by rw [← HF.out]; rfl, hb'⟩
      | false =>
        rw [hq] at hcall hF; rw [if_neg (by decide)] at hF; have HF := Aside0.mk hF; clear hF hq; go_wp2_with ((with_reducible refine hcall.mono ?_); rintro e w' ⟨rfl, hb'⟩)
        go_roundg (n - (kk + 1))
        case measure => have := hg.out; omega
        case rel => exact ⟨kk + 1, by omega, ⟨Nat.le_refl _⟩, by go_num, ⟨hb'⟩, ⟨by rw [HM.out]; exact HF.out⟩⟩
    · have hltz : ¬ (kk : Int) < (n : Int) := by omega
      have he : kk = n := by omega
      have hF := HF.out; rw [show n - kk = 0 by omega] at hF; have HF := Aside0.mk (show (-1 : Int) = _ from hF); clear he hF; go_wp2
      go_ret
      exact ⟨by rw [← HF.out]; rfl, BW.out⟩
theorem slices_ContainsFunc_int64_int64_149.calls (g : Nat) (lb : Array Value) (eg : ∀ args w, (callFunc g args).run Try.prog w = .ok (.enter g args) w) (V : Nat → Value) (p : Nat → Bool) (A : Option Addr) (n c : Nat) (w : World) (hn : n ≤ 9223372036854775807)
    (hA : 0 < n → ∃ ad, A = some ad ∧ ∀ j, j < n → w.cell? (ad.add j) = some (V j))
    (hp : ∀ W j, j < n → Below w.heap.size w W → Calls Try.prog g (#[V j] ++ lb) W fun e w' => e = .returned (.bool (p j)) ∧ Below w.heap.size w w') :
    Calls Try.prog 149 #[.slice A n c, .func (.func g) #[] lb] w fun e w' => e = .returned (.bool ((List.range n).any p)) ∧ Below w.heap.size w w' := by
  have hc := slices_IndexFunc_int64_int64_164.calls g lb eg V p A n c w hn hA hp; rw [← fstIdx_any]; clear eg hA hp; go_enter Try.func149, Try.ntmps149; go_wp2_with ((with_reducible refine hc.mono ?_); rintro e w' ⟨rfl, hb'⟩)
  go_ret
  exact ⟨rfl, hb'⟩
theorem impl_allWithin_lit.calls (x a1 a2 : Int) (b1 b2 : Nat) (w : World) (h1 : w.cell? ⟨b1, 0, none⟩ = some (.int .i64 a1)) (h2 : w.cell? ⟨b2, 0, none⟩ = some (.int .i64 a2)) :
    Calls Try.prog 150 #[.int .i64 x, .pointer (some ⟨b1, 0, none⟩), .pointer (some ⟨b2, 0, none⟩)] w fun e w' => e = .returned (.bool (!(decide (a1 ≤ x) && decide (x ≤ a2)))) ∧ Below w.heap.size w w' := by
  have hf : impl_within.f x a1 a2 = some (decide (a1 ≤ x) && decide (x ≤ a2)) := by
    unfold impl_within.f
    by_cases h : a1 ≤ x <;> simp [h]
  have HF := Aside0.mk hf; clear hf; obtain ⟨b, hb⟩ : ∃ b, (decide (a1 ≤ x) && decide (x ≤ a2)) = b := ⟨_, rfl⟩; rw [hb] at HF ⊢; clear hb; go_enter Try.func150, Try.ntmps150; go_wp2_with ((with_reducible refine (impl_within.calls x a1 a2 b _ HF.out).mono ?_); rintro e w' ⟨rfl, ⟨nd, rfl⟩⟩)
  go_ret
  exact ⟨rfl, by repeat (first | exact Below.refl _ _ | apply below_alloc | apply pw_below_drewN | apply below_drew1)⟩


def impl_allWithin.f (l0 : List Int) (a1 : Int) (a2 : Int) : Option (Bool) := some (l0.all fun n => decide (a1 ≤ n) && decide (n ≤ a2))
theorem impl_allWithin.calls (A0 : Option Addr) (c0 : Nat) (l0 : List Int) (a1 : Int) (a2 : Int) (r : Bool) (w : World) (hr0 : Kd.C (Kd.int .i64) w A0 l0.length l0) (hc0 : l0.length ≤ c0) (h : impl_allWithin.f l0 a1 a2 = some r) :
    Calls Try.prog 123 #[.slice A0 l0.length c0, .int .i64 a1, .int .i64 a2] w fun e w' => e = .returned (.bool r) ∧ Below w.heap.size w w' := by
  have hr := Option.some.inj h
  have e1 : (w.alloc (.cells #[.int .i64 a1] 2)).heap.size = w.heap.size + 1 := by simp
  have b1 : Below w.heap.size w ((w.alloc (.cells #[.int .i64 a1] 2)).alloc (.cells #[.int .i64 a2] 2)) := below_alloc (below_alloc (Below.refl _ _) _) _
  have c1 : ((w.alloc (.cells #[.int .i64 a1] 2)).alloc (.cells #[.int .i64 a2] 2)).cell? ⟨w.heap.size, 0, none⟩ = some (.int .i64 a1) := by go_simp
  have c2 : ((w.alloc (.cells #[.int .i64 a1] 2)).alloc (.cells #[.int .i64 a2] 2)).cell? ⟨w.heap.size + 1, 0, none⟩ = some (.int .i64 a2) := by go_simp
  have l1 : w.heap.size + 1 < ((w.alloc (.cells #[.int .i64 a1] 2)).alloc (.cells #[.int .i64 a2] 2)).heap.size := by simp
  have hC := slices_ContainsFunc_int64_int64_149.calls 150 #[.pointer (some ⟨w.heap.size, 0, none⟩), .pointer (some ⟨w.heap.size + 1, 0, none⟩)] (enters_of Try.func150 (by kernel_rfl) rfl) (fun j => .int .i64 (l0.getD j 0)) (fun j => !(decide (a1 ≤ l0.getD j 0) && decide (l0.getD j 0 ≤ a2))) A0 l0.length c0 _ hr0.2.1
    (fun h0 => by
      obtain ⟨ad, rfl, _⟩ := hr0.2.2 h0; refine ⟨ad, rfl, fun j hj => ?_⟩; obtain ⟨ad', he, hx⟩ := Kd.at_int hr0 (j : Int) (by omega) (by omega)
      cases he
      have := (wc_ b1 hx :)
      simpa [rd] using this)
    (fun W j hj hb => impl_allWithin_lit.calls (l0.getD j 0) a1 a2 w.heap.size (w.heap.size + 1) W ((hb.cell (p := ⟨w.heap.size, 0, none⟩) (Nat.lt_of_succ_lt l1)).trans c1) ((hb.cell (p := ⟨w.heap.size + 1, 0, none⟩) l1).trans c2) |>.mono fun e w' ⟨he, hb'⟩ => ⟨he, hb.trans (hb'.mono hb.size)⟩)
  rw [range_any_list l0 0 (fun x => !(decide (a1 ≤ x) && decide (x ≤ a2)))] at hC
  have hv : (!(l0.any fun x => !(decide (a1 ≤ x) && decide (x ≤ a2)))) = r := by rw [← hr, List.all_eq_not_any_not]
  have HV := Aside0.mk hv; have HB1 := Aside0.mk b1; have HCC := Aside0.mk hC; clear e1 b1 c1 c2 l1 hC hv hr h hr0 hc0; obtain ⟨b, hb⟩ : ∃ b, (l0.any fun x => !(decide (a1 ≤ x) && decide (x ≤ a2))) = b := ⟨_, rfl⟩; rw [hb] at HV HCC; clear hb; go_enter Try.func123, Try.ntmps123; go_wp2_with ((with_reducible refine HCC.out.mono ?_); rintro e w' ⟨rfl, hb'⟩)
  go_ret
  exact ⟨by rw [← HV.out]; rfl, HB1.out.trans (hb'.mono HB1.out.size)⟩
def impl_mostRepeats.l0 : Nat → List Int → Int → Int → Int → Option (Int)
 | 0, _, _, _, _ => none
 | k + 1, x0, x3, x4, x5 => if x5 < (x0.length : Int) then (if 0 ≤ x5 then (if 0 ≤ (wrap64 (x5 - 1)) then (if (wrap64 (x5 - 1)) < (x0.length : Int) then (if (rd x0 x5) = (rd x0 (wrap64 (x5 - 1))) then (impl_mostRepeats.l0 k x0 (mx x3 (wrap64 (x4 + 1))) (wrap64 (x4 + 1)) (wrap64 (x5 + 1))) else (impl_mostRepeats.l0 k x0 (mx x3 0) 0 (wrap64 (x5 + 1)))) else (none)) else (none)) else (none)) else (some x3)
def impl_mostRepeats.f (k : Nat) (l0 : List Int) : Option (Int) := impl_mostRepeats.l0 k l0 0 0 1
theorem impl_mostRepeats.calls (k : Nat) (A0 : Option Addr) (c0 : Nat) (l0 : List Int) (r : Int) (w : World) (hr0 : Kd.C (Kd.int .i64) w A0 l0.length l0) (hc0 : l0.length ≤ c0) (h : impl_mostRepeats.f k l0 = some r) :
  Calls Try.prog 134 #[.slice A0 l0.length c0] w fun e w' => e = .returned (.int .i64 r) ∧ Below w.heap.size w w' := by
 have HR0 := Aside0.mk hr0; have HC0 := Aside0.mk hc0; clear hr0 hc0; have HB := Aside0.mk (Below.refl w.heap.size w); have H : (impl_mostRepeats.l0 k l0 0 0 1) = some r := h; clear h; have H' := Aside0.mk H; clear H; go_enter Try.func134, Try.ntmps134; go_wp2
 repeat (go_quiet (fail); try go_wp2)
 go_loopg [3, 4, 5] k (fun kq v3 v4 v5 w' => ∃ (x3_1 : Int) (x4_1 : Int) (x5_1 : Int), v3 = .int .i64 x3_1 ∧ v4 = .int .i64 x4_1 ∧ v5 = .int .i64 x5_1 ∧ Aside0 (impl_mostRepeats.l0 kq l0 x3_1 x4_1 x5_1 = some r) ∧ Aside0 (kq ≤ k) ∧ Aside0 (Below w.heap.size w w'))
 case atStart => exact ⟨(0), (0), (1), sv_, sv_, sv_, H', ⟨Nat.le_refl _⟩, ⟨bb_ HB.out⟩⟩
 case round =>
  clear H'
  try clear c1
  obtain ⟨x3_1, x4_1, x5_1, rfl, rfl, rfl, HA, HK1, HB⟩ := hrel
  cases gk with
  | zero => exact absurd HA.out (by simp [impl_mostRepeats.l0])
  | succ k1 =>
   have H := HA.out; clear HA; simp only [impl_mostRepeats.l0] at H
   by_cases c2 : x5_1 < (l0.length : Int)
   ·rw [if_pos c2] at H; have c2b0 : decide (x5_1 < (l0.length : Int)) = true := decide_eq_true c2; clear c2
    by_cases c3 : 0 ≤ x5_1
    ·rw [if_pos c3] at H; have c3b0 : decide (0 ≤ x5_1) = true := decide_eq_true c3; clear c3; obtain ⟨ji4, hji4⟩ : ∃ j_ : Int, (wrap64 (x5_1 - 1)) = j_ := ⟨_, rfl⟩
     replace H : (if 0 ≤ (ji4) then (if (ji4) < (l0.length : Int) then (if (rd l0 x5_1) = (rd l0 (ji4)) then (impl_mostRepeats.l0 k1 l0 (mx x3_1 (wrap64 (x4_1 + 1))) (wrap64 (x4_1 + 1)) (wrap64 (x5_1 + 1))) else (impl_mostRepeats.l0 k1 l0 (mx x3_1 0) 0 (wrap64 (x5_1 + 1)))) else (none)) else (none)) = some r := by first | (rw [hji4] at H; exact H) | (simp only [hji4] at H ⊢; exact H)
     have hji4w : (IntKind.i64.wrap (x5_1 - 1)) = ji4 := (i64_w _).trans hji4
     by_cases c5 : 0 ≤ (ji4)
     ·rw [if_pos c5] at H; have c5b0 : decide (0 ≤ (ji4)) = true := decide_eq_true c5; clear c5
      by_cases c6 : (ji4) < (l0.length : Int)
      ·rw [if_pos c6] at H; have c6b0 : decide ((ji4) < (l0.length : Int)) = true := decide_eq_true c6; clear c6
       by_cases c7 : (rd l0 x5_1) = (rd l0 (ji4))
       ·rw [if_pos c7] at H; have c7b0 : ((rd l0 x5_1) == (rd l0 (ji4))) = true := beq_iff_eq.mpr c7; have c7b1 : ((rd l0 x5_1) != (rd l0 (ji4))) = false := bne_eq_false_iff_eq.mpr c7; clear c7; obtain ⟨ji8, hji8⟩ : ∃ j_ : Int, (mx x3_1 (wrap64 (x4_1 + 1))) = j_ := ⟨_, rfl⟩
        replace H : (impl_mostRepeats.l0 k1 l0 ji8 (wrap64 (x4_1 + 1)) (wrap64 (x5_1 + 1))) = some r := by first | (rw [hji8] at H; exact H) | (simp only [hji8] at H ⊢; exact H)
        have hji8_ : (if x3_1 < (wrap64 (x4_1 + 1)) then (wrap64 (x4_1 + 1)) else x3_1) = ji8 := hji8; have H' := Aside0.mk H; clear H; have p594 : 0 ≤ (x5_1 : Int) := da_; have q594 : x5_1 < (l0.length : Int) := da_; obtain ⟨ad594, e594, hx594_0⟩ := Kd.at_int HR0.out x5_1 p594 q594; cases e594; replace hx594_0 := (wc_ HB.out hx594_0 :); replace p594 := eq_true p594; replace q594 := eq_true q594; have p595 : 0 ≤ ((ji4) : Int) := da_; have q595 : (ji4) < (l0.length : Int) := da_; obtain ⟨ad595, e595, hx595_0⟩ := Kd.at_int HR0.out (ji4) p595 q595; obtain rfl : ad594 = ad595 := (by injection e595); replace hx595_0 := (wc_ HB.out hx595_0 :); replace p595 := eq_true p595; replace q595 := eq_true q595; go_wp2
        repeat (go_quiet (fail); try go_wp2)
        go_roundg k1
        case measure => have := HK1.out; omega
        case rel => exact ⟨(ji8), (wrap64 (x4_1 + 1)), (wrap64 (x5_1 + 1)), (by first | rfl | (simp; done) | (simp only [← hji8] <;> (first | rfl | simp)) | (simp [*]; done)), sv_, sv_, H', ⟨by have := HK1.out; omega⟩, ⟨bb_ HB.out⟩⟩
       ·rw [if_neg c7] at H; have c7b0 : ((rd l0 x5_1) == (rd l0 (ji4))) = false := beq_eq_false_iff_ne.mpr c7; have c7b1 : ((rd l0 x5_1) != (rd l0 (ji4))) = true := bne_iff_ne.mpr c7; obtain ⟨ji9, hji9⟩ : ∃ j_ : Int, (mx x3_1 0) = j_ := ⟨_, rfl⟩
        replace H : (impl_mostRepeats.l0 k1 l0 ji9 0 (wrap64 (x5_1 + 1))) = some r := by first | (rw [hji9] at H; exact H) | (simp only [hji9] at H ⊢; exact H)
        have hji9_ : (if x3_1 < 0 then 0 else x3_1) = ji9 := hji9; have H' := Aside0.mk H; clear H; have p594 : 0 ≤ (x5_1 : Int) := da_; have q594 : x5_1 < (l0.length : Int) := da_; obtain ⟨ad594, e594, hx594_0⟩ := Kd.at_int HR0.out x5_1 p594 q594; cases e594; replace hx594_0 := (wc_ HB.out hx594_0 :); replace p594 := eq_true p594; replace q594 := eq_true q594; have p595 : 0 ≤ ((ji4) : Int) := da_; have q595 : (ji4) < (l0.length : Int) := da_; obtain ⟨ad595, e595, hx595_0⟩ := Kd.at_int HR0.out (ji4) p595 q595; obtain rfl : ad594 = ad595 := (by injection e595); replace hx595_0 := (wc_ HB.out hx595_0 :); replace p595 := eq_true p595; replace q595 := eq_true q595; go_wp2
        repeat (go_quiet (fail); try go_wp2)
        go_roundg k1
        case measure => have := HK1.out; omega
        case rel => exact ⟨(ji9), (0), (wrap64 (x5_1 + 1)), (by first | rfl | (simp; done) | (simp only [← hji9] <;> (first | rfl | simp)) | (simp [*]; done)), sv_, sv_, H', ⟨by have := HK1.out; omega⟩, ⟨bb_ HB.out⟩⟩
      ·rw [if_neg c6] at H; exact absurd H (by simp)
     ·rw [if_neg c5] at H; exact absurd H (by simp)
    ·rw [if_neg c3] at H; exact absurd H (by simp)
   ·rw [if_neg c2] at H; have c2b0 : decide (x5_1 < (l0.length : Int)) = false := decide_eq_false c2; clear c2; obtain rfl := Option.some.inj H; go_wp2
    repeat (go_quiet (fail); try go_wp2)
    go_ret
    exact ⟨by first | rfl | (simp [errW_none, errW_some] <;> rfl) | (simp [*, errW_none, errW_some] <;> rfl), bb_ HB.out⟩
theorem dN1 {w : World} {a b : Nat} : (w.drewN a).drewN b = w.drewN (a + b) := World.drewN_drewN _ _ _
theorem dN2 {w : World} {a b c : Nat} : (w.drewN (a + b)).drewN c = w.drewN (a + (b + c)) := Eq.trans (World.drewN_drewN _ _ _) (congrArg (World.drewN _) (Nat.add_assoc _ _ _))
abbrev y_ : Bool := true
abbrev n_ : Bool := false
end Go.Proofs.Ytinlejhffokbaaa.P
end
