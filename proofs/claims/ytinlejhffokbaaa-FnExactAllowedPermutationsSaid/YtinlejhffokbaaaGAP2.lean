/- Texts of this seat, merged: QImplRagaReason, QImplRagaFirstwrong, QImplOnlynamebytes, QImplIsname, QImplToneok, QImplIncreasing, QImplValidscale, QCmpIsnanInt64, QCmpCompareInt64, QSlicesCompareInt64Int64. -/
import Derived.Test.YtinlejhffokbaaaGAP1
section
namespace Go.Proofs.Ytinlejhffokbaaa.P
open Go.RowKit Go.Proofs.YtinlejhffokbaaaW.PrintWords Go.Proofs.YtinlejhffokbaaaW.PrintLast Go.Proofs.YtinlejhffokbaaaW.PrintMore
attribute [local go_sem] max2_int min2_int max_two min_two max_three min_three max_four min_four   -- for this text's walks alone
set_option linter.unusedVariables false
set_option linter.unusedSimpArgs false
/-- A state of type 2 at block g of W; what its slices lead to came in by w0. -/
def IsS2 (w0 W : World) (g : Nat) (f0 : Int) : Prop := W.heap[g]? = some (.cells #[.int .i64 f0] 2 (0, 0)) ∧ w0.heap.size ≤ g
theorem IsS2.grown {w0 W : World} {g : Nat} {f0 : Int} {W1 : World} {row : Option Nat} (h : IsS2 w0 W g f0) (hw : W.grownBy W1 row) (hne : some g ≠ row) : IsS2 w0 W1 g f0 := by
 obtain ⟨hb, hg⟩ := h
 exact ⟨blk_grown hb hw hne, hg⟩
theorem IsS2.own_neN {w0 W : World} {g : Nat} {f0 : Int} {α : Type} {d : Kd α} {e : Nat} {base : Nat} {ok : Nat → Prop} {v : Value} {xs : List α} (h : IsS2 w0 W g f0) (ho : Kd.N d e W base ok v xs) (ht : e ≠ 2) : some g ≠ v.ownBlock := by
 obtain ⟨hb, hg⟩ := h
 exact Kd.N_ne ho hb ht
theorem IsS2.fresh {w0 W : World} {g : Nat} {f0 : Int} (h : IsS2 w0 W g f0) : ∀ k, W.heap.size ≤ k → k ≠ g := by
 obtain ⟨hb, hg⟩ := h
 exact Kd.freshB hb
theorem IsS2.kept {w0 W : World} {g : Nat} {f0 : Int} {W1 : World} {S : Nat → Prop} (h : IsS2 w0 W g f0) (hk : Kept W W1 S) (hne : ¬ S g) : IsS2 w0 W1 g f0 := by
 obtain ⟨hb, hg⟩ := h
 exact ⟨blk_kept hb hk hne, hg⟩
theorem IsS2.below {w0 W : World} {g : Nat} {f0 : Int} {W1 : World} (h : IsS2 w0 W g f0) (hw : Below W.heap.size W W1) : IsS2 w0 W1 g f0 := h.grown (grown_of_below hw none) (by simp)
theorem IsS2.alloc {w0 W : World} {g : Nat} {f0 : Int} (h : IsS2 w0 W g f0) (o : Obj) : IsS2 w0 (W.alloc o) g f0 := h.below (below_alloc (Below.refl _ _) o)
theorem IsS2.drewN {w0 W : World} {g : Nat} {f0 : Int} (h : IsS2 w0 W g f0) (m : Nat) : IsS2 w0 (W.drewN m) g f0 := h
theorem IsS2.drew {w0 W : World} {g : Nat} {f0 : Int} (h : IsS2 w0 W g f0) : IsS2 w0 W.drew g f0 := h
theorem IsS2.at_ {w0 W : World} {g : Nat} {f0 : Int} {w' : World} {m : Nat} (hq : W.drewN m = w') (h : IsS2 w0 W g f0) : IsS2 w0 w' g f0 := by subst hq; exact IsS2.drewN h m
theorem IsS2.apart {w0 W : World} {g : Nat} {f0 : Int} {α : Type} {d : Kd α} {e : Nat} {base : Nat} {ok : Nat → Prop} {v : Value} {xs : List α} (h : IsS2 w0 W g f0) (ho : d.R e W base ok v xs) (ht : ∀ q, q ∈ e :: d.E → q ≠ 2) : d.R e W base (fun k => ok k ∧ k ≠ g) v xs := by
 obtain ⟨hb, hg⟩ := h
 exact Kd.R_types ho hb ht
theorem IsS2.own_ne {w0 W : World} {g : Nat} {f0 : Int} {α : Type} {d : Kd α} {e : Nat} {base : Nat} {ok : Nat → Prop} {v : Value} {xs : List α} (h : IsS2 w0 W g f0) (ho : d.R e W base ok v xs) (ht : e ≠ 2) : some g ≠ v.ownBlock := by
 obtain ⟨hb, hg⟩ := h
 exact Kd.R_ne ho hb ht
theorem IsS2.apartQ {w0 W : World} {g : Nat} {f0 : Int} {α : Type} {d : Kd α} {e : Nat} {base : Nat} {ok : Nat → Prop} {v : Value} {xs : List α} (h : IsS2 w0 W g f0) (ho : d.Q e W base ok v xs) (ht : ∀ q, q ∈ e :: d.E → q ≠ 2) : d.Q e W base (fun k => ok k ∧ k ≠ g) v xs := by
 obtain ⟨hb, hg⟩ := h
 exact Kd.Q_types ho hb ht
theorem IsS2.own_neQ {w0 W : World} {g : Nat} {f0 : Int} {α : Type} {d : Kd α} {e : Nat} {base : Nat} {ok : Nat → Prop} {v : Value} {xs : List α} (h : IsS2 w0 W g f0) (ho : d.Q e W base ok v xs) (ht : e ≠ 2) : some g ≠ v.ownBlock := by
 obtain ⟨hb, hg⟩ := h
 exact Kd.Q_ne ho hb ht
theorem IsS2.apartS {w0 W : World} {g : Nat} {f0 : Int} {α : Type} {d : Kd α} {e : Nat} {base : Nat} {ok : Nat → Prop} {v : Value} {xs : List α} (h : IsS2 w0 W g f0) (ho : d.S e W base ok v xs) (ht : ∀ q, q ∈ e :: d.E → q ≠ 2) : d.S e W base (fun k => ok k ∧ k ≠ g) v xs := by
 obtain ⟨hb, hg⟩ := h
 exact Kd.S_types ho hb ht
theorem IsS2.own_neS {w0 W : World} {g : Nat} {f0 : Int} {α : Type} {d : Kd α} {e : Nat} {base : Nat} {ok : Nat → Prop} {v : Value} {xs : List α} (h : IsS2 w0 W g f0) (ho : d.S e W base ok v xs) (ht : e ≠ 2) : some g ≠ v.ownBlock := by
 obtain ⟨hb, hg⟩ := h
 exact Kd.S_ne ho hb ht
theorem IsS2.lt {w0 W : World} {g : Nat} {f0 : Int} (h : IsS2 w0 W g f0) : g < W.heap.size := by
 obtain ⟨hb, hg⟩ := h
 exact blk_lt hb
theorem IsS2.ge {w0 W : World} {g : Nat} {f0 : Int} (h : IsS2 w0 W g f0) : w0.heap.size ≤ g := by
 obtain ⟨hb, hg⟩ := h
 exact hg
theorem IsS2.ne_blk {w0 W : World} {g : Nat} {f0 : Int} {a : Nat} {cs : Array Value} {t : TypeId} {fr : Nat × Nat} (h : IsS2 w0 W g f0) (hb2 : W.heap[a]? = some (.cells cs t fr)) (ht : t ≠ 2) : g ≠ a := by
 obtain ⟨hb, hg⟩ := h
 rintro rfl
 rw [hb] at hb2
 injection hb2 with hb2
 injection hb2 with _ ht2
 exact ht ht2.symm
theorem IsS2.far {w0 W : World} {g : Nat} {f0 : Int} {p : Addr} (h : IsS2 w0 W g f0) (hne : g ≠ p.block) (u : Value) : IsS2 w0 (W.setCell p u) g f0 := by
 obtain ⟨hb, hg⟩ := h
 exact ⟨blk_far hb hne u, hg⟩
theorem cellS2_0 {W : World} {g : Nat} {f0 : Int} (h : W.heap[g]? = some (.cells #[.int .i64 f0] 2 (0, 0))) : W.cell? ⟨g, 0, none⟩ = some (.int .i64 f0) := (blk_cell h 0).trans rfl
theorem IsS2.set_0 {w0 W : World} {g : Nat} {f0 : Int} (h : IsS2 w0 W g f0) (x : Int) : IsS2 w0 (W.setCell ⟨g, 0, none⟩ (.int .i64 x)) g x := by
 obtain ⟨hb, hg⟩ := h
 exact ⟨by simpa using blk_set hb 0 (.int .i64 x), hg⟩
theorem IsS2.new (w0 W : World) (f0 : Int) (hB : Below w0.heap.size w0 W) : IsS2 w0 (W.alloc (.cells #[.int .i64 f0] 2)) W.heap.size f0 := ⟨by simpa using heap_alloc_new W _, hB.size⟩

/-! ### impl_Raga_reason: function 120 -/
mutual
def impl_Raga_reason.j0 : Nat → Int → Int → Bool → ByteArray → List Int → List Int → Int → Int → List (List Int) → Int → Int → Option (Int)
 | 0, _, _, _, _, _, _, _, _, _, _, _ => none
 | k + 1, x1, x2, x13, x279000, x279001, x279002, x279003, x279004, x279005, x282000, x283000 => if x13 = true then (some 1) else ((impl_abs.f (wrap64 (x1 - x2))).bind fun t285 => (if t285 > 12 then (some 2) else (if x2 > x1 then ((slices_Contains_int64_int64.f k x279001 x283000).bind fun t286 => (impl_Raga_reason.j1 k x1 x2 (!t286) x279000 x279001 x279002 x279003 x279004 x279005 x282000 x283000)) else (impl_Raga_reason.j1 k x1 x2 false x279000 x279001 x279002 x279003 x279004 x279005 x282000 x283000))))
def impl_Raga_reason.j1 : Nat → Int → Int → Bool → ByteArray → List Int → List Int → Int → Int → List (List Int) → Int → Int → Option (Int)
 | 0, _, _, _, _, _, _, _, _, _, _, _ => none
 | k + 1, x1, x2, x30, x279000, x279001, x279002, x279003, x279004, x279005, x282000, x283000 => if x30 = true then (some 3) else (if x2 < x1 then ((slices_Contains_int64_int64.f k x279002 x283000).bind fun t287 => (impl_Raga_reason.j2 k (!t287) x279000 x279001 x279002 x279003 x279004 x279005 x282000 x283000)) else (impl_Raga_reason.j2 k false x279000 x279001 x279002 x279003 x279004 x279005 x282000 x283000))
def impl_Raga_reason.j2 : Nat → Bool → ByteArray → List Int → List Int → Int → Int → List (List Int) → Int → Int → Option (Int)
 | 0, _, _, _, _, _, _, _, _, _ => none
 | k + 1, x41, x279000, x279001, x279002, x279003, x279004, x279005, x282000, x283000 => if x41 = true then (some 4) else ((impl_reason_any.f x279005 x282000 x283000).bind fun t288 => (if t288 = true then (some 5) else (some 0)))
end
def impl_Raga_reason.f (k : Nat) (a0_0 : ByteArray) (l0_1 : List Int) (l0_2 : List Int) (a0_3 : Int) (a0_4 : Int) (l0_5 : List (List Int)) (a1 : Int) (a2 : Int) : Option (Int) := (impl_ToneOf.f a1).bind fun t279 => ((impl_ToneOf.f a2).bind fun t280 => ((impl_Raga_hasTone.f k a0_0 l0_1 l0_2 a0_3 a0_4 l0_5 t279).bind fun t283 => (if t283 = true then ((impl_Raga_hasTone.f k a0_0 l0_1 l0_2 a0_3 a0_4 l0_5 t280).bind fun t284 => (impl_Raga_reason.j0 k a1 a2 (!t284) a0_0 l0_1 l0_2 a0_3 a0_4 l0_5 t279 t280)) else (impl_Raga_reason.j0 k a1 a2 true a0_0 l0_1 l0_2 a0_3 a0_4 l0_5 t279 t280))))
theorem impl_Raga_reason.mono_l : ∀ k, (∀ y0 y1 y2 y3 y4 y5 y6 y7 y8 y9 y10, LeO (impl_Raga_reason.j0 k y0 y1 y2 y3 y4 y5 y6 y7 y8 y9 y10) (impl_Raga_reason.j0 (k + 1) y0 y1 y2 y3 y4 y5 y6 y7 y8 y9 y10)) ∧ (∀ y0 y1 y2 y3 y4 y5 y6 y7 y8 y9 y10, LeO (impl_Raga_reason.j1 k y0 y1 y2 y3 y4 y5 y6 y7 y8 y9 y10) (impl_Raga_reason.j1 (k + 1) y0 y1 y2 y3 y4 y5 y6 y7 y8 y9 y10)) ∧ (∀ y0 y1 y2 y3 y4 y5 y6 y7 y8, LeO (impl_Raga_reason.j2 k y0 y1 y2 y3 y4 y5 y6 y7 y8) (impl_Raga_reason.j2 (k + 1) y0 y1 y2 y3 y4 y5 y6 y7 y8))
 | 0 => ⟨fun _ _ _ _ _ _ _ _ _ _ _ r h => by simp [impl_Raga_reason.j0] at h, fun _ _ _ _ _ _ _ _ _ _ _ r h => by simp [impl_Raga_reason.j1] at h, fun _ _ _ _ _ _ _ _ _ r h => by simp [impl_Raga_reason.j2] at h⟩
 | k + 1 => by
  obtain ⟨ih0, ih1, ih2⟩ := impl_Raga_reason.mono_l k
  refine ⟨?_, ?_, ?_⟩
  ·intro y0 y1 y2 y3 y4 y5 y6 y7 y8 y9 y10
   unfold impl_Raga_reason.j0
   repeat' first
   | (with_reducible exact ih0 _ _ _ _ _ _ _ _ _ _ _)
   | (with_reducible exact ih1 _ _ _ _ _ _ _ _ _ _ _)
   | (with_reducible exact ih2 _ _ _ _ _ _ _ _ _)
   | (with_reducible exact impl_Raga_hasTone.mono _ _ _ _ _ _ _ _)
   | (with_reducible exact slices_Contains_int64_int64.mono _ _ _)
   | (with_reducible exact LeO.refl _)
   | (with_reducible exact LeO.none _)
   | (with_reducible refine LeO.ite ?_ ?_)
   | (with_reducible refine LeO.bind ?_ (fun _ => ?_))
   | exact ih0 _ _ _ _ _ _ _ _ _ _ _
   | exact ih1 _ _ _ _ _ _ _ _ _ _ _
   | exact ih2 _ _ _ _ _ _ _ _ _
   | exact impl_Raga_hasTone.mono _ _ _ _ _ _ _ _
   | exact slices_Contains_int64_int64.mono _ _ _
   | exact LeO.none _
   | refine LeO.ite ?_ ?_
   | refine LeO.bind ?_ (fun _ => ?_)
  ·intro y0 y1 y2 y3 y4 y5 y6 y7 y8 y9 y10
   unfold impl_Raga_reason.j1
   repeat' first
   | (with_reducible exact ih0 _ _ _ _ _ _ _ _ _ _ _)
   | (with_reducible exact ih1 _ _ _ _ _ _ _ _ _ _ _)
   | (with_reducible exact ih2 _ _ _ _ _ _ _ _ _)
   | (with_reducible exact impl_Raga_hasTone.mono _ _ _ _ _ _ _ _)
   | (with_reducible exact slices_Contains_int64_int64.mono _ _ _)
   | (with_reducible exact LeO.refl _)
   | (with_reducible exact LeO.none _)
   | (with_reducible refine LeO.ite ?_ ?_)
   | (with_reducible refine LeO.bind ?_ (fun _ => ?_))
   | exact ih0 _ _ _ _ _ _ _ _ _ _ _
   | exact ih1 _ _ _ _ _ _ _ _ _ _ _
   | exact ih2 _ _ _ _ _ _ _ _ _
   | exact impl_Raga_hasTone.mono _ _ _ _ _ _ _ _
   | exact slices_Contains_int64_int64.mono _ _ _
   | exact LeO.none _
   | refine LeO.ite ?_ ?_
   | refine LeO.bind ?_ (fun _ => ?_)
  ·intro y0 y1 y2 y3 y4 y5 y6 y7 y8
   unfold impl_Raga_reason.j2
   repeat' first
   | (with_reducible exact ih0 _ _ _ _ _ _ _ _ _ _ _)
   | (with_reducible exact ih1 _ _ _ _ _ _ _ _ _ _ _)
   | (with_reducible exact ih2 _ _ _ _ _ _ _ _ _)
   | (with_reducible exact impl_Raga_hasTone.mono _ _ _ _ _ _ _ _)
   | (with_reducible exact slices_Contains_int64_int64.mono _ _ _)
   | (with_reducible exact LeO.refl _)
   | (with_reducible exact LeO.none _)
   | (with_reducible refine LeO.ite ?_ ?_)
   | (with_reducible refine LeO.bind ?_ (fun _ => ?_))
   | exact ih0 _ _ _ _ _ _ _ _ _ _ _
   | exact ih1 _ _ _ _ _ _ _ _ _ _ _
   | exact ih2 _ _ _ _ _ _ _ _ _
   | exact impl_Raga_hasTone.mono _ _ _ _ _ _ _ _
   | exact slices_Contains_int64_int64.mono _ _ _
   | exact LeO.none _
   | refine LeO.ite ?_ ?_
   | refine LeO.bind ?_ (fun _ => ?_)
theorem impl_Raga_reason.mono : ∀ a0 a1 a2 a3 a4 a5 a6 a7 k, LeO (impl_Raga_reason.f k a0 a1 a2 a3 a4 a5 a6 a7) (impl_Raga_reason.f (k + 1) a0 a1 a2 a3 a4 a5 a6 a7) := by
 intro a0 a1 a2 a3 a4 a5 a6 a7 k
 obtain ⟨ih0, ih1, ih2⟩ := impl_Raga_reason.mono_l k
 unfold impl_Raga_reason.f
 repeat' first
   | (with_reducible exact ih0 _ _ _ _ _ _ _ _ _ _ _)
   | (with_reducible exact ih1 _ _ _ _ _ _ _ _ _ _ _)
   | (with_reducible exact ih2 _ _ _ _ _ _ _ _ _)
   | (with_reducible exact impl_Raga_hasTone.mono _ _ _ _ _ _ _ _)
   | (with_reducible exact slices_Contains_int64_int64.mono _ _ _)
   | (with_reducible exact LeO.refl _)
   | (with_reducible exact LeO.none _)
   | (with_reducible refine LeO.ite ?_ ?_)
   | (with_reducible refine LeO.bind ?_ (fun _ => ?_))
   | exact ih0 _ _ _ _ _ _ _ _ _ _ _
   | exact ih1 _ _ _ _ _ _ _ _ _ _ _
   | exact ih2 _ _ _ _ _ _ _ _ _
   | exact impl_Raga_hasTone.mono _ _ _ _ _ _ _ _
   | exact slices_Contains_int64_int64.mono _ _ _
   | exact LeO.none _
   | refine LeO.ite ?_ ?_
   | refine LeO.bind ?_ (fun _ => ?_)
set_option maxHeartbeats 8000000 in
set_option maxRecDepth 100000 in
theorem impl_Raga_reason.calls (k : Nat) (a0_0 : ByteArray) (A0_1 : Option Addr) (c0_1 : Nat) (l0_1 : List Int) (A0_2 : Option Addr) (c0_2 : Nat) (l0_2 : List Int) (a0_3 : Int) (a0_4 : Int) (A0_5 : Option Addr) (c0_5 : Nat) (l0_5 : List (List Int)) (a1 : Int) (a2 : Int) (r : Int) (w : World) (hr0_1 : Kd.C (Kd.int .i64) w A0_1 l0_1.length l0_1) (hc0_1 : l0_1.length ≤ c0_1) (hr0_2 : Kd.C (Kd.int .i64) w A0_2 l0_2.length l0_2) (hc0_2 : l0_2.length ≤ c0_2) (hr0_5 : Kd.C (Kd.slice 2 (Kd.int .i64)) w A0_5 l0_5.length l0_5) (hc0_5 : l0_5.length ≤ c0_5) (h : impl_Raga_reason.f k a0_0 l0_1 l0_2 a0_3 a0_4 l0_5 a1 a2 = some r) :
  Calls Try.prog 120 #[.agg #[.string a0_0, .slice A0_1 l0_1.length c0_1, .slice A0_2 l0_2.length c0_2, .int .i64 a0_3, .int .i64 a0_4, .slice A0_5 l0_5.length c0_5], .int .i64 a1, .int .i64 a2] w fun e w' => e = .returned (.int .i64 r) ∧ Below w.heap.size w w' := by
 have hu29 := Try.underlying29
 have HR0_1 := Aside0.mk hr0_1
 have HC0_1 := Aside0.mk hc0_1
 clear hr0_1 hc0_1
 have HR0_2 := Aside0.mk hr0_2
 have HC0_2 := Aside0.mk hc0_2
 clear hr0_2 hc0_2
 have HR0_5 := Aside0.mk hr0_5
 have HC0_5 := Aside0.mk hc0_5
 clear hr0_5 hc0_5
 have HB := Aside0.mk (Below.refl w.heap.size w)
 have H : ((impl_ToneOf.f a1).bind fun t279 => ((impl_ToneOf.f a2).bind fun t280 => ((impl_Raga_hasTone.f k a0_0 l0_1 l0_2 a0_3 a0_4 l0_5 t279).bind fun t283 => (if t283 = true then ((impl_Raga_hasTone.f k a0_0 l0_1 l0_2 a0_3 a0_4 l0_5 t280).bind fun t284 => (impl_Raga_reason.j0 k a1 a2 (!t284) a0_0 l0_1 l0_2 a0_3 a0_4 l0_5 t279 t280)) else (impl_Raga_reason.j0 k a1 a2 true a0_0 l0_1 l0_2 a0_3 a0_4 l0_5 t279 t280))))) = some r := h
 clear h
 replace H := Option.bind_eq_some_iff.mp H
 obtain ⟨t279, A40, H⟩ := H
 replace H : ((impl_ToneOf.f a2).bind fun t280 => ((impl_Raga_hasTone.f k a0_0 l0_1 l0_2 a0_3 a0_4 l0_5 t279).bind fun t283 => (if t283 = true then ((impl_Raga_hasTone.f k a0_0 l0_1 l0_2 a0_3 a0_4 l0_5 t280).bind fun t284 => (impl_Raga_reason.j0 k a1 a2 (!t284) a0_0 l0_1 l0_2 a0_3 a0_4 l0_5 t279 t280)) else (impl_Raga_reason.j0 k a1 a2 true a0_0 l0_1 l0_2 a0_3 a0_4 l0_5 t279 t280)))) = some r := H
 have A4 := Aside0.mk A40
 clear A40
 replace H := Option.bind_eq_some_iff.mp H
 obtain ⟨t280, A50, H⟩ := H
 replace H : ((impl_Raga_hasTone.f k a0_0 l0_1 l0_2 a0_3 a0_4 l0_5 t279).bind fun t283 => (if t283 = true then ((impl_Raga_hasTone.f k a0_0 l0_1 l0_2 a0_3 a0_4 l0_5 t280).bind fun t284 => (impl_Raga_reason.j0 k a1 a2 (!t284) a0_0 l0_1 l0_2 a0_3 a0_4 l0_5 t279 t280)) else (impl_Raga_reason.j0 k a1 a2 true a0_0 l0_1 l0_2 a0_3 a0_4 l0_5 t279 t280))) = some r := H
 have A5 := Aside0.mk A50
 clear A50
 have HC6 := Aside0.mk H
 clear H
 go_enter Try.func120, Try.ntmps120
 go_upto_region 2 with (first | ((with_reducible refine gate_dst (N := 3) rfl ?_); refine box_event ?hg (N := 3) ?hd (cs := #[.string a0_0, .slice A0_1 l0_1.length c0_1, .slice A0_2 l0_2.length c0_2, .int .i64 a0_3, .int .i64 a0_4, .slice A0_5 l0_5.length c0_5]) (t := 29) ?hr ?_; (case hd => rfl); (case hg => rfl); (case hr => first | (go_simp; done) | (go_simp; rfl)); intro gb278 hg w7 hbox hb; have n0_ := Aside0.mk (below_step (ba_ HB.out) hb); have n1_ := Aside0.mk (hbox); have n2_ := Aside0.mk ((by rw [hg]; exact (below_size (ba_ HB.out)) : w.heap.size ≤ gb278)); have n3_ := Aside0.mk ((by rw [hg]; exact (below_size (ba_ HB.out)) : w.heap.size ≤ gb278)); clear HB; have HB := n0_; have BK278 := n1_; have GW278 := n2_; have GE278 := n3_; clear n0_ n1_ n2_ n3_; clear hb hbox hg) | ((with_reducible refine gate_callee (f := 70) rfl ?_); refine goesL_ (some 10) rfl rfl Try.func70 (by kernel_rfl) rfl #[.int .i64 a1] rfl av_ ?_; (with_reducible refine (impl_ToneOf.calls a1 t279 _ A4.out).mono ?_); rintro e w' ⟨rfl, ⟨nd, rfl⟩⟩; refine ⟨_, rfl, ?_⟩; (try (rw [drewN_self w7]; generalize hq_ : World.drewN w7 _ = w7; have n0_ : Aside0 (w7.heap[gb278]? = some (.cells #[.string a0_0, .slice A0_1 l0_1.length c0_1, .slice A0_2 l0_2.length c0_2, .int .i64 a0_3, .int .i64 a0_4, .slice A0_5 l0_5.length c0_5] 29 (0, 0))) := ⟨by rw [← hq_]; exact (by repeat first | exact BK278.out | refine blk_drewN ?_ _ | refine blk_drew ?_ | refine blk_alloc ?_ _)⟩; have n1_ : Aside0 (Below w.heap.size w w7) := ⟨by rw [← hq_]; exact (bg_ HB.out GE278.out)⟩; clear BK278 HB hq_; have BK278 := n0_; have HB := n1_; clear n0_ n1_))) | ((with_reducible refine gate_callee (f := 70) rfl ?_); refine goesL_ (some 12) rfl rfl Try.func70 (by kernel_rfl) rfl #[.int .i64 a2] rfl av_ ?_; (with_reducible refine (impl_ToneOf.calls a2 t280 _ A5.out).mono ?_); rintro e w' ⟨rfl, ⟨nd, rfl⟩⟩; refine ⟨_, rfl, ?_⟩; (try (rw [drewN_self w7]; generalize hq_ : World.drewN w7 _ = w7; have n0_ : Aside0 (w7.heap[gb278]? = some (.cells #[.string a0_0, .slice A0_1 l0_1.length c0_1, .slice A0_2 l0_2.length c0_2, .int .i64 a0_3, .int .i64 a0_4, .slice A0_5 l0_5.length c0_5] 29 (0, 0))) := ⟨by rw [← hq_]; exact (by repeat first | exact BK278.out | refine blk_drewN ?_ _ | refine blk_drew ?_ | refine blk_alloc ?_ _)⟩; have n1_ : Aside0 (Below w.heap.size w w7) := ⟨by rw [← hq_]; exact (bg_ HB.out GE278.out)⟩; clear BK278 HB hq_; have BK278 := n0_; have HB := n1_; clear n0_ n1_))) | ((with_reducible refine gate_dst (N := 7) rfl ?_); refine box_event ?hg (N := 7) ?hd (cs := #[.int .i64 0]) (t := 2) ?hr ?_; (case hd => rfl); (case hg => rfl); (case hr => first | (go_simp; done) | (go_simp; rfl)); intro gb281 hg w8 hbox hb; have n0_ := Aside0.mk (blk_below (g := gb278) (o := .cells #[.string a0_0, .slice A0_1 l0_1.length c0_1, .slice A0_2 l0_2.length c0_2, .int .i64 a0_3, .int .i64 a0_4, .slice A0_5 l0_5.length c0_5] 29 (0, 0)) (by repeat first | exact BK278.out | refine blk_drewN ?_ _ | refine blk_drew ?_ | refine blk_alloc ?_ _) hb); have n1_ := Aside0.mk (below_step (bg_ HB.out GE278.out) hb); have n2_ := Aside0.mk (hbox); have n3_ := Aside0.mk ((by rw [hg]; exact (below_size (bg_ HB.out GE278.out)) : w.heap.size ≤ gb281)); have n4_ := Aside0.mk ((by rw [hg]; exact (below_size (bg_ HB.out GE278.out)) : w.heap.size ≤ gb281)); have n5_ := Aside0.mk ((by rw [hg]; exact Nat.ne_of_lt (blk_lt (g := gb278) (o := .cells #[.string a0_0, .slice A0_1 l0_1.length c0_1, .slice A0_2 l0_2.length c0_2, .int .i64 a0_3, .int .i64 a0_4, .slice A0_5 l0_5.length c0_5] 29 (0, 0)) (by repeat first | exact BK278.out | refine blk_drewN ?_ _ | refine blk_drew ?_ | refine blk_alloc ?_ _)) : gb278 ≠ gb281)); have n6_ := Aside0.mk ((by rw [hg]; exact Nat.ne_of_gt (blk_lt (g := gb278) (o := .cells #[.string a0_0, .slice A0_1 l0_1.length c0_1, .slice A0_2 l0_2.length c0_2, .int .i64 a0_3, .int .i64 a0_4, .slice A0_5 l0_5.length c0_5] 29 (0, 0)) (by repeat first | exact BK278.out | refine blk_drewN ?_ _ | refine blk_drew ?_ | refine blk_alloc ?_ _)) : gb281 ≠ gb278)); clear BK278; clear HB; have BK278 := n0_; have HB := n1_; have BK281 := n2_; have GW281 := n3_; have GE281 := n4_; have NB278_281 := n5_; have NB281_278 := n6_; clear n0_ n1_ n2_ n3_ n4_ n5_ n6_; clear hb hbox hg) | ((with_reducible refine gate_dst (N := 8) rfl ?_); refine box_event ?hg (N := 8) ?hd (cs := #[.int .i64 0]) (t := 2) ?hr ?_; (case hd => rfl); (case hg => rfl); (case hr => first | (go_simp; done) | (go_simp; rfl)); intro gb282 hg w9 hbox hb; have n0_ := Aside0.mk (blk_below (g := gb278) (o := .cells #[.string a0_0, .slice A0_1 l0_1.length c0_1, .slice A0_2 l0_2.length c0_2, .int .i64 a0_3, .int .i64 a0_4, .slice A0_5 l0_5.length c0_5] 29 (0, 0)) (by repeat first | exact BK278.out | refine blk_drewN ?_ _ | refine blk_drew ?_ | refine blk_alloc ?_ _) hb); have n1_ := Aside0.mk (blk_below (g := gb281) (o := .cells #[.int .i64 0] 2 (0, 0)) (by repeat first | exact BK281.out | refine blk_drewN ?_ _ | refine blk_drew ?_ | refine blk_alloc ?_ _) hb); have n2_ := Aside0.mk (below_step (bh_ HB.out GE278.out GE281.out) hb); have n3_ := Aside0.mk (hbox); have n4_ := Aside0.mk ((by rw [hg]; exact (below_size (bh_ HB.out GE278.out GE281.out)) : w.heap.size ≤ gb282)); have n5_ := Aside0.mk ((by rw [hg]; exact (below_size (bh_ HB.out GE278.out GE281.out)) : w.heap.size ≤ gb282)); have n6_ := Aside0.mk ((by rw [hg]; exact Nat.ne_of_lt (blk_lt (g := gb278) (o := .cells #[.string a0_0, .slice A0_1 l0_1.length c0_1, .slice A0_2 l0_2.length c0_2, .int .i64 a0_3, .int .i64 a0_4, .slice A0_5 l0_5.length c0_5] 29 (0, 0)) (by repeat first | exact BK278.out | refine blk_drewN ?_ _ | refine blk_drew ?_ | refine blk_alloc ?_ _)) : gb278 ≠ gb282)); have n7_ := Aside0.mk ((by rw [hg]; exact Nat.ne_of_gt (blk_lt (g := gb278) (o := .cells #[.string a0_0, .slice A0_1 l0_1.length c0_1, .slice A0_2 l0_2.length c0_2, .int .i64 a0_3, .int .i64 a0_4, .slice A0_5 l0_5.length c0_5] 29 (0, 0)) (by repeat first | exact BK278.out | refine blk_drewN ?_ _ | refine blk_drew ?_ | refine blk_alloc ?_ _)) : gb282 ≠ gb278)); have n8_ := Aside0.mk ((by rw [hg]; exact Nat.ne_of_lt (blk_lt (g := gb281) (o := .cells #[.int .i64 0] 2 (0, 0)) (by repeat first | exact BK281.out | refine blk_drewN ?_ _ | refine blk_drew ?_ | refine blk_alloc ?_ _)) : gb281 ≠ gb282)); have n9_ := Aside0.mk ((by rw [hg]; exact Nat.ne_of_gt (blk_lt (g := gb281) (o := .cells #[.int .i64 0] 2 (0, 0)) (by repeat first | exact BK281.out | refine blk_drewN ?_ _ | refine blk_drew ?_ | refine blk_alloc ?_ _)) : gb282 ≠ gb281)); clear BK278; clear BK281; clear HB; have BK278 := n0_; have BK281 := n1_; have HB := n2_; have BK282 := n3_; have GW282 := n4_; have GE282 := n5_; have NB278_282 := n6_; have NB282_278 := n7_; have NB281_282 := n8_; have NB282_281 := n9_; clear n0_ n1_ n2_ n3_ n4_ n5_ n6_ n7_ n8_ n9_; clear hb hbox hg; have hnb10 := NB281_278.out; have hnc10 := NB278_281.out; have hnb11 := NB281_282.out; have hnc11 := NB282_281.out; have hcz12_0 : w9.cell? ⟨gb281, 0, none⟩ = some (.int .i64 0) := (blk_cell BK281.out 0).trans rfl; have hfz12_0 := blk_frozen BK281.out 0; have hnb13 := NB282_278.out; have hnc13 := NB278_282.out; have hcz14_0 : w9.cell? ⟨gb282, 0, none⟩ = some (.int .i64 0) := (blk_cell BK282.out 0).trans rfl; have hfz14_0 := blk_frozen BK282.out 0))
 (try simp only [Act.put, List.setIfInBounds_toArray, List.set_cons_zero, List.set_cons_succ])
 go_cut [13] (fun v13 wc => ∃ (kq : Nat) (x13_5 : Bool), v13 = .bool x13_5 ∧ Aside0 (impl_Raga_reason.j0 kq a1 a2 x13_5 a0_0 l0_1 l0_2 a0_3 a0_4 l0_5 t279 t280 = some r) ∧ Aside0 (kq ≤ k) ∧ Aside0 (wc.heap[gb278]? = some (.cells #[.string a0_0, (.slice A0_1 l0_1.length c0_1), (.slice A0_2 l0_2.length c0_2), .int .i64 a0_3, .int .i64 a0_4, (.slice A0_5 l0_5.length c0_5)] 29 (0, 0))) ∧ Aside0 (wc.heap[gb281]? = some (.cells #[.int .i64 t279] 2 (0, 0))) ∧ Aside0 (wc.heap[gb282]? = some (.cells #[.int .i64 t280] 2 (0, 0))) ∧ Aside0 (Below w.heap.size w wc))
 case first =>
  have H := HC6.out
  clear HC6
  replace H := Option.bind_eq_some_iff.mp H
  obtain ⟨t283, A150, H⟩ := H
  replace H : (if t283 = true then ((impl_Raga_hasTone.f k a0_0 l0_1 l0_2 a0_3 a0_4 l0_5 t280).bind fun t284 => (impl_Raga_reason.j0 k a1 a2 (!t284) a0_0 l0_1 l0_2 a0_3 a0_4 l0_5 t279 t280)) else (impl_Raga_reason.j0 k a1 a2 true a0_0 l0_1 l0_2 a0_3 a0_4 l0_5 t279 t280)) = some r := H
  have A15 := Aside0.mk A150
  clear A150
  by_cases c16 : t283 = true
  ·subst c16
   have H1 : ((impl_Raga_hasTone.f k a0_0 l0_1 l0_2 a0_3 a0_4 l0_5 t280).bind fun t284 => (impl_Raga_reason.j0 k a1 a2 (!t284) a0_0 l0_1 l0_2 a0_3 a0_4 l0_5 t279 t280)) = some r := by rw [if_pos rfl] at H; exact H
   clear H
   have H := H1
   clear H1
   replace H := Option.bind_eq_some_iff.mp H
   obtain ⟨t284, A170, H⟩ := H
   replace H : (impl_Raga_reason.j0 k a1 a2 (!t284) a0_0 l0_1 l0_2 a0_3 a0_4 l0_5 t279 t280) = some r := H
   have A17 := Aside0.mk A170
   clear A170
   have H' := Aside0.mk H
   clear H
   have hnb18 := NB278_281.out
   have hnc18 := NB281_278.out
   have hnb19 := NB278_282.out
   have hnc19 := NB282_278.out
   have hcz20_0 : w9.cell? ⟨gb278, 0, none⟩ = some (.string a0_0) := (blk_cell BK278.out 0).trans rfl
   have hcz20_1 : w9.cell? ⟨gb278, 1, none⟩ = some (.slice A0_1 l0_1.length c0_1) := (blk_cell BK278.out 1).trans rfl
   have hcz20_2 : w9.cell? ⟨gb278, 2, none⟩ = some (.slice A0_2 l0_2.length c0_2) := (blk_cell BK278.out 2).trans rfl
   have hcz20_3 : w9.cell? ⟨gb278, 3, none⟩ = some (.int .i64 a0_3) := (blk_cell BK278.out 3).trans rfl
   have hcz20_4 : w9.cell? ⟨gb278, 4, none⟩ = some (.int .i64 a0_4) := (blk_cell BK278.out 4).trans rfl
   have hcz20_5 : w9.cell? ⟨gb278, 5, none⟩ = some (.slice A0_5 l0_5.length c0_5) := (blk_cell BK278.out 5).trans rfl
   have hfz20_0 := blk_frozen BK278.out 0
   have hfz20_1 := blk_frozen BK278.out 1
   have hfz20_2 := blk_frozen BK278.out 2
   have hfz20_3 := blk_frozen BK278.out 3
   have hfz20_4 := blk_frozen BK278.out 4
   have hfz20_5 := blk_frozen BK278.out 5
   have hnb21 := NB281_282.out
   have hnc21 := NB282_281.out
   have hcz22_0 : w9.cell? ⟨gb281, 0, none⟩ = some (.int .i64 0) := (blk_cell BK281.out 0).trans rfl
   have hfz22_0 := blk_frozen BK281.out 0
   go_wp2_with (first | ((with_reducible refine gate_callee (f := 69) rfl ?_); refine goesL_ (some 16) rfl rfl Try.func69 (by kernel_rfl) rfl #[.agg #[.string a0_0, .slice A0_1 l0_1.length c0_1, .slice A0_2 l0_2.length c0_2, .int .i64 a0_3, .int .i64 a0_4, .slice A0_5 l0_5.length c0_5], .int .i64 t279] rfl av_ ?_; (with_reducible refine (impl_Raga_hasTone.calls k a0_0 _ _ l0_1 _ _ l0_2 a0_3 a0_4 _ _ l0_5 t279 true _ ?side1 ?side2 ?side3 ?side4 ?side5 ?side6 A15.out).mono ?_); (case side1 => exact Kd.C_below HR0_1.out (bi_ HB.out GE278.out GE281.out GE282.out)); (case side2 => exact HC0_1.out); (case side3 => exact Kd.C_below HR0_2.out (bi_ HB.out GE278.out GE281.out GE282.out)); (case side4 => exact HC0_2.out); (case side5 => exact Kd.C_below HR0_5.out (bi_ HB.out GE278.out GE281.out GE282.out)); (case side6 => exact HC0_5.out); rintro e w23 ⟨rfl, hb⟩; refine ⟨_, rfl, ?_⟩; have n0_ := Aside0.mk (blk_below (g := gb278) (o := .cells #[.string a0_0, .slice A0_1 l0_1.length c0_1, .slice A0_2 l0_2.length c0_2, .int .i64 a0_3, .int .i64 a0_4, .slice A0_5 l0_5.length c0_5] 29 (0, 0)) (by (with_reducible repeat (first | refine blk_drewN ?_ _ | refine blk_drew ?_ | refine blk_alloc ?_ _)); refine blk_far ?_ NB278_282.out _; (with_reducible repeat (first | refine blk_drewN ?_ _ | refine blk_drew ?_ | refine blk_alloc ?_ _)); refine blk_far ?_ NB278_281.out _; exact bk_ BK278.out) hb); have n1_ := Aside0.mk (blk_below (g := gb281) (o := .cells #[.int .i64 t279] 2 (0, 0)) (by (with_reducible repeat (first | refine blk_drewN ?_ _ | refine blk_drew ?_ | refine blk_alloc ?_ _)); refine blk_far ?_ NB281_282.out _; (with_reducible repeat (first | refine blk_drewN ?_ _ | refine blk_drew ?_ | refine blk_alloc ?_ _)); refine blk_put (cs := #[.int .i64 0]) ?_ 0 _ rfl; exact bk_ BK281.out) hb); have n2_ := Aside0.mk (blk_below (g := gb282) (o := .cells #[.int .i64 t280] 2 (0, 0)) (by (with_reducible repeat (first | refine blk_drewN ?_ _ | refine blk_drew ?_ | refine blk_alloc ?_ _)); refine blk_put (cs := #[.int .i64 0]) ?_ 0 _ rfl; (with_reducible repeat (first | refine blk_drewN ?_ _ | refine blk_drew ?_ | refine blk_alloc ?_ _)); refine blk_far ?_ NB282_281.out _; exact bk_ BK282.out) hb); have n3_ := Aside0.mk (below_step (bi_ HB.out GE278.out GE281.out GE282.out) hb); clear BK278; clear BK281; clear BK282; clear HB; have BK278 := n0_; have BK281 := n1_; have BK282 := n2_; have HB := n3_; clear n0_ n1_ n2_ n3_; (try clear hb); (try clear hb2); (try clear hk); (try clear hi); have hcz24_0 : w23.cell? ⟨gb278, 0, none⟩ = some (.string a0_0) := (blk_cell BK278.out 0).trans rfl; have hcz24_1 : w23.cell? ⟨gb278, 1, none⟩ = some (.slice A0_1 l0_1.length c0_1) := (blk_cell BK278.out 1).trans rfl; have hcz24_2 : w23.cell? ⟨gb278, 2, none⟩ = some (.slice A0_2 l0_2.length c0_2) := (blk_cell BK278.out 2).trans rfl; have hcz24_3 : w23.cell? ⟨gb278, 3, none⟩ = some (.int .i64 a0_3) := (blk_cell BK278.out 3).trans rfl; have hcz24_4 : w23.cell? ⟨gb278, 4, none⟩ = some (.int .i64 a0_4) := (blk_cell BK278.out 4).trans rfl; have hcz24_5 : w23.cell? ⟨gb278, 5, none⟩ = some (.slice A0_5 l0_5.length c0_5) := (blk_cell BK278.out 5).trans rfl; have hfz24_0 := blk_frozen BK278.out 0; have hfz24_1 := blk_frozen BK278.out 1; have hfz24_2 := blk_frozen BK278.out 2; have hfz24_3 := blk_frozen BK278.out 3; have hfz24_4 := blk_frozen BK278.out 4; have hfz24_5 := blk_frozen BK278.out 5; have hcz25_0 : w23.cell? ⟨gb282, 0, none⟩ = some (.int .i64 t280) := (blk_cell BK282.out 0).trans rfl; have hfz25_0 := blk_frozen BK282.out 0) | (go_at_call 69; (with_reducible refine (impl_Raga_hasTone.calls k a0_0 _ _ l0_1 _ _ l0_2 a0_3 a0_4 _ _ l0_5 t280 t284 _ ?side1 ?side2 ?side3 ?side4 ?side5 ?side6 A17.out).mono ?_); (case side1 => exact (Kd.C_below HR0_1.out HB.out)); (case side2 => exact HC0_1.out); (case side3 => exact (Kd.C_below HR0_2.out HB.out)); (case side4 => exact HC0_2.out); (case side5 => exact (Kd.C_below HR0_5.out HB.out)); (case side6 => exact HC0_5.out); rintro e w26 ⟨rfl, hb⟩; have n0_ := Aside0.mk (blk_below (g := gb278) (o := .cells #[.string a0_0, .slice A0_1 l0_1.length c0_1, .slice A0_2 l0_2.length c0_2, .int .i64 a0_3, .int .i64 a0_4, .slice A0_5 l0_5.length c0_5] 29 (0, 0)) (by repeat first | exact BK278.out | refine blk_drewN ?_ _ | refine blk_drew ?_ | refine blk_alloc ?_ _) hb); have n1_ := Aside0.mk (blk_below (g := gb281) (o := .cells #[.int .i64 t279] 2 (0, 0)) (by repeat first | exact BK281.out | refine blk_drewN ?_ _ | refine blk_drew ?_ | refine blk_alloc ?_ _) hb); have n2_ := Aside0.mk (blk_below (g := gb282) (o := .cells #[.int .i64 t280] 2 (0, 0)) (by repeat first | exact BK282.out | refine blk_drewN ?_ _ | refine blk_drew ?_ | refine blk_alloc ?_ _) hb); have n3_ := Aside0.mk (below_step (bi_ HB.out GE278.out GE281.out GE282.out) hb); clear BK278; clear BK281; clear BK282; clear HB; have BK278 := n0_; have BK281 := n1_; have BK282 := n2_; have HB := n3_; clear n0_ n1_ n2_ n3_; (try clear hb); (try clear hb2); (try clear hk); (try clear hi)))
   go_meet
   case rel => exact ⟨_, (!t284), sv_, H', ⟨by first | omega | exact Nat.le_refl _⟩, ⟨by (with_reducible repeat (first | refine blk_drewN ?_ _ | refine blk_drew ?_ | refine blk_alloc ?_ _)); exact BK278.out⟩, ⟨by (with_reducible repeat (first | refine blk_drewN ?_ _ | refine blk_drew ?_ | refine blk_alloc ?_ _)); exact BK281.out⟩, ⟨by (with_reducible repeat (first | refine blk_drewN ?_ _ | refine blk_drew ?_ | refine blk_alloc ?_ _)); exact BK282.out⟩, ⟨bi_ HB.out GE278.out GE281.out GE282.out⟩⟩
  ·replace c16 := Bool.eq_false_iff.mpr c16
   subst c16
   have H1 : (impl_Raga_reason.j0 k a1 a2 true a0_0 l0_1 l0_2 a0_3 a0_4 l0_5 t279 t280) = some r := by rw [if_neg (show ¬ (false = true) by decide)] at H; exact H
   clear H
   have H := H1
   clear H1
   have H' := Aside0.mk H
   clear H
   have hnb27 := NB278_281.out
   have hnc27 := NB281_278.out
   have hnb28 := NB278_282.out
   have hnc28 := NB282_278.out
   have hcz29_0 : w9.cell? ⟨gb278, 0, none⟩ = some (.string a0_0) := (blk_cell BK278.out 0).trans rfl
   have hcz29_1 : w9.cell? ⟨gb278, 1, none⟩ = some (.slice A0_1 l0_1.length c0_1) := (blk_cell BK278.out 1).trans rfl
   have hcz29_2 : w9.cell? ⟨gb278, 2, none⟩ = some (.slice A0_2 l0_2.length c0_2) := (blk_cell BK278.out 2).trans rfl
   have hcz29_3 : w9.cell? ⟨gb278, 3, none⟩ = some (.int .i64 a0_3) := (blk_cell BK278.out 3).trans rfl
   have hcz29_4 : w9.cell? ⟨gb278, 4, none⟩ = some (.int .i64 a0_4) := (blk_cell BK278.out 4).trans rfl
   have hcz29_5 : w9.cell? ⟨gb278, 5, none⟩ = some (.slice A0_5 l0_5.length c0_5) := (blk_cell BK278.out 5).trans rfl
   have hfz29_0 := blk_frozen BK278.out 0
   have hfz29_1 := blk_frozen BK278.out 1
   have hfz29_2 := blk_frozen BK278.out 2
   have hfz29_3 := blk_frozen BK278.out 3
   have hfz29_4 := blk_frozen BK278.out 4
   have hfz29_5 := blk_frozen BK278.out 5
   have hnb30 := NB281_282.out
   have hnc30 := NB282_281.out
   have hcz31_0 : w9.cell? ⟨gb281, 0, none⟩ = some (.int .i64 0) := (blk_cell BK281.out 0).trans rfl
   have hfz31_0 := blk_frozen BK281.out 0
   go_wp2_with (first | ((with_reducible refine gate_callee (f := 69) rfl ?_); refine goesL_ (some 16) rfl rfl Try.func69 (by kernel_rfl) rfl #[.agg #[.string a0_0, .slice A0_1 l0_1.length c0_1, .slice A0_2 l0_2.length c0_2, .int .i64 a0_3, .int .i64 a0_4, .slice A0_5 l0_5.length c0_5], .int .i64 t279] rfl av_ ?_; (with_reducible refine (impl_Raga_hasTone.calls k a0_0 _ _ l0_1 _ _ l0_2 a0_3 a0_4 _ _ l0_5 t279 false _ ?side1 ?side2 ?side3 ?side4 ?side5 ?side6 A15.out).mono ?_); (case side1 => exact Kd.C_below HR0_1.out (bi_ HB.out GE278.out GE281.out GE282.out)); (case side2 => exact HC0_1.out); (case side3 => exact Kd.C_below HR0_2.out (bi_ HB.out GE278.out GE281.out GE282.out)); (case side4 => exact HC0_2.out); (case side5 => exact Kd.C_below HR0_5.out (bi_ HB.out GE278.out GE281.out GE282.out)); (case side6 => exact HC0_5.out); rintro e w32 ⟨rfl, hb⟩; refine ⟨_, rfl, ?_⟩; have n0_ := Aside0.mk (blk_below (g := gb278) (o := .cells #[.string a0_0, .slice A0_1 l0_1.length c0_1, .slice A0_2 l0_2.length c0_2, .int .i64 a0_3, .int .i64 a0_4, .slice A0_5 l0_5.length c0_5] 29 (0, 0)) (by (with_reducible repeat (first | refine blk_drewN ?_ _ | refine blk_drew ?_ | refine blk_alloc ?_ _)); refine blk_far ?_ NB278_282.out _; (with_reducible repeat (first | refine blk_drewN ?_ _ | refine blk_drew ?_ | refine blk_alloc ?_ _)); refine blk_far ?_ NB278_281.out _; exact bk_ BK278.out) hb); have n1_ := Aside0.mk (blk_below (g := gb281) (o := .cells #[.int .i64 t279] 2 (0, 0)) (by (with_reducible repeat (first | refine blk_drewN ?_ _ | refine blk_drew ?_ | refine blk_alloc ?_ _)); refine blk_far ?_ NB281_282.out _; (with_reducible repeat (first | refine blk_drewN ?_ _ | refine blk_drew ?_ | refine blk_alloc ?_ _)); refine blk_put (cs := #[.int .i64 0]) ?_ 0 _ rfl; exact bk_ BK281.out) hb); have n2_ := Aside0.mk (blk_below (g := gb282) (o := .cells #[.int .i64 t280] 2 (0, 0)) (by (with_reducible repeat (first | refine blk_drewN ?_ _ | refine blk_drew ?_ | refine blk_alloc ?_ _)); refine blk_put (cs := #[.int .i64 0]) ?_ 0 _ rfl; (with_reducible repeat (first | refine blk_drewN ?_ _ | refine blk_drew ?_ | refine blk_alloc ?_ _)); refine blk_far ?_ NB282_281.out _; exact bk_ BK282.out) hb); have n3_ := Aside0.mk (below_step (bi_ HB.out GE278.out GE281.out GE282.out) hb); clear BK278; clear BK281; clear BK282; clear HB; have BK278 := n0_; have BK281 := n1_; have BK282 := n2_; have HB := n3_; clear n0_ n1_ n2_ n3_; (try clear hb); (try clear hb2); (try clear hk); (try clear hi)))
   go_meet
   case rel => exact ⟨_, (true), sv_, H', ⟨by first | omega | exact Nat.le_refl _⟩, ⟨by (with_reducible repeat (first | refine blk_drewN ?_ _ | refine blk_drew ?_ | refine blk_alloc ?_ _)); exact BK278.out⟩, ⟨by (with_reducible repeat (first | refine blk_drewN ?_ _ | refine blk_drew ?_ | refine blk_alloc ?_ _)); exact BK281.out⟩, ⟨by (with_reducible repeat (first | refine blk_drewN ?_ _ | refine blk_drew ?_ | refine blk_alloc ?_ _)); exact BK282.out⟩, ⟨bi_ HB.out GE278.out GE281.out GE282.out⟩⟩
 case rest =>
  clear HC6
  (try clear c1); (try clear c2); (try clear p2); (try clear c3); (try clear c6); (try clear c7); (try clear c10); (try clear c11); (try clear c12); (try clear c13); (try clear c16); (try clear c18); (try clear c19); (try clear c21); (try clear c27); (try clear c28); (try clear c30); (try clear hcz12_0); (try clear hcz14_0); (try clear hcz20_0); (try clear hcz20_1); (try clear hcz20_2); (try clear hcz20_3); (try clear hcz20_4); (try clear hcz20_5); (try clear hcz22_0); (try clear hcz24_0); (try clear hcz24_1); (try clear hcz24_2); (try clear hcz24_3); (try clear hcz24_4); (try clear hcz24_5); (try clear hcz25_0); (try clear hcz29_0); (try clear hcz29_1); (try clear hcz29_2); (try clear hcz29_3); (try clear hcz29_4); (try clear hcz29_5); (try clear hcz31_0); (try clear hfz12_0); (try clear hfz14_0); (try clear hfz20_0); (try clear hfz20_1); (try clear hfz20_2); (try clear hfz20_3); (try clear hfz20_4); (try clear hfz20_5); (try clear hfz22_0); (try clear hfz24_0); (try clear hfz24_1); (try clear hfz24_2); (try clear hfz24_3); (try clear hfz24_4); (try clear hfz24_5); (try clear hfz25_0); (try clear hfz29_0); (try clear hfz29_1); (try clear hfz29_2); (try clear hfz29_3); (try clear hfz29_4); (try clear hfz29_5); (try clear hfz31_0)
  obtain ⟨kq, x13_5, rfl, HA, HJ5, BK278, BK281, BK282, HB⟩ := hcut
  cases kq with
  | zero => exact absurd HA.out (by simp [impl_Raga_reason.j0])
  | succ kj5 =>
   have H := HA.out
   clear HA
   simp only [impl_Raga_reason.j0] at H
   by_cases c33 : x13_5 = true
   ·subst c33
    have H1 : (some 1) = some r := by rw [if_pos rfl] at H; exact H
    clear H
    have H := H1
    clear H1
    obtain rfl := Option.some.inj H
    go_wp2
    go_ret
    exact ⟨by first | rfl | (simp [errW_none, errW_some] <;> rfl) | (simp [*, errW_none, errW_some] <;> rfl), bi_ HB.out GE278.out GE281.out GE282.out⟩
   ·replace c33 := Bool.eq_false_iff.mpr c33
    subst c33
    have H1 : ((impl_abs.f (wrap64 (a1 - a2))).bind fun t285 => (if t285 > 12 then (some 2) else (if a2 > a1 then ((slices_Contains_int64_int64.f kj5 l0_1 t280).bind fun t286 => (impl_Raga_reason.j1 kj5 a1 a2 (!t286) a0_0 l0_1 l0_2 a0_3 a0_4 l0_5 t279 t280)) else (impl_Raga_reason.j1 kj5 a1 a2 false a0_0 l0_1 l0_2 a0_3 a0_4 l0_5 t279 t280)))) = some r := by rw [if_neg (show ¬ (false = true) by decide)] at H; exact H
    clear H
    have H := H1
    clear H1
    replace H := Option.bind_eq_some_iff.mp H
    obtain ⟨t285, A340, H⟩ := H
    replace H : (if t285 > 12 then (some 2) else (if a2 > a1 then ((slices_Contains_int64_int64.f kj5 l0_1 t280).bind fun t286 => (impl_Raga_reason.j1 kj5 a1 a2 (!t286) a0_0 l0_1 l0_2 a0_3 a0_4 l0_5 t279 t280)) else (impl_Raga_reason.j1 kj5 a1 a2 false a0_0 l0_1 l0_2 a0_3 a0_4 l0_5 t279 t280))) = some r := H
    have A34 := Aside0.mk A340
    clear A340
    by_cases c35 : t285 > 12
    ·rw [if_pos c35] at H
     have c35b0 : decide (12 < t285) = true := decide_eq_true c35
     clear c35
     obtain rfl := Option.some.inj H
     go_wp2_with (first | ((with_reducible refine gate_callee (f := 138) rfl ?_); refine goesL_ (some 28) rfl rfl Try.func138 (by kernel_rfl) rfl #[.int .i64 (wrap64 (a1 - a2))] rfl av_ ?_; (with_reducible refine (impl_abs.calls (wrap64 (a1 - a2)) t285 _ A34.out).mono ?_); rintro e w36 ⟨rfl, hb⟩; refine ⟨_, rfl, ?_⟩; have n0_ := Aside0.mk (blk_below (g := gb278) (o := .cells #[.string a0_0, .slice A0_1 l0_1.length c0_1, .slice A0_2 l0_2.length c0_2, .int .i64 a0_3, .int .i64 a0_4, .slice A0_5 l0_5.length c0_5] 29 (0, 0)) (by repeat first | exact BK278.out | refine blk_drewN ?_ _ | refine blk_drew ?_ | refine blk_alloc ?_ _) hb); have n1_ := Aside0.mk (blk_below (g := gb281) (o := .cells #[.int .i64 t279] 2 (0, 0)) (by repeat first | exact BK281.out | refine blk_drewN ?_ _ | refine blk_drew ?_ | refine blk_alloc ?_ _) hb); have n2_ := Aside0.mk (blk_below (g := gb282) (o := .cells #[.int .i64 t280] 2 (0, 0)) (by repeat first | exact BK282.out | refine blk_drewN ?_ _ | refine blk_drew ?_ | refine blk_alloc ?_ _) hb); have n3_ := Aside0.mk (below_step (bi_ HB.out GE278.out GE281.out GE282.out) hb); clear BK278; clear BK281; clear BK282; clear HB; have BK278 := n0_; have BK281 := n1_; have BK282 := n2_; have HB := n3_; clear n0_ n1_ n2_ n3_; (try clear hb); (try clear hb2); (try clear hk); (try clear hi)))
     go_ret
     exact ⟨by first | rfl | (simp [errW_none, errW_some] <;> rfl) | (simp [*, errW_none, errW_some] <;> rfl), bi_ HB.out GE278.out GE281.out GE282.out⟩
    ·rw [if_neg c35] at H
     have c35b0 : decide (12 < t285) = false := decide_eq_false c35
     clear c35
     have HC37 := Aside0.mk H
     clear H
     go_upto_region 6 with (first | ((with_reducible refine gate_callee (f := 138) rfl ?_); refine goesL_ (some 28) rfl rfl Try.func138 (by kernel_rfl) rfl #[.int .i64 (wrap64 (a1 - a2))] rfl av_ ?_; (with_reducible refine (impl_abs.calls (wrap64 (a1 - a2)) t285 _ A34.out).mono ?_); rintro e w38 ⟨rfl, hb⟩; refine ⟨_, rfl, ?_⟩; have n0_ := Aside0.mk (blk_below (g := gb278) (o := .cells #[.string a0_0, .slice A0_1 l0_1.length c0_1, .slice A0_2 l0_2.length c0_2, .int .i64 a0_3, .int .i64 a0_4, .slice A0_5 l0_5.length c0_5] 29 (0, 0)) (by repeat first | exact BK278.out | refine blk_drewN ?_ _ | refine blk_drew ?_ | refine blk_alloc ?_ _) hb); have n1_ := Aside0.mk (blk_below (g := gb281) (o := .cells #[.int .i64 t279] 2 (0, 0)) (by repeat first | exact BK281.out | refine blk_drewN ?_ _ | refine blk_drew ?_ | refine blk_alloc ?_ _) hb); have n2_ := Aside0.mk (blk_below (g := gb282) (o := .cells #[.int .i64 t280] 2 (0, 0)) (by repeat first | exact BK282.out | refine blk_drewN ?_ _ | refine blk_drew ?_ | refine blk_alloc ?_ _) hb); have n3_ := Aside0.mk (below_step (bi_ HB.out GE278.out GE281.out GE282.out) hb); clear BK278; clear BK281; clear BK282; clear HB; have BK278 := n0_; have BK281 := n1_; have BK282 := n2_; have HB := n3_; clear n0_ n1_ n2_ n3_; (try clear hb); (try clear hb2); (try clear hk); (try clear hi)))
     (try simp only [Act.put, List.setIfInBounds_toArray, List.set_cons_zero, List.set_cons_succ])
     go_cut [30] (fun v30 wc => ∃ (kq : Nat) (x30_36 : Bool), v30 = .bool x30_36 ∧ Aside0 (impl_Raga_reason.j1 kq a1 a2 x30_36 a0_0 l0_1 l0_2 a0_3 a0_4 l0_5 t279 t280 = some r) ∧ Aside0 (kq ≤ kj5) ∧ Aside0 (wc.heap[gb278]? = some (.cells #[.string a0_0, (.slice A0_1 l0_1.length c0_1), (.slice A0_2 l0_2.length c0_2), .int .i64 a0_3, .int .i64 a0_4, (.slice A0_5 l0_5.length c0_5)] 29 (0, 0))) ∧ Aside0 (wc.heap[gb281]? = some (.cells #[.int .i64 t279] 2 (0, 0))) ∧ Aside0 (wc.heap[gb282]? = some (.cells #[.int .i64 t280] 2 (0, 0))) ∧ Aside0 (Below w.heap.size w wc))
     case first =>
      have H := HC37.out
      clear HC37
      by_cases c39 : a2 > a1
      ·rw [if_pos c39] at H
       have c39b0 : decide (a1 < a2) = true := decide_eq_true c39
       clear c39
       (first | rw [c39b0] | (simp only [i64_w, i32_w]; rw [c39b0]) | skip)
       replace H := Option.bind_eq_some_iff.mp H
       obtain ⟨t286, A400, H⟩ := H
       replace H : (impl_Raga_reason.j1 kj5 a1 a2 (!t286) a0_0 l0_1 l0_2 a0_3 a0_4 l0_5 t279 t280) = some r := H
       have A40 := Aside0.mk A400
       clear A400
       have H' := Aside0.mk H
       clear H
       have hnb41 := NB278_281.out
       have hnc41 := NB281_278.out
       have hnb42 := NB278_282.out
       have hnc42 := NB282_278.out
       have hcz43_0 : w38.cell? ⟨gb278, 0, none⟩ = some (.string a0_0) := (blk_cell BK278.out 0).trans rfl
       have hcz43_1 : w38.cell? ⟨gb278, 1, none⟩ = some (.slice A0_1 l0_1.length c0_1) := (blk_cell BK278.out 1).trans rfl
       have hcz43_2 : w38.cell? ⟨gb278, 2, none⟩ = some (.slice A0_2 l0_2.length c0_2) := (blk_cell BK278.out 2).trans rfl
       have hcz43_3 : w38.cell? ⟨gb278, 3, none⟩ = some (.int .i64 a0_3) := (blk_cell BK278.out 3).trans rfl
       have hcz43_4 : w38.cell? ⟨gb278, 4, none⟩ = some (.int .i64 a0_4) := (blk_cell BK278.out 4).trans rfl
       have hcz43_5 : w38.cell? ⟨gb278, 5, none⟩ = some (.slice A0_5 l0_5.length c0_5) := (blk_cell BK278.out 5).trans rfl
       have hfz43_0 := blk_frozen BK278.out 0
       have hfz43_1 := blk_frozen BK278.out 1
       have hfz43_2 := blk_frozen BK278.out 2
       have hfz43_3 := blk_frozen BK278.out 3
       have hfz43_4 := blk_frozen BK278.out 4
       have hfz43_5 := blk_frozen BK278.out 5
       have hnb44 := NB282_281.out
       have hnc44 := NB281_282.out
       have hcz45_0 : w38.cell? ⟨gb282, 0, none⟩ = some (.int .i64 t280) := (blk_cell BK282.out 0).trans rfl
       have hfz45_0 := blk_frozen BK282.out 0
       go_wp2_with (first | (go_at_call 118; (with_reducible refine (slices_Contains_int64_int64.calls kj5 _ _ l0_1 t280 t286 _ ?side1 ?side2 A40.out).mono ?_); (case side1 => exact (Kd.C_below HR0_1.out HB.out)); (case side2 => exact HC0_1.out); rintro e w' ⟨rfl, ⟨nd, rfl⟩⟩))
       go_meet
       case rel => exact ⟨_, (!t286), sv_, H', ⟨by have := HJ5.out; first | omega | exact Nat.le_refl _⟩, ⟨by (with_reducible repeat (first | refine blk_drewN ?_ _ | refine blk_drew ?_ | refine blk_alloc ?_ _)); exact BK278.out⟩, ⟨by (with_reducible repeat (first | refine blk_drewN ?_ _ | refine blk_drew ?_ | refine blk_alloc ?_ _)); exact BK281.out⟩, ⟨by (with_reducible repeat (first | refine blk_drewN ?_ _ | refine blk_drew ?_ | refine blk_alloc ?_ _)); exact BK282.out⟩, ⟨bi_ HB.out GE278.out GE281.out GE282.out⟩⟩
      ·rw [if_neg c39] at H
       have c39b0 : decide (a1 < a2) = false := decide_eq_false c39
       clear c39
       (first | rw [c39b0] | (simp only [i64_w, i32_w]; rw [c39b0]) | skip)
       have H' := Aside0.mk H
       clear H
       go_wp2
       go_meet
       case rel => exact ⟨_, (false), sv_, H', ⟨by have := HJ5.out; first | omega | exact Nat.le_refl _⟩, ⟨by (with_reducible repeat (first | refine blk_drewN ?_ _ | refine blk_drew ?_ | refine blk_alloc ?_ _)); exact BK278.out⟩, ⟨by (with_reducible repeat (first | refine blk_drewN ?_ _ | refine blk_drew ?_ | refine blk_alloc ?_ _)); exact BK281.out⟩, ⟨by (with_reducible repeat (first | refine blk_drewN ?_ _ | refine blk_drew ?_ | refine blk_alloc ?_ _)); exact BK282.out⟩, ⟨bi_ HB.out GE278.out GE281.out GE282.out⟩⟩
     case rest =>
      clear HC37
      (try clear c1); (try clear c2); (try clear p2); (try clear c3); (try clear c4); (try clear c6); (try clear p6); (try clear c7); (try clear c10); (try clear c11); (try clear c12); (try clear c13); (try clear c16); (try clear c18); (try clear c19); (try clear c21); (try clear c27); (try clear c28); (try clear c30); (try clear c33); (try clear c35); (try clear c35b0); (try clear c39); (try clear c39b0); (try clear c41); (try clear c42); (try clear c44); (try clear hcz12_0); (try clear hcz14_0); (try clear hcz20_0); (try clear hcz20_1); (try clear hcz20_2); (try clear hcz20_3); (try clear hcz20_4); (try clear hcz20_5); (try clear hcz22_0); (try clear hcz24_0); (try clear hcz24_1); (try clear hcz24_2); (try clear hcz24_3); (try clear hcz24_4); (try clear hcz24_5); (try clear hcz25_0); (try clear hcz29_0); (try clear hcz29_1); (try clear hcz29_2); (try clear hcz29_3); (try clear hcz29_4); (try clear hcz29_5); (try clear hcz31_0); (try clear hcz43_0); (try clear hcz43_1); (try clear hcz43_2); (try clear hcz43_3); (try clear hcz43_4); (try clear hcz43_5); (try clear hcz45_0); (try clear hfz12_0); (try clear hfz14_0); (try clear hfz20_0); (try clear hfz20_1); (try clear hfz20_2); (try clear hfz20_3); (try clear hfz20_4); (try clear hfz20_5); (try clear hfz22_0); (try clear hfz24_0); (try clear hfz24_1); (try clear hfz24_2); (try clear hfz24_3); (try clear hfz24_4); (try clear hfz24_5); (try clear hfz25_0); (try clear hfz29_0); (try clear hfz29_1); (try clear hfz29_2); (try clear hfz29_3); (try clear hfz29_4); (try clear hfz29_5); (try clear hfz31_0); (try clear hfz43_0); (try clear hfz43_1); (try clear hfz43_2); (try clear hfz43_3); (try clear hfz43_4); (try clear hfz43_5); (try clear hfz45_0); (try clear p2)
      obtain ⟨kq, x30_36, rfl, HA, HJ36, BK278, BK281, BK282, HB⟩ := hcut
      cases kq with
      | zero => exact absurd HA.out (by simp [impl_Raga_reason.j1])
      | succ kj36 =>
       have H := HA.out
       clear HA
       simp only [impl_Raga_reason.j1] at H
       by_cases c46 : x30_36 = true
       ·subst c46
        have H1 : (some 3) = some r := by rw [if_pos rfl] at H; exact H
        clear H
        have H := H1
        clear H1
        obtain rfl := Option.some.inj H
        go_wp2
        go_ret
        exact ⟨by first | rfl | (simp [errW_none, errW_some] <;> rfl) | (simp [*, errW_none, errW_some] <;> rfl), bi_ HB.out GE278.out GE281.out GE282.out⟩
       ·replace c46 := Bool.eq_false_iff.mpr c46
        subst c46
        have H1 : (if a2 < a1 then ((slices_Contains_int64_int64.f kj36 l0_2 t280).bind fun t287 => (impl_Raga_reason.j2 kj36 (!t287) a0_0 l0_1 l0_2 a0_3 a0_4 l0_5 t279 t280)) else (impl_Raga_reason.j2 kj36 false a0_0 l0_1 l0_2 a0_3 a0_4 l0_5 t279 t280)) = some r := by rw [if_neg (show ¬ (false = true) by decide)] at H; exact H
        clear H
        have H := H1
        clear H1
        have HC47 := Aside0.mk H
        clear H
        go_upto_region 8 with (fail)
        go_cut [41] (fun v41 wc => ∃ (kq : Nat) (x41_46 : Bool), v41 = .bool x41_46 ∧ Aside0 (impl_Raga_reason.j2 kq x41_46 a0_0 l0_1 l0_2 a0_3 a0_4 l0_5 t279 t280 = some r) ∧ Aside0 (kq ≤ kj36) ∧ Aside0 (wc.heap[gb278]? = some (.cells #[.string a0_0, (.slice A0_1 l0_1.length c0_1), (.slice A0_2 l0_2.length c0_2), .int .i64 a0_3, .int .i64 a0_4, (.slice A0_5 l0_5.length c0_5)] 29 (0, 0))) ∧ Aside0 (wc.heap[gb281]? = some (.cells #[.int .i64 t279] 2 (0, 0))) ∧ Aside0 (wc.heap[gb282]? = some (.cells #[.int .i64 t280] 2 (0, 0))) ∧ Aside0 (Below w.heap.size w wc))
        case first =>
         have H := HC47.out
         clear HC47
         by_cases c48 : a2 < a1
         ·rw [if_pos c48] at H
          have c48b0 : decide (a2 < a1) = true := decide_eq_true c48
          clear c48
          (first | rw [c48b0] | (simp only [i64_w, i32_w]; rw [c48b0]) | skip)
          replace H := Option.bind_eq_some_iff.mp H
          obtain ⟨t287, A490, H⟩ := H
          replace H : (impl_Raga_reason.j2 kj36 (!t287) a0_0 l0_1 l0_2 a0_3 a0_4 l0_5 t279 t280) = some r := H
          have A49 := Aside0.mk A490
          clear A490
          have H' := Aside0.mk H
          clear H
          have hnb50 := NB278_281.out
          have hnc50 := NB281_278.out
          have hnb51 := NB278_282.out
          have hnc51 := NB282_278.out
          have hcz52_0 : wc.cell? ⟨gb278, 0, none⟩ = some (.string a0_0) := (blk_cell BK278.out 0).trans rfl
          have hcz52_1 : wc.cell? ⟨gb278, 1, none⟩ = some (.slice A0_1 l0_1.length c0_1) := (blk_cell BK278.out 1).trans rfl
          have hcz52_2 : wc.cell? ⟨gb278, 2, none⟩ = some (.slice A0_2 l0_2.length c0_2) := (blk_cell BK278.out 2).trans rfl
          have hcz52_3 : wc.cell? ⟨gb278, 3, none⟩ = some (.int .i64 a0_3) := (blk_cell BK278.out 3).trans rfl
          have hcz52_4 : wc.cell? ⟨gb278, 4, none⟩ = some (.int .i64 a0_4) := (blk_cell BK278.out 4).trans rfl
          have hcz52_5 : wc.cell? ⟨gb278, 5, none⟩ = some (.slice A0_5 l0_5.length c0_5) := (blk_cell BK278.out 5).trans rfl
          have hfz52_0 := blk_frozen BK278.out 0
          have hfz52_1 := blk_frozen BK278.out 1
          have hfz52_2 := blk_frozen BK278.out 2
          have hfz52_3 := blk_frozen BK278.out 3
          have hfz52_4 := blk_frozen BK278.out 4
          have hfz52_5 := blk_frozen BK278.out 5
          have hnb53 := NB282_281.out
          have hnc53 := NB281_282.out
          have hcz54_0 : wc.cell? ⟨gb282, 0, none⟩ = some (.int .i64 t280) := (blk_cell BK282.out 0).trans rfl
          have hfz54_0 := blk_frozen BK282.out 0
          go_wp2_with (first | (go_at_call 118; (with_reducible refine (slices_Contains_int64_int64.calls kj36 _ _ l0_2 t280 t287 _ ?side1 ?side2 A49.out).mono ?_); (case side1 => exact (Kd.C_below HR0_2.out HB.out)); (case side2 => exact HC0_2.out); rintro e w' ⟨rfl, ⟨nd, rfl⟩⟩))
          go_meet
          case rel => exact ⟨_, (!t287), sv_, H', ⟨by have := HJ5.out; have := HJ36.out; first | omega | exact Nat.le_refl _⟩, ⟨by (with_reducible repeat (first | refine blk_drewN ?_ _ | refine blk_drew ?_ | refine blk_alloc ?_ _)); exact BK278.out⟩, ⟨by (with_reducible repeat (first | refine blk_drewN ?_ _ | refine blk_drew ?_ | refine blk_alloc ?_ _)); exact BK281.out⟩, ⟨by (with_reducible repeat (first | refine blk_drewN ?_ _ | refine blk_drew ?_ | refine blk_alloc ?_ _)); exact BK282.out⟩, ⟨bi_ HB.out GE278.out GE281.out GE282.out⟩⟩
         ·rw [if_neg c48] at H
          have c48b0 : decide (a2 < a1) = false := decide_eq_false c48
          clear c48
          (first | rw [c48b0] | (simp only [i64_w, i32_w]; rw [c48b0]) | skip)
          have H' := Aside0.mk H
          clear H
          go_wp2
          go_meet
          case rel => exact ⟨_, (false), sv_, H', ⟨by have := HJ5.out; have := HJ36.out; first | omega | exact Nat.le_refl _⟩, ⟨by (with_reducible repeat (first | refine blk_drewN ?_ _ | refine blk_drew ?_ | refine blk_alloc ?_ _)); exact BK278.out⟩, ⟨by (with_reducible repeat (first | refine blk_drewN ?_ _ | refine blk_drew ?_ | refine blk_alloc ?_ _)); exact BK281.out⟩, ⟨by (with_reducible repeat (first | refine blk_drewN ?_ _ | refine blk_drew ?_ | refine blk_alloc ?_ _)); exact BK282.out⟩, ⟨bi_ HB.out GE278.out GE281.out GE282.out⟩⟩
        case rest =>
         clear HC47
         (try clear c1); (try clear c2); (try clear p2); (try clear c3); (try clear c4); (try clear c5); (try clear c6); (try clear p6); (try clear c7); (try clear c10); (try clear c11); (try clear c12); (try clear c13); (try clear c16); (try clear c18); (try clear c19); (try clear c21); (try clear c27); (try clear c28); (try clear c30); (try clear c33); (try clear c35); (try clear c35b0); (try clear c39); (try clear c39b0); (try clear c41); (try clear c42); (try clear c44); (try clear c46); (try clear c48); (try clear c48b0); (try clear c50); (try clear c51); (try clear c53); (try clear hcz12_0); (try clear hcz14_0); (try clear hcz20_0); (try clear hcz20_1); (try clear hcz20_2); (try clear hcz20_3); (try clear hcz20_4); (try clear hcz20_5); (try clear hcz22_0); (try clear hcz24_0); (try clear hcz24_1); (try clear hcz24_2); (try clear hcz24_3); (try clear hcz24_4); (try clear hcz24_5); (try clear hcz25_0); (try clear hcz29_0); (try clear hcz29_1); (try clear hcz29_2); (try clear hcz29_3); (try clear hcz29_4); (try clear hcz29_5); (try clear hcz31_0); (try clear hcz43_0); (try clear hcz43_1); (try clear hcz43_2); (try clear hcz43_3); (try clear hcz43_4); (try clear hcz43_5); (try clear hcz45_0); (try clear hcz52_0); (try clear hcz52_1); (try clear hcz52_2); (try clear hcz52_3); (try clear hcz52_4); (try clear hcz52_5); (try clear hcz54_0); (try clear hfz12_0); (try clear hfz14_0); (try clear hfz20_0); (try clear hfz20_1); (try clear hfz20_2); (try clear hfz20_3); (try clear hfz20_4); (try clear hfz20_5); (try clear hfz22_0); (try clear hfz24_0); (try clear hfz24_1); (try clear hfz24_2); (try clear hfz24_3); (try clear hfz24_4); (try clear hfz24_5); (try clear hfz25_0); (try clear hfz29_0); (try clear hfz29_1); (try clear hfz29_2); (try clear hfz29_3); (try clear hfz29_4); (try clear hfz29_5); (try clear hfz31_0); (try clear hfz43_0); (try clear hfz43_1); (try clear hfz43_2); (try clear hfz43_3); (try clear hfz43_4); (try clear hfz43_5); (try clear hfz45_0); (try clear hfz52_0); (try clear hfz52_1); (try clear hfz52_2); (try clear hfz52_3); (try clear hfz52_4); (try clear hfz52_5); (try clear hfz54_0); (try clear p2); (try clear p6)
         obtain ⟨kq, x41_46, rfl, HA, HJ46, BK278, BK281, BK282, HB⟩ := hcut
         cases kq with
         | zero => exact absurd HA.out (by simp [impl_Raga_reason.j2])
         | succ kj46 =>
          have H := HA.out
          clear HA
          simp only [impl_Raga_reason.j2] at H
          by_cases c55 : x41_46 = true
          ·subst c55
           have H1 : (some 4) = some r := by rw [if_pos rfl] at H; exact H
           clear H
           have H := H1
           clear H1
           obtain rfl := Option.some.inj H
           go_wp2
           go_ret
           exact ⟨by first | rfl | (simp [errW_none, errW_some] <;> rfl) | (simp [*, errW_none, errW_some] <;> rfl), bi_ HB.out GE278.out GE281.out GE282.out⟩
          ·replace c55 := Bool.eq_false_iff.mpr c55
           subst c55
           have H1 : ((impl_reason_any.f l0_5 t279 t280).bind fun t288 => (if t288 = true then (some 5) else (some 0))) = some r := by rw [if_neg (show ¬ (false = true) by decide)] at H; exact H
           clear H
           have H := H1
           clear H1
           replace H := Option.bind_eq_some_iff.mp H
           obtain ⟨t288, A560, H⟩ := H
           replace H : (if t288 = true then (some 5) else (some 0)) = some r := H
           have A56 := Aside0.mk A560
           clear A560
           by_cases c57 : t288 = true
           ·subst c57
            have H1 : (some 5) = some r := by rw [if_pos rfl] at H; exact H
            clear H
            have H := H1
            clear H1
            obtain rfl := Option.some.inj H
            have hnb58 := NB278_281.out
            have hnc58 := NB281_278.out
            have hnb59 := NB278_282.out
            have hnc59 := NB282_278.out
            have hcz60_0 : wc.cell? ⟨gb278, 0, none⟩ = some (.string a0_0) := (blk_cell BK278.out 0).trans rfl
            have hcz60_1 : wc.cell? ⟨gb278, 1, none⟩ = some (.slice A0_1 l0_1.length c0_1) := (blk_cell BK278.out 1).trans rfl
            have hcz60_2 : wc.cell? ⟨gb278, 2, none⟩ = some (.slice A0_2 l0_2.length c0_2) := (blk_cell BK278.out 2).trans rfl
            have hcz60_3 : wc.cell? ⟨gb278, 3, none⟩ = some (.int .i64 a0_3) := (blk_cell BK278.out 3).trans rfl
            have hcz60_4 : wc.cell? ⟨gb278, 4, none⟩ = some (.int .i64 a0_4) := (blk_cell BK278.out 4).trans rfl
            have hcz60_5 : wc.cell? ⟨gb278, 5, none⟩ = some (.slice A0_5 l0_5.length c0_5) := (blk_cell BK278.out 5).trans rfl
            have hfz60_0 := blk_frozen BK278.out 0
            have hfz60_1 := blk_frozen BK278.out 1
            have hfz60_2 := blk_frozen BK278.out 2
            have hfz60_3 := blk_frozen BK278.out 3
            have hfz60_4 := blk_frozen BK278.out 4
            have hfz60_5 := blk_frozen BK278.out 5
            go_wp2_with (first | ((with_reducible refine gate_callee (f := 133) rfl ?_); refine goesL_ (some 56) rfl rfl Try.func133 (by kernel_rfl) rfl #[.slice A0_5 l0_5.length c0_5, .func (.func 147) #[] #[.pointer (some ⟨gb281, 0, none⟩), .pointer (some ⟨gb282, 0, none⟩)]] rfl av_ ?_; (with_reducible refine (impl_reason_any.calls _ _ l0_5 gb281 t279 gb282 t280 true _ ?side1 ?side2 ?side3 ?side4 A56.out).mono ?_); (case side1 => exact (Kd.C_below HR0_5.out HB.out)); (case side2 => exact HC0_5.out); (case side3 => exact bk_ BK281.out); (case side4 => exact bk_ BK282.out); rintro e w61 ⟨rfl, hb⟩; refine ⟨_, rfl, ?_⟩; have n0_ := Aside0.mk (blk_below (g := gb278) (o := .cells #[.string a0_0, .slice A0_1 l0_1.length c0_1, .slice A0_2 l0_2.length c0_2, .int .i64 a0_3, .int .i64 a0_4, .slice A0_5 l0_5.length c0_5] 29 (0, 0)) (by repeat first | exact BK278.out | refine blk_drewN ?_ _ | refine blk_drew ?_ | refine blk_alloc ?_ _) hb); have n1_ := Aside0.mk (blk_below (g := gb281) (o := .cells #[.int .i64 t279] 2 (0, 0)) (by repeat first | exact BK281.out | refine blk_drewN ?_ _ | refine blk_drew ?_ | refine blk_alloc ?_ _) hb); have n2_ := Aside0.mk (blk_below (g := gb282) (o := .cells #[.int .i64 t280] 2 (0, 0)) (by repeat first | exact BK282.out | refine blk_drewN ?_ _ | refine blk_drew ?_ | refine blk_alloc ?_ _) hb); have n3_ := Aside0.mk (below_step (bi_ HB.out GE278.out GE281.out GE282.out) hb); clear BK278; clear BK281; clear BK282; clear HB; have BK278 := n0_; have BK281 := n1_; have BK282 := n2_; have HB := n3_; clear n0_ n1_ n2_ n3_; (try clear hb); (try clear hb2); (try clear hk); (try clear hi)))
            go_ret
            exact ⟨by first | rfl | (simp [errW_none, errW_some] <;> rfl) | (simp [*, errW_none, errW_some] <;> rfl), bi_ HB.out GE278.out GE281.out GE282.out⟩
           ·replace c57 := Bool.eq_false_iff.mpr c57
            subst c57
            have H1 : (some 0) = some r := by rw [if_neg (show ¬ (false = true) by decide)] at H; exact H
            clear H
            have H := H1
            clear H1
            obtain rfl := Option.some.inj H
            have hnb62 := NB278_281.out
            have hnc62 := NB281_278.out
            have hnb63 := NB278_282.out
            have hnc63 := NB282_278.out
            have hcz64_0 : wc.cell? ⟨gb278, 0, none⟩ = some (.string a0_0) := (blk_cell BK278.out 0).trans rfl
            have hcz64_1 : wc.cell? ⟨gb278, 1, none⟩ = some (.slice A0_1 l0_1.length c0_1) := (blk_cell BK278.out 1).trans rfl
            have hcz64_2 : wc.cell? ⟨gb278, 2, none⟩ = some (.slice A0_2 l0_2.length c0_2) := (blk_cell BK278.out 2).trans rfl
            have hcz64_3 : wc.cell? ⟨gb278, 3, none⟩ = some (.int .i64 a0_3) := (blk_cell BK278.out 3).trans rfl
            have hcz64_4 : wc.cell? ⟨gb278, 4, none⟩ = some (.int .i64 a0_4) := (blk_cell BK278.out 4).trans rfl
            have hcz64_5 : wc.cell? ⟨gb278, 5, none⟩ = some (.slice A0_5 l0_5.length c0_5) := (blk_cell BK278.out 5).trans rfl
            have hfz64_0 := blk_frozen BK278.out 0
            have hfz64_1 := blk_frozen BK278.out 1
            have hfz64_2 := blk_frozen BK278.out 2
            have hfz64_3 := blk_frozen BK278.out 3
            have hfz64_4 := blk_frozen BK278.out 4
            have hfz64_5 := blk_frozen BK278.out 5
            go_wp2_with (first | ((with_reducible refine gate_callee (f := 133) rfl ?_); refine goesL_ (some 56) rfl rfl Try.func133 (by kernel_rfl) rfl #[.slice A0_5 l0_5.length c0_5, .func (.func 147) #[] #[.pointer (some ⟨gb281, 0, none⟩), .pointer (some ⟨gb282, 0, none⟩)]] rfl av_ ?_; (with_reducible refine (impl_reason_any.calls _ _ l0_5 gb281 t279 gb282 t280 false _ ?side1 ?side2 ?side3 ?side4 A56.out).mono ?_); (case side1 => exact (Kd.C_below HR0_5.out HB.out)); (case side2 => exact HC0_5.out); (case side3 => exact bk_ BK281.out); (case side4 => exact bk_ BK282.out); rintro e w65 ⟨rfl, hb⟩; refine ⟨_, rfl, ?_⟩; have n0_ := Aside0.mk (blk_below (g := gb278) (o := .cells #[.string a0_0, .slice A0_1 l0_1.length c0_1, .slice A0_2 l0_2.length c0_2, .int .i64 a0_3, .int .i64 a0_4, .slice A0_5 l0_5.length c0_5] 29 (0, 0)) (by repeat first | exact BK278.out | refine blk_drewN ?_ _ | refine blk_drew ?_ | refine blk_alloc ?_ _) hb); have n1_ := Aside0.mk (blk_below (g := gb281) (o := .cells #[.int .i64 t279] 2 (0, 0)) (by repeat first | exact BK281.out | refine blk_drewN ?_ _ | refine blk_drew ?_ | refine blk_alloc ?_ _) hb); have n2_ := Aside0.mk (blk_below (g := gb282) (o := .cells #[.int .i64 t280] 2 (0, 0)) (by repeat first | exact BK282.out | refine blk_drewN ?_ _ | refine blk_drew ?_ | refine blk_alloc ?_ _) hb); have n3_ := Aside0.mk (below_step (bi_ HB.out GE278.out GE281.out GE282.out) hb); clear BK278; clear BK281; clear BK282; clear HB; have BK278 := n0_; have BK281 := n1_; have BK282 := n2_; have HB := n3_; clear n0_ n1_ n2_ n3_; (try clear hb); (try clear hb2); (try clear hk); (try clear hi)))
            go_ret
            exact ⟨by first | rfl | (simp [errW_none, errW_some] <;> rfl) | (simp [*, errW_none, errW_some] <;> rfl), bi_ HB.out GE278.out GE281.out GE282.out⟩
/-! ### impl_Raga_firstWrong: function 109 -/
def impl_Raga_firstWrong.K0 : Array Bool := #[n_,n_,n_,n_,n_,n_,n_,n_,n_,n_]
def impl_Raga_firstWrong.K1 : Array Bool := #[y_,n_,n_,n_,n_,n_,n_,n_,n_,n_]
def impl_Raga_firstWrong.K2 : Array Bool := #[y_,y_,n_,n_,n_,n_,n_,n_,n_,n_]
def impl_Raga_firstWrong.K3 : Array Bool := #[y_,y_,y_,n_,n_,n_,n_,n_,n_,n_]
def impl_Raga_firstWrong.K4 : Array Bool := #[y_,y_,y_,n_,y_,n_,n_,n_,n_,n_]
def impl_Raga_firstWrong.K5 : Array Bool := #[y_,y_,y_,y_,y_,n_,n_,n_,n_,n_]
def impl_Raga_firstWrong.K6 : Array Bool := #[y_,y_,y_,y_,y_,y_,n_,n_,n_,n_]
def impl_Raga_firstWrong.K7 : Array Bool := #[y_,y_,y_,y_,y_,y_,y_,n_,n_,n_]
def impl_Raga_firstWrong.K8 : Array Bool := #[y_,y_,y_,y_,y_,y_,y_,y_,n_,n_]
def impl_Raga_firstWrong.K9 : Array Bool := #[y_,y_,y_,y_,y_,y_,y_,y_,y_,n_]
def impl_Raga_firstWrong.K10 : Array Bool := #[y_,y_,y_,y_,y_,y_,y_,y_,y_,y_]
def impl_Raga_firstWrong.K11 : Array Bool := #[y_,y_,y_,y_,n_,n_,n_,n_,n_,n_]
def impl_Raga_firstWrong.K12 : Array Bool := #[n_,n_,n_,n_,n_,n_,n_,n_,n_,n_,n_,n_,n_,n_]
def impl_Raga_firstWrong.K13 : Array Bool := #[y_,n_,n_,n_,n_,n_,n_,n_,n_,n_,n_,n_,n_,n_]
def impl_Raga_firstWrong.K14 : Array Bool := #[y_,y_,n_,n_,n_,n_,n_,n_,n_,n_,n_,n_,n_,n_]
def impl_Raga_firstWrong.K15 : Array Bool := #[y_,y_,y_,n_,n_,n_,n_,n_,n_,n_,n_,n_,n_,n_]
def impl_Raga_firstWrong.K16 : Array Bool := #[y_,y_,y_,n_,y_,n_,n_,n_,n_,n_,n_,n_,n_,n_]
def impl_Raga_firstWrong.K17 : Array Bool := #[y_,y_,y_,n_,y_,y_,n_,n_,n_,n_,n_,n_,n_,n_]
def impl_Raga_firstWrong.K18 : Array Bool := #[y_,y_,y_,n_,y_,y_,y_,n_,n_,n_,n_,n_,n_,n_]
def impl_Raga_firstWrong.K19 : Array Bool := #[y_,y_,y_,n_,y_,y_,y_,y_,n_,n_,n_,n_,n_,n_]
def impl_Raga_firstWrong.K20 : Array Bool := #[y_,y_,y_,n_,y_,y_,y_,y_,n_,y_,n_,n_,n_,n_]
def impl_Raga_firstWrong.K21 : Array Bool := #[y_,y_,y_,y_,y_,y_,y_,y_,n_,y_,n_,n_,n_,n_]
def impl_Raga_firstWrong.K22 : Array Bool := #[y_,y_,y_,y_,y_,y_,y_,y_,y_,y_,n_,n_,n_,n_]
def impl_Raga_firstWrong.K23 : Array Bool := #[y_,y_,y_,y_,y_,y_,y_,y_,y_,y_,y_,n_,n_,n_]
def impl_Raga_firstWrong.K24 : Array Bool := #[y_,y_,y_,y_,y_,y_,y_,y_,y_,y_,y_,y_,n_,n_]
def impl_Raga_firstWrong.K25 : Array Bool := #[y_,y_,y_,y_,y_,y_,y_,y_,y_,y_,y_,y_,y_,n_]
def impl_Raga_firstWrong.K26 : Array Bool := #[y_,y_,y_,y_,y_,y_,y_,y_,y_,y_,y_,y_,y_,y_]
def impl_Raga_firstWrong.K27 : Array Bool := #[n_,n_,n_,n_,n_,n_,n_,n_,n_,n_,n_]
def impl_Raga_firstWrong.K28 : Array Bool := #[y_,n_,n_,n_,n_,n_,n_,n_,n_,n_,n_]
def impl_Raga_firstWrong.K29 : Array Bool := #[y_,n_,y_,n_,n_,n_,n_,n_,n_,n_,n_]
def impl_Raga_firstWrong.K30 : Array Bool := #[y_,n_,y_,y_,n_,n_,n_,n_,n_,n_,n_]
def impl_Raga_firstWrong.K31 : Array Bool := #[y_,n_,y_,y_,y_,n_,n_,n_,n_,n_,n_]
def impl_Raga_firstWrong.K32 : Array Bool := #[y_,n_,y_,y_,y_,y_,n_,n_,n_,n_,n_]
def impl_Raga_firstWrong.K33 : Array Bool := #[y_,n_,y_,y_,y_,y_,n_,y_,n_,n_,n_]
def impl_Raga_firstWrong.K34 : Array Bool := #[y_,y_,y_,y_,y_,y_,n_,y_,n_,n_,n_]
def impl_Raga_firstWrong.K35 : Array Bool := #[y_,y_,y_,y_,y_,y_,y_,y_,n_,n_,n_]
def impl_Raga_firstWrong.K36 : Array Bool := #[y_,y_,y_,y_,y_,y_,y_,y_,y_,n_,n_]
def impl_Raga_firstWrong.K37 : Array Bool := #[y_,y_,y_,y_,y_,y_,y_,y_,y_,y_,n_]
def impl_Raga_firstWrong.K38 : Array Bool := #[y_,y_,y_,y_,y_,y_,y_,y_,y_,y_,y_]
def impl_Raga_firstWrong.K39 : Array Bool := #[y_,y_,y_,y_,n_,n_,n_,n_,n_,n_,n_,n_,n_,n_]
def impl_Raga_firstWrong.K40 : Array Bool := #[y_,y_,y_,y_,y_,n_,n_,n_,n_,n_,n_,n_,n_,n_]
def impl_Raga_firstWrong.K41 : Array Bool := #[y_,y_,y_,y_,y_,y_,n_,n_,n_,n_,n_,n_,n_,n_]
def impl_Raga_firstWrong.K42 : Array Bool := #[y_,y_,y_,y_,y_,y_,y_,n_,n_,n_,n_,n_,n_,n_]
def impl_Raga_firstWrong.K43 : Array Bool := #[y_,y_,y_,y_,y_,y_,y_,y_,n_,n_,n_,n_,n_,n_]
def impl_Raga_firstWrong.K44 : Array Bool := #[y_,y_,y_,y_,y_,y_,y_,y_,y_,n_,n_,n_,n_,n_]
mutual
def impl_Raga_firstWrong.l0 : Nat → List Int → List Int → Int → Int → ByteArray → List Int → List Int → Int → Int → List (List Int) → Option (Int × Int)
 | 0, _, _, _, _, _, _, _, _, _, _ => none
 | k + 1, x1, x8, x9, x10, x578000, x578001, x578002, x578003, x578004, x578005 => if x10 < x9 then (if 0 ≤ x10 then (if x10 < (x8.length : Int) then (if x10 = 0 then ((impl_ToneOf.f (rd x8 x10)).bind fun t579 => ((impl_Raga_hasTone.f k x578000 x578001 x578002 x578003 x578004 x578005 t579).bind fun t580 => (impl_Raga_firstWrong.j1 k x1 x10 (rd x8 x10) x8 x9 x10 (!t580) x578000 x578001 x578002 x578003 x578004 x578005))) else (impl_Raga_firstWrong.j1 k x1 x10 (rd x8 x10) x8 x9 x10 false x578000 x578001 x578002 x578003 x578004 x578005)) else (none)) else (none)) else (some (0, 0))
def impl_Raga_firstWrong.j1 : Nat → List Int → Int → Int → List Int → Int → Int → Bool → ByteArray → List Int → List Int → Int → Int → List (List Int) → Option (Int × Int)
 | 0, _, _, _, _, _, _, _, _, _, _, _, _, _ => none
 | k + 1, x1, x6, x7, x8, x9, x10, x15, x578000, x578001, x578002, x578003, x578004, x578005 => if x15 = true then (some (0, 1)) else (if x6 > 0 then (if 0 ≤ (wrap64 (x6 - 1)) then (if (wrap64 (x6 - 1)) < (x1.length : Int) then ((impl_Raga_reason.f k x578000 x578001 x578002 x578003 x578004 x578005 (rd x1 (wrap64 (x6 - 1))) x7).bind fun t582 => (if t582 = 0 then (impl_Raga_firstWrong.l0 k x1 x8 x9 (wrap64 (x10 + 1)) x578000 x578001 x578002 x578003 x578004 x578005) else ((impl_Raga_reason.f k x578000 x578001 x578002 x578003 x578004 x578005 (rd x1 (wrap64 (x6 - 1))) x7).bind fun t584 => (some (x6, t584))))) else (none)) else (none)) else (impl_Raga_firstWrong.l0 k x1 x8 x9 (wrap64 (x10 + 1)) x578000 x578001 x578002 x578003 x578004 x578005))
end
def impl_Raga_firstWrong.f (k : Nat) (a0_0 : ByteArray) (l0_1 : List Int) (l0_2 : List Int) (a0_3 : Int) (a0_4 : Int) (l0_5 : List (List Int)) (l1 : List Int) : Option (Int × Int) := impl_Raga_firstWrong.l0 k l1 l1 (l1.length : Int) 0 a0_0 l0_1 l0_2 a0_3 a0_4 l0_5
theorem impl_Raga_firstWrong.mono_l : ∀ k, (∀ y0 y1 y2 y3 y4 y5 y6 y7 y8 y9, LeO (impl_Raga_firstWrong.l0 k y0 y1 y2 y3 y4 y5 y6 y7 y8 y9) (impl_Raga_firstWrong.l0 (k + 1) y0 y1 y2 y3 y4 y5 y6 y7 y8 y9)) ∧ (∀ y0 y1 y2 y3 y4 y5 y6 y7 y8 y9 y10 y11 y12, LeO (impl_Raga_firstWrong.j1 k y0 y1 y2 y3 y4 y5 y6 y7 y8 y9 y10 y11 y12) (impl_Raga_firstWrong.j1 (k + 1) y0 y1 y2 y3 y4 y5 y6 y7 y8 y9 y10 y11 y12))
 | 0 => ⟨fun _ _ _ _ _ _ _ _ _ _ r h => by simp [impl_Raga_firstWrong.l0] at h, fun _ _ _ _ _ _ _ _ _ _ _ _ _ r h => by simp [impl_Raga_firstWrong.j1] at h⟩
 | k + 1 => by
  obtain ⟨ih0, ih1⟩ := impl_Raga_firstWrong.mono_l k
  refine ⟨?_, ?_⟩
  ·intro y0 y1 y2 y3 y4 y5 y6 y7 y8 y9
   unfold impl_Raga_firstWrong.l0
   repeat' first
   | (with_reducible exact ih0 _ _ _ _ _ _ _ _ _ _)
   | (with_reducible exact ih1 _ _ _ _ _ _ _ _ _ _ _ _ _)
   | (with_reducible exact impl_Raga_hasTone.mono _ _ _ _ _ _ _ _)
   | (with_reducible exact impl_Raga_reason.mono _ _ _ _ _ _ _ _ _)
   | (with_reducible exact LeO.refl _)
   | (with_reducible exact LeO.none _)
   | (with_reducible refine LeO.ite ?_ ?_)
   | (with_reducible refine LeO.bind ?_ (fun _ => ?_))
   | exact ih0 _ _ _ _ _ _ _ _ _ _
   | exact ih1 _ _ _ _ _ _ _ _ _ _ _ _ _
   | exact impl_Raga_hasTone.mono _ _ _ _ _ _ _ _
   | exact impl_Raga_reason.mono _ _ _ _ _ _ _ _ _
   | exact LeO.none _
   | refine LeO.ite ?_ ?_
   | refine LeO.bind ?_ (fun _ => ?_)
  ·intro y0 y1 y2 y3 y4 y5 y6 y7 y8 y9 y10 y11 y12
   unfold impl_Raga_firstWrong.j1
   repeat' first
   | (with_reducible exact ih0 _ _ _ _ _ _ _ _ _ _)
   | (with_reducible exact ih1 _ _ _ _ _ _ _ _ _ _ _ _ _)
   | (with_reducible exact impl_Raga_hasTone.mono _ _ _ _ _ _ _ _)
   | (with_reducible exact impl_Raga_reason.mono _ _ _ _ _ _ _ _ _)
   | (with_reducible exact LeO.refl _)
   | (with_reducible exact LeO.none _)
   | (with_reducible refine LeO.ite ?_ ?_)
   | (with_reducible refine LeO.bind ?_ (fun _ => ?_))
   | exact ih0 _ _ _ _ _ _ _ _ _ _
   | exact ih1 _ _ _ _ _ _ _ _ _ _ _ _ _
   | exact impl_Raga_hasTone.mono _ _ _ _ _ _ _ _
   | exact impl_Raga_reason.mono _ _ _ _ _ _ _ _ _
   | exact LeO.none _
   | refine LeO.ite ?_ ?_
   | refine LeO.bind ?_ (fun _ => ?_)
theorem impl_Raga_firstWrong.mono : ∀ a0 a1 a2 a3 a4 a5 a6 k, LeO (impl_Raga_firstWrong.f k a0 a1 a2 a3 a4 a5 a6) (impl_Raga_firstWrong.f (k + 1) a0 a1 a2 a3 a4 a5 a6) := by
 intro a0 a1 a2 a3 a4 a5 a6 k
 obtain ⟨ih0, ih1⟩ := impl_Raga_firstWrong.mono_l k
 unfold impl_Raga_firstWrong.f
 repeat' first
   | (with_reducible exact ih0 _ _ _ _ _ _ _ _ _ _)
   | (with_reducible exact ih1 _ _ _ _ _ _ _ _ _ _ _ _ _)
   | (with_reducible exact impl_Raga_hasTone.mono _ _ _ _ _ _ _ _)
   | (with_reducible exact impl_Raga_reason.mono _ _ _ _ _ _ _ _ _)
   | (with_reducible exact LeO.refl _)
   | (with_reducible exact LeO.none _)
   | (with_reducible refine LeO.ite ?_ ?_)
   | (with_reducible refine LeO.bind ?_ (fun _ => ?_))
   | exact ih0 _ _ _ _ _ _ _ _ _ _
   | exact ih1 _ _ _ _ _ _ _ _ _ _ _ _ _
   | exact impl_Raga_hasTone.mono _ _ _ _ _ _ _ _
   | exact impl_Raga_reason.mono _ _ _ _ _ _ _ _ _
   | exact LeO.none _
   | refine LeO.ite ?_ ?_
   | refine LeO.bind ?_ (fun _ => ?_)
def impl_Raga_firstWrong.T4 : Bool × List (List Nat × List Nat) := (true, [([], []), ([0], [0]), ([1], [1]), ([2], [2]), ([2], [2]), ([4, 2, 2], [2, 4]), ([3, 5, 5, 2], [2, 3, 5]), ([6, 2], [2, 6]), ([2, 7], [2, 7]), ([8, 6], [8])])
def impl_Raga_firstWrong.B4 : List Nat := [0, 1, 3, 7, 7, 23, 63, 127, 255, 511]
theorem impl_Raga_firstWrong.tab4 : rtab .any (opsOf Try.f109 4) = impl_Raga_firstWrong.T4 := by kernel_rfl
theorem impl_Raga_firstWrong.bits4 : waitsOk impl_Raga_firstWrong.T4.2 impl_Raga_firstWrong.B4 = true := by kernel_rfl
def impl_Raga_firstWrong.T6 : Bool × List (List Nat × List Nat) := (true, [([], []), ([0], [0]), ([1], [1]), ([2], [2]), ([2], [2]), ([2], [2]), ([5, 2], [2, 5]), ([4, 6, 2], [2, 4, 6]), ([7, 2], [2, 7]), ([2], [2]), ([3, 8, 9, 2, 2], [2, 3, 8, 9]), ([10, 2], [2, 10]), ([2, 11], [2, 11]), ([12, 10], [12])])
def impl_Raga_firstWrong.B6 : List Nat := [0, 1, 3, 7, 7, 7, 39, 119, 247, 7, 1023, 2047, 4095, 8191]
theorem impl_Raga_firstWrong.tab6 : rtab .any (opsOf Try.f109 6) = impl_Raga_firstWrong.T6 := by kernel_rfl
theorem impl_Raga_firstWrong.bits6 : waitsOk impl_Raga_firstWrong.T6.2 impl_Raga_firstWrong.B6 = true := by kernel_rfl
def impl_Raga_firstWrong.T7 : Bool × List (List Nat × List Nat) := (true, [([], []), ([], []), ([], []), ([], []), ([3], [3]), ([2, 4], [2, 4]), ([5], [5]), ([], []), ([1, 6, 7], [1, 6, 7]), ([0, 8, 0], [0]), ([8, 9, 0, 1, 2, 3, 4, 5, 6, 7, 8, 9], [8])])
def impl_Raga_firstWrong.B7 : List Nat := [0, 0, 0, 0, 8, 28, 60, 0, 254, 511, 1023]
theorem impl_Raga_firstWrong.tab7 : rtab .any (opsOf Try.f109 7) = impl_Raga_firstWrong.T7 := by kernel_rfl
theorem impl_Raga_firstWrong.bits7 : waitsOk impl_Raga_firstWrong.T7.2 impl_Raga_firstWrong.B7 = true := by kernel_rfl
set_option maxHeartbeats 8000000 in
set_option maxRecDepth 100000 in
theorem impl_Raga_firstWrong.calls (k : Nat) (a0_0 : ByteArray) (A0_1 : Option Addr) (c0_1 : Nat) (l0_1 : List Int) (A0_2 : Option Addr) (c0_2 : Nat) (l0_2 : List Int) (a0_3 : Int) (a0_4 : Int) (A0_5 : Option Addr) (c0_5 : Nat) (l0_5 : List (List Int)) (A1 : Option Addr) (c1 : Nat) (l1 : List Int) (r1 : Int) (r2 : Int) (w : World) (hr0_1 : Kd.C (Kd.int .i64) w A0_1 l0_1.length l0_1) (hc0_1 : l0_1.length ≤ c0_1) (hr0_2 : Kd.C (Kd.int .i64) w A0_2 l0_2.length l0_2) (hc0_2 : l0_2.length ≤ c0_2) (hr0_5 : Kd.C (Kd.slice 2 (Kd.int .i64)) w A0_5 l0_5.length l0_5) (hc0_5 : l0_5.length ≤ c0_5) (hr1 : Kd.C (Kd.int .i64) w A1 l1.length l1) (hc1 : l1.length ≤ c1) (h : impl_Raga_firstWrong.f k a0_0 l0_1 l0_2 a0_3 a0_4 l0_5 l1 = some (r1, r2)) :
  Calls Try.prog 109 #[.agg #[.string a0_0, .slice A0_1 l0_1.length c0_1, .slice A0_2 l0_2.length c0_2, .int .i64 a0_3, .int .i64 a0_4, .slice A0_5 l0_5.length c0_5], .slice A1 l1.length c1] w fun e w' => e = .returned (.tuple #[.int .i64 r1, .int .i64 r2]) ∧ Below w.heap.size w w' := by
 have hu29 := Try.underlying29
 have HR0_1 := Aside0.mk hr0_1
 have HC0_1 := Aside0.mk hc0_1
 clear hr0_1 hc0_1
 have HR0_2 := Aside0.mk hr0_2
 have HC0_2 := Aside0.mk hc0_2
 clear hr0_2 hc0_2
 have HR0_5 := Aside0.mk hr0_5
 have HC0_5 := Aside0.mk hc0_5
 clear hr0_5 hc0_5
 have HR1 := Aside0.mk hr1
 have HC1 := Aside0.mk hc1
 clear hr1 hc1
 have HB := Aside0.mk (Below.refl w.heap.size w)
 have H : (impl_Raga_firstWrong.l0 k l1 l1 (l1.length : Int) 0 a0_0 l0_1 l0_2 a0_3 a0_4 l0_5) = some (r1, r2) := h
 clear h
 have H' := Aside0.mk H
 clear H
 go_enter Try.func109, Try.ntmps109
 go_wp2_with (first | ((with_reducible refine gate_dst (N := 2) rfl ?_); refine box_event ?hg (N := 2) ?hd (cs := #[.string a0_0, .slice A0_1 l0_1.length c0_1, .slice A0_2 l0_2.length c0_2, .int .i64 a0_3, .int .i64 a0_4, .slice A0_5 l0_5.length c0_5]) (t := 29) ?hr ?_; (case hd => rfl); (case hg => rfl); (case hr => first | (go_simp; done) | (go_simp; rfl)); intro gb577 hg w3 hbox hb; have n0_ := Aside0.mk (below_step (ba_ HB.out) hb); have n1_ := Aside0.mk (hbox); have n2_ := Aside0.mk ((by rw [hg]; exact (below_size (ba_ HB.out)) : w.heap.size ≤ gb577)); have n3_ := Aside0.mk ((by rw [hg]; exact (below_size (ba_ HB.out)) : w.heap.size ≤ gb577)); clear HB; have HB := n0_; have BK577 := n1_; have GW577 := n2_; have GE577 := n3_; clear n0_ n1_ n2_ n3_; clear hb hbox hg))
 go_loopg [10] k (fun kq v10 w' => ∃ (x10_1 : Int), v10 = .int .i64 x10_1 ∧ Aside0 (impl_Raga_firstWrong.l0 kq l1 l1 (l1.length : Int) x10_1 a0_0 l0_1 l0_2 a0_3 a0_4 l0_5 = some (r1, r2)) ∧ Aside0 (kq ≤ k) ∧ Aside0 (w'.heap[gb577]? = some (.cells #[.string a0_0, (.slice A0_1 l0_1.length c0_1), (.slice A0_2 l0_2.length c0_2), .int .i64 a0_3, .int .i64 a0_4, (.slice A0_5 l0_5.length c0_5)] 29 (0, 0))) ∧ Aside0 (Below w.heap.size w w'))
 case atStart => exact ⟨(0), sv_, H', ⟨Nat.le_refl _⟩, ⟨by (with_reducible repeat (first | refine blk_drewN ?_ _ | refine blk_drew ?_ | refine blk_alloc ?_ _)); exact BK577.out⟩, ⟨bg_ HB.out GE577.out⟩⟩
 case round =>
  clear H'
  (try clear c1); (try clear p2)
  obtain ⟨x10_1, rfl, HA, HK1, BK577, HB⟩ := hrel
  cases gk with
  | zero => exact absurd HA.out (by simp [impl_Raga_firstWrong.l0])
  | succ k1 =>
   have H := HA.out
   clear HA
   simp only [impl_Raga_firstWrong.l0] at H
   by_cases c4 : x10_1 < (l1.length : Int)
   ·rw [if_pos c4] at H
    have c4b0 : decide (x10_1 < (l1.length : Int)) = true := decide_eq_true c4
    clear c4
    by_cases c5 : 0 ≤ x10_1
    ·rw [if_pos c5] at H
     have c5b0 : decide (0 ≤ x10_1) = true := decide_eq_true c5
     clear c5
     by_cases c6 : x10_1 < (l1.length : Int)
     ·rw [if_pos c6] at H
      have c6b0 : decide (x10_1 < (l1.length : Int)) = true := decide_eq_true c6
      clear c6; have HC7 := Aside0.mk H; clear H
      have p578 : 0 ≤ (x10_1 : Int) := da_
      have q578 : x10_1 < (l1.length : Int) := da_
      obtain ⟨ad578, e578, hx578_0⟩ := Kd.at_int HR1.out x10_1 p578 q578; cases e578
      replace hx578_0 := (wc_ HB.out hx578_0 :)
      replace p578 := eq_true p578; replace q578 := eq_true q578
      go_upto_region 4 with (fail)
      go_cut [15] (fun v15 wc => ∃ (kq : Nat) (x15_6 : Bool), v15 = .bool x15_6 ∧ Aside0 (impl_Raga_firstWrong.j1 kq l1 x10_1 (rd l1 x10_1) l1 (l1.length : Int) x10_1 x15_6 a0_0 l0_1 l0_2 a0_3 a0_4 l0_5 = some (r1, r2)) ∧ Aside0 (kq ≤ k1) ∧ Aside0 (wc.heap[gb577]? = some (.cells #[.string a0_0, (.slice A0_1 l0_1.length c0_1), (.slice A0_2 l0_2.length c0_2), .int .i64 a0_3, .int .i64 a0_4, (.slice A0_5 l0_5.length c0_5)] 29 (0, 0))) ∧ Aside0 (Below w.heap.size w wc))
      case first =>
       have H := HC7.out; clear HC7
       by_cases c8 : x10_1 = 0
       ·rw [if_pos c8] at H
        have c8b0 : (x10_1 == 0) = true := beq_iff_eq.mpr c8
        have c8b1 : (x10_1 != 0) = false := bne_eq_false_iff_eq.mpr c8
        clear c8
        (first | rw [c8b0] | (simp only [i64_w, i32_w]; rw [c8b0]) | skip)
        replace H := Option.bind_eq_some_iff.mp H
        obtain ⟨t579, A90, H⟩ := H
        replace H : ((impl_Raga_hasTone.f k1 a0_0 l0_1 l0_2 a0_3 a0_4 l0_5 t579).bind fun t580 => (impl_Raga_firstWrong.j1 k1 l1 x10_1 (rd l1 x10_1) l1 (l1.length : Int) x10_1 (!t580) a0_0 l0_1 l0_2 a0_3 a0_4 l0_5)) = some (r1, r2) := H
        have A9 := Aside0.mk A90; clear A90
        replace H := Option.bind_eq_some_iff.mp H
        obtain ⟨t580, A100, H⟩ := H
        replace H : (impl_Raga_firstWrong.j1 k1 l1 x10_1 (rd l1 x10_1) l1 (l1.length : Int) x10_1 (!t580) a0_0 l0_1 l0_2 a0_3 a0_4 l0_5) = some (r1, r2) := H
        have A10 := Aside0.mk A100; clear A100
        have H' := Aside0.mk H
        clear H
        try go_wp2
        have n0_ := Aside0.mk (blk_drew BK577.out)
        have n1_ := Aside0.mk (below_drew1 HB.out)
        clear BK577; clear HB; have BK577 := n0_; have HB := n1_; clear n0_ n1_
        refine start_ (n := 10) (S := fun w' => w'.cell? ⟨gb577, 0, none⟩ = some (.string a0_0) ∧ w'.cell? ⟨gb577, 1, none⟩ = some (.slice A0_1 l0_1.length c0_1) ∧ w'.cell? ⟨gb577, 2, none⟩ = some (.slice A0_2 l0_2.length c0_2) ∧ w'.cell? ⟨gb577, 3, none⟩ = some (.int .i64 a0_3) ∧ w'.cell? ⟨gb577, 4, none⟩ = some (.int .i64 a0_4) ∧ w'.cell? ⟨gb577, 5, none⟩ = some (.slice A0_5 l0_5.length c0_5)) (ds := []) impl_Raga_firstWrong.K0 (by kernel_rfl) rfl rfl ⟨(blk_cell BK577.out 0).trans rfl, (blk_cell BK577.out 1).trans rfl, (blk_cell BK577.out 2).trans rfl, (blk_cell BK577.out 3).trans rfl, (blk_cell BK577.out 4).trans rfl, (blk_cell BK577.out 5).trans rfl⟩ (fun hHeld => ?_); refine with_tabW impl_Raga_firstWrong.tab4 impl_Raga_firstWrong.bits4 (fun HT_ HW_ => ?_)
        generalize wr.drew = w11 at BK577 HB hHeld ⊢
        refine pu_ HT_ 0 16 impl_Raga_firstWrong.K1 ?_; refine pu_ HT_ 1 17 impl_Raga_firstWrong.K2 ?_; refine pu_ HT_ 2 18 impl_Raga_firstWrong.K3 ?_; refine pu_ HT_ 4 20 impl_Raga_firstWrong.K4 ?_; refine tk_ HT_ HW_ hHeld 3 19 impl_Raga_firstWrong.K5 ?_
        refine one_ (i := 5) (N := some 21) impl_Raga_firstWrong.K6 rfl rfl (one_of HT_.out (by kernel_rfl)) (by decide) (fun K hK => ?_)
        refine goes_ Try.func70 (by kernel_rfl) rfl #[.int .i64 (rd l1 x10_1)] (by rfl) rfl rfl av_ ?_
        with_reducible refine (impl_ToneOf.calls (rd l1 x10_1) t579 _ A9.out).mono ?_
        rintro e w' ⟨rfl, ⟨nd, rfl⟩⟩
        refine ⟨_, rfl, ?_⟩
        refine hK.out _ _ ⟨(blk_cell BK577.out 0).trans rfl, (blk_cell BK577.out 1).trans rfl, (blk_cell BK577.out 2).trans rfl, (blk_cell BK577.out 3).trans rfl, (blk_cell BK577.out 4).trans rfl, (blk_cell BK577.out 5).trans rfl⟩ (fun hHeld => ?_)
        clear hK K; refine norm_ (a' := ?_) ?_ ?_; rotate_left
        ·show Act.put _ (some 21) _ = _
         go_simp
         rfl
        refine one_ (i := 6) (N := some 22) impl_Raga_firstWrong.K7 rfl rfl (one_of HT_.out (by kernel_rfl)) (by decide) (fun K hK => ?_)
        refine goes_ Try.func69 (by kernel_rfl) rfl #[.agg #[.string a0_0, .slice A0_1 l0_1.length c0_1, .slice A0_2 l0_2.length c0_2, .int .i64 a0_3, .int .i64 a0_4, .slice A0_5 l0_5.length c0_5], .int .i64 t579] (by rfl) rfl rfl av_ ?_
        with_reducible refine (impl_Raga_hasTone.calls k1 a0_0 _ _ l0_1 _ _ l0_2 a0_3 a0_4 _ _ l0_5 t579 t580 _ ?side1 ?side2 ?side3 ?side4 ?side5 ?side6 A10.out).mono ?_
        (case side1 => repeat (first | exact (Kd.C_below HR0_1.out (bg_ HB.out GE577.out)) | (with_reducible refine Kd.C_alloc ?_ _) | (with_reducible refine Kd.C_drewN ?_ _) | (with_reducible refine Kd.C_drew ?_)))
        (case side2 => exact HC0_1.out)
        (case side3 => repeat (first | exact (Kd.C_below HR0_2.out (bg_ HB.out GE577.out)) | (with_reducible refine Kd.C_alloc ?_ _) | (with_reducible refine Kd.C_drewN ?_ _) | (with_reducible refine Kd.C_drew ?_)))
        (case side4 => exact HC0_2.out)
        (case side5 => repeat (first | exact (Kd.C_below HR0_5.out (bg_ HB.out GE577.out)) | (with_reducible refine Kd.C_alloc ?_ _) | (with_reducible refine Kd.C_drewN ?_ _) | (with_reducible refine Kd.C_drew ?_)))
        (case side6 => exact HC0_5.out)
        rintro e w12 ⟨rfl, hb⟩
        refine ⟨_, rfl, ?_⟩
        have n0_ := Aside0.mk (blk_below (g := gb577) (o := .cells #[.string a0_0, .slice A0_1 l0_1.length c0_1, .slice A0_2 l0_2.length c0_2, .int .i64 a0_3, .int .i64 a0_4, .slice A0_5 l0_5.length c0_5] 29 (0, 0)) (by repeat first | exact BK577.out | refine blk_drewN ?_ _ | refine blk_drew ?_ | refine blk_alloc ?_ _) hb)
        have n1_ := Aside0.mk (below_step (bg_ HB.out GE577.out) hb)
        clear BK577; clear HB; have BK577 := n0_; have HB := n1_; clear n0_ n1_; (try clear hb); (try clear hb2); (try clear hk); (try clear hi)
        refine hK.out _ _ ⟨(blk_cell BK577.out 0).trans rfl, (blk_cell BK577.out 1).trans rfl, (blk_cell BK577.out 2).trans rfl, (blk_cell BK577.out 3).trans rfl, (blk_cell BK577.out 4).trans rfl, (blk_cell BK577.out 5).trans rfl⟩ (fun hHeld => ?_)
        clear hK K; refine norm_ (a' := ?_) ?_ ?_; rotate_left
        ·show Act.put _ (some 22) _ = _
         go_simp
         rfl
        refine pu_ HT_ 7 23 impl_Raga_firstWrong.K8 ?_; refine pu_ HT_ 8 24 impl_Raga_firstWrong.K9 ?_; refine pu_ HT_ 9 15 impl_Raga_firstWrong.K10 ?_
        refine done_ (done_of HT_.out (by kernel_rfl)) ?_
        try go_wp2
        go_meet
        case rel => exact ⟨_, (!t580), sv_, H', ⟨by have := HK1.out; first | omega | exact Nat.le_refl _⟩, ⟨by (with_reducible repeat (first | refine blk_drewN ?_ _ | refine blk_drew ?_ | refine blk_alloc ?_ _)); exact BK577.out⟩, ⟨bg_ HB.out GE577.out⟩⟩
       ·rw [if_neg c8] at H
        have c8b0 : (x10_1 == 0) = false := beq_eq_false_iff_ne.mpr c8
        have c8b1 : (x10_1 != 0) = true := bne_iff_ne.mpr c8
        (first | rw [c8b0] | (simp only [i64_w, i32_w]; rw [c8b0]) | skip)
        have H' := Aside0.mk H
        clear H
        try go_wp2
        have n0_ := Aside0.mk (blk_drew BK577.out)
        have n1_ := Aside0.mk (below_drew1 HB.out)
        clear BK577; clear HB; have BK577 := n0_; have HB := n1_; clear n0_ n1_
        refine start_ (n := 10) (S := fun w' => True) (ds := []) impl_Raga_firstWrong.K0 (by kernel_rfl) rfl rfl trivial (fun hHeld => ?_); refine with_tabW impl_Raga_firstWrong.tab4 impl_Raga_firstWrong.bits4 (fun HT_ HW_ => ?_)
        generalize wr.drew = w13 at BK577 HB hHeld ⊢
        refine pu_ HT_ 0 16 impl_Raga_firstWrong.K1 ?_; refine pu_ HT_ 1 17 impl_Raga_firstWrong.K2 ?_; refine pu_ HT_ 2 18 impl_Raga_firstWrong.K3 ?_; refine un_ HT_ 3 19 impl_Raga_firstWrong.K11 ?_; refine un_ HT_ 4 20 impl_Raga_firstWrong.K5 ?_; refine un_ HT_ 5 21 impl_Raga_firstWrong.K6 ?_; refine un_ HT_ 6 22 impl_Raga_firstWrong.K7 ?_; refine un_ HT_ 7 23 impl_Raga_firstWrong.K8 ?_; refine pu_ HT_ 8 24 impl_Raga_firstWrong.K9 ?_; refine pu_ HT_ 9 15 impl_Raga_firstWrong.K10 ?_
        refine done_ (done_of HT_.out (by kernel_rfl)) ?_
        try go_wp2
        go_meet
        case rel => exact ⟨_, (false), sv_, H', ⟨by have := HK1.out; first | omega | exact Nat.le_refl _⟩, ⟨by (with_reducible repeat (first | refine blk_drewN ?_ _ | refine blk_drew ?_ | refine blk_alloc ?_ _)); exact BK577.out⟩, ⟨bg_ HB.out GE577.out⟩⟩
      case rest =>
       clear HC7; (try clear c1); (try clear p2); (try clear c4); (try clear c4b0); (try clear c5); (try clear c5b0); (try clear p5); (try clear q5); (try clear hx5); (try clear c6); (try clear c6b0); (try clear c7); (try clear c8); (try clear c8b0); (try clear c8b1); (try clear c10); (try clear hx578_0); (try clear p2); (try clear p578); (try clear q578); obtain ⟨kq, x15_6, rfl, HA, HJ6, BK577, HB⟩ := hcut
       cases kq with
       | zero => exact absurd HA.out (by simp [impl_Raga_firstWrong.j1])
       | succ kj6 =>
        have H := HA.out; clear HA
        simp only [impl_Raga_firstWrong.j1] at H
        by_cases c14 : x15_6 = true
        ·subst c14
         have H1 : (some (0, 1)) = some (r1, r2) := by rw [if_pos rfl] at H; exact H
         clear H; have H := H1; clear H1
         simp only [Option.some.injEq, Prod.mk.injEq] at H
         obtain ⟨rfl, rfl⟩ := H
         go_wp2
         go_ret2
         exact ⟨by first | rfl | (simp [errW_none, errW_some] <;> rfl) | (simp [*, errW_none, errW_some] <;> rfl), bg_ HB.out GE577.out⟩
        ·replace c14 := Bool.eq_false_iff.mpr c14
         subst c14
         have H1 : (if x10_1 > 0 then (if 0 ≤ (wrap64 (x10_1 - 1)) then (if (wrap64 (x10_1 - 1)) < (l1.length : Int) then ((impl_Raga_reason.f kj6 a0_0 l0_1 l0_2 a0_3 a0_4 l0_5 (rd l1 (wrap64 (x10_1 - 1))) (rd l1 x10_1)).bind fun t582 => (if t582 = 0 then (impl_Raga_firstWrong.l0 kj6 l1 l1 (l1.length : Int) (wrap64 (x10_1 + 1)) a0_0 l0_1 l0_2 a0_3 a0_4 l0_5) else ((impl_Raga_reason.f kj6 a0_0 l0_1 l0_2 a0_3 a0_4 l0_5 (rd l1 (wrap64 (x10_1 - 1))) (rd l1 x10_1)).bind fun t584 => (some (x10_1, t584))))) else (none)) else (none)) else (impl_Raga_firstWrong.l0 kj6 l1 l1 (l1.length : Int) (wrap64 (x10_1 + 1)) a0_0 l0_1 l0_2 a0_3 a0_4 l0_5)) = some (r1, r2) := by rw [if_neg (show ¬ (false = true) by decide)] at H; exact H
         clear H; have H := H1; clear H1
         by_cases c15 : x10_1 > 0
         ·rw [if_pos c15] at H
          have c15b0 : decide (0 < x10_1) = true := decide_eq_true c15
          clear c15
          obtain ⟨ji16, hji16⟩ : ∃ j_ : Int, (wrap64 (x10_1 - 1)) = j_ := ⟨_, rfl⟩
          replace H : (if 0 ≤ (ji16) then (if (ji16) < (l1.length : Int) then ((impl_Raga_reason.f kj6 a0_0 l0_1 l0_2 a0_3 a0_4 l0_5 (rd l1 (ji16)) (rd l1 x10_1)).bind fun t582 => (if t582 = 0 then (impl_Raga_firstWrong.l0 kj6 l1 l1 (l1.length : Int) (wrap64 (x10_1 + 1)) a0_0 l0_1 l0_2 a0_3 a0_4 l0_5) else ((impl_Raga_reason.f kj6 a0_0 l0_1 l0_2 a0_3 a0_4 l0_5 (rd l1 (ji16)) (rd l1 x10_1)).bind fun t584 => (some (x10_1, t584))))) else (none)) else (none)) = some (r1, r2) := by first | (rw [hji16] at H; exact H) | (simp only [hji16] at H ⊢; exact H)
          have hji16w : (IntKind.i64.wrap (x10_1 - 1)) = ji16 := (i64_w _).trans hji16
          by_cases c17 : 0 ≤ (ji16)
          ·rw [if_pos c17] at H
           have c17b0 : decide (0 ≤ (ji16)) = true := decide_eq_true c17
           clear c17
           by_cases c18 : (ji16) < (l1.length : Int)
           ·rw [if_pos c18] at H
            have c18b0 : decide ((ji16) < (l1.length : Int)) = true := decide_eq_true c18
            clear c18
            replace H := Option.bind_eq_some_iff.mp H
            obtain ⟨t582, A190, H⟩ := H
            replace H : (if t582 = 0 then (impl_Raga_firstWrong.l0 kj6 l1 l1 (l1.length : Int) (wrap64 (x10_1 + 1)) a0_0 l0_1 l0_2 a0_3 a0_4 l0_5) else ((impl_Raga_reason.f kj6 a0_0 l0_1 l0_2 a0_3 a0_4 l0_5 (rd l1 (ji16)) (rd l1 x10_1)).bind fun t584 => (some (x10_1, t584)))) = some (r1, r2) := H
            have A19 := Aside0.mk A190; clear A190
            by_cases c20 : t582 = 0
            ·rw [if_pos c20] at H
             have c20b0 : (t582 == 0) = true := beq_iff_eq.mpr c20
             have c20b1 : (t582 != 0) = false := bne_eq_false_iff_eq.mpr c20
             clear c20
             have H' := Aside0.mk H
             clear H
             try go_wp2
             have n0_ := Aside0.mk (blk_drew BK577.out)
             have n1_ := Aside0.mk (below_drew1 HB.out)
             clear BK577; clear HB; have BK577 := n0_; have HB := n1_; clear n0_ n1_
             have p581 : 0 ≤ ((ji16) : Int) := da_
             have q581 : (ji16) < (l1.length : Int) := da_
             obtain ⟨ad581, e581, hx581_0⟩ := Kd.at_int HR1.out (ji16) p581 q581; have hw581_0 := hx581_0; obtain rfl : ad578 = ad581 := (by injection e581)
             replace hx581_0 := (wc_ HB.out hx581_0 :)
             replace p581 := eq_true p581; replace q581 := eq_true q581
             refine start_ (n := 14) (S := fun w' => w'.cell? ⟨gb577, 0, none⟩ = some (.string a0_0) ∧ w'.cell? ⟨gb577, 1, none⟩ = some (.slice A0_1 l0_1.length c0_1) ∧ w'.cell? ⟨gb577, 2, none⟩ = some (.slice A0_2 l0_2.length c0_2) ∧ w'.cell? ⟨gb577, 3, none⟩ = some (.int .i64 a0_3) ∧ w'.cell? ⟨gb577, 4, none⟩ = some (.int .i64 a0_4) ∧ w'.cell? ⟨gb577, 5, none⟩ = some (.slice A0_5 l0_5.length c0_5) ∧ w'.cell? (ad578.add ((ji16)).toNat) = some (.int .i64 (rd l1 (ji16)))) (ds := []) impl_Raga_firstWrong.K12 (by kernel_rfl) rfl rfl ⟨(blk_cell BK577.out 0).trans rfl, (blk_cell BK577.out 1).trans rfl, (blk_cell BK577.out 2).trans rfl, (blk_cell BK577.out 3).trans rfl, (blk_cell BK577.out 4).trans rfl, (blk_cell BK577.out 5).trans rfl, (wc_ HB.out hw581_0 :)⟩ (fun hHeld => ?_); refine with_tabW impl_Raga_firstWrong.tab6 impl_Raga_firstWrong.bits6 (fun HT_ HW_ => ?_)
             generalize wc.drew = w21 at BK577 HB hx581_0 hHeld ⊢
             refine pu_ HT_ 0 26 impl_Raga_firstWrong.K13 ?_; refine pu_ HT_ 1 27 impl_Raga_firstWrong.K14 ?_; refine pu_ HT_ 2 28 impl_Raga_firstWrong.K15 ?_; refine pu_ HT_ 4 30 impl_Raga_firstWrong.K16 ?_; refine pu_ HT_ 5 31 impl_Raga_firstWrong.K17 ?_; refine pu_ HT_ 6 32 impl_Raga_firstWrong.K18 ?_; refine pu_ HT_ 7 33 impl_Raga_firstWrong.K19 ?_; refine pu_ HT_ 9 35 impl_Raga_firstWrong.K20 ?_; refine tk_ HT_ HW_ hHeld 3 29 impl_Raga_firstWrong.K21 ?_; refine tk_ HT_ HW_ hHeld 8 34 impl_Raga_firstWrong.K22 ?_
             refine one_ (i := 10) (N := some 36) impl_Raga_firstWrong.K23 rfl rfl (one_of HT_.out (by kernel_rfl)) (by decide) (fun K hK => ?_)
             refine goes_ Try.func120 (by kernel_rfl) rfl #[.agg #[.string a0_0, .slice A0_1 l0_1.length c0_1, .slice A0_2 l0_2.length c0_2, .int .i64 a0_3, .int .i64 a0_4, .slice A0_5 l0_5.length c0_5], .int .i64 (rd l1 (ji16)), .int .i64 (rd l1 x10_1)] (by rfl) rfl rfl (by (try simp only [List.map_toArray, List.map_cons, List.map_nil]); first | done | (simp only [hji16]; rfl) | rfl | (simp only [List.length_drop, List.length_take]; rfl)) ?_
             with_reducible refine (impl_Raga_reason.calls kj6 a0_0 _ _ l0_1 _ _ l0_2 a0_3 a0_4 _ _ l0_5 (rd l1 (ji16)) (rd l1 x10_1) t582 _ ?side1 ?side2 ?side3 ?side4 ?side5 ?side6 A19.out).mono ?_
             (case side1 => exact (Kd.C_below HR0_1.out HB.out))
             (case side2 => exact HC0_1.out)
             (case side3 => exact (Kd.C_below HR0_2.out HB.out))
             (case side4 => exact HC0_2.out)
             (case side5 => exact (Kd.C_below HR0_5.out HB.out))
             (case side6 => exact HC0_5.out)
             rintro e w22 ⟨rfl, hb⟩
             refine ⟨_, rfl, ?_⟩
             have n0_ := Aside0.mk (blk_below (g := gb577) (o := .cells #[.string a0_0, .slice A0_1 l0_1.length c0_1, .slice A0_2 l0_2.length c0_2, .int .i64 a0_3, .int .i64 a0_4, .slice A0_5 l0_5.length c0_5] 29 (0, 0)) (by repeat first | exact BK577.out | refine blk_drewN ?_ _ | refine blk_drew ?_ | refine blk_alloc ?_ _) hb)
             have n1_ := Aside0.mk (below_step (bg_ HB.out GE577.out) hb)
             clear BK577; clear HB; have BK577 := n0_; have HB := n1_; clear n0_ n1_; (try clear hb); (try clear hb2); (try clear hk); (try clear hi)
             refine hK.out _ _ ⟨(blk_cell BK577.out 0).trans rfl, (blk_cell BK577.out 1).trans rfl, (blk_cell BK577.out 2).trans rfl, (blk_cell BK577.out 3).trans rfl, (blk_cell BK577.out 4).trans rfl, (blk_cell BK577.out 5).trans rfl, (wc_ HB.out hw581_0 :)⟩ (fun hHeld => ?_)
             clear hK K; refine norm_ (a' := ?_) ?_ ?_; rotate_left
             ·show Act.put _ (some 36) _ = _
              go_simp
              rfl
             refine pu_ HT_ 11 37 impl_Raga_firstWrong.K24 ?_; refine pu_ HT_ 12 38 impl_Raga_firstWrong.K25 ?_; refine pu_ HT_ 13 25 impl_Raga_firstWrong.K26 ?_
             refine done_ (done_of HT_.out (by kernel_rfl)) ?_
             try go_wp2
             go_roundg kj6
             case measure => have := HK1.out; have := HJ6.out; omega
             case rel => exact ⟨(wrap64 (x10_1 + 1)), sv_, H', ⟨by have := HK1.out; have := HJ6.out; omega⟩, ⟨by (with_reducible repeat (first | refine blk_drewN ?_ _ | refine blk_drew ?_ | refine blk_alloc ?_ _)); exact BK577.out⟩, ⟨bg_ HB.out GE577.out⟩⟩
            ·rw [if_neg c20] at H
             have c20b0 : (t582 == 0) = false := beq_eq_false_iff_ne.mpr c20
             have c20b1 : (t582 != 0) = true := bne_iff_ne.mpr c20
             replace H := Option.bind_eq_some_iff.mp H
             obtain ⟨t584, A230, H⟩ := H
             replace H : (some (x10_1, t584)) = some (r1, r2) := H
             have A23 := Aside0.mk A230; clear A230
             simp only [Option.some.injEq, Prod.mk.injEq] at H
             obtain ⟨rfl, rfl⟩ := H
             try go_wp2
             have n0_ := Aside0.mk (blk_drew BK577.out)
             have n1_ := Aside0.mk (below_drew1 HB.out)
             clear BK577; clear HB; have BK577 := n0_; have HB := n1_; clear n0_ n1_
             have p581 : 0 ≤ ((ji16) : Int) := da_
             have q581 : (ji16) < (l1.length : Int) := da_
             obtain ⟨ad581, e581, hx581_0⟩ := Kd.at_int HR1.out (ji16) p581 q581; have hw581_0 := hx581_0; obtain rfl : ad578 = ad581 := (by injection e581)
             replace hx581_0 := (wc_ HB.out hx581_0 :)
             replace p581 := eq_true p581; replace q581 := eq_true q581
             refine start_ (n := 14) (S := fun w' => w'.cell? ⟨gb577, 0, none⟩ = some (.string a0_0) ∧ w'.cell? ⟨gb577, 1, none⟩ = some (.slice A0_1 l0_1.length c0_1) ∧ w'.cell? ⟨gb577, 2, none⟩ = some (.slice A0_2 l0_2.length c0_2) ∧ w'.cell? ⟨gb577, 3, none⟩ = some (.int .i64 a0_3) ∧ w'.cell? ⟨gb577, 4, none⟩ = some (.int .i64 a0_4) ∧ w'.cell? ⟨gb577, 5, none⟩ = some (.slice A0_5 l0_5.length c0_5) ∧ w'.cell? (ad578.add ((ji16)).toNat) = some (.int .i64 (rd l1 (ji16)))) (ds := []) impl_Raga_firstWrong.K12 (by kernel_rfl) rfl rfl ⟨(blk_cell BK577.out 0).trans rfl, (blk_cell BK577.out 1).trans rfl, (blk_cell BK577.out 2).trans rfl, (blk_cell BK577.out 3).trans rfl, (blk_cell BK577.out 4).trans rfl, (blk_cell BK577.out 5).trans rfl, (wc_ HB.out hw581_0 :)⟩ (fun hHeld => ?_); refine with_tabW impl_Raga_firstWrong.tab6 impl_Raga_firstWrong.bits6 (fun HT_ HW_ => ?_)
             generalize wc.drew = w24 at BK577 HB hx581_0 hHeld ⊢
             refine pu_ HT_ 0 26 impl_Raga_firstWrong.K13 ?_; refine pu_ HT_ 1 27 impl_Raga_firstWrong.K14 ?_; refine pu_ HT_ 2 28 impl_Raga_firstWrong.K15 ?_; refine pu_ HT_ 4 30 impl_Raga_firstWrong.K16 ?_; refine pu_ HT_ 5 31 impl_Raga_firstWrong.K17 ?_; refine pu_ HT_ 6 32 impl_Raga_firstWrong.K18 ?_; refine pu_ HT_ 7 33 impl_Raga_firstWrong.K19 ?_; refine pu_ HT_ 9 35 impl_Raga_firstWrong.K20 ?_; refine tk_ HT_ HW_ hHeld 3 29 impl_Raga_firstWrong.K21 ?_; refine tk_ HT_ HW_ hHeld 8 34 impl_Raga_firstWrong.K22 ?_
             refine one_ (i := 10) (N := some 36) impl_Raga_firstWrong.K23 rfl rfl (one_of HT_.out (by kernel_rfl)) (by decide) (fun K hK => ?_)
             refine goes_ Try.func120 (by kernel_rfl) rfl #[.agg #[.string a0_0, .slice A0_1 l0_1.length c0_1, .slice A0_2 l0_2.length c0_2, .int .i64 a0_3, .int .i64 a0_4, .slice A0_5 l0_5.length c0_5], .int .i64 (rd l1 (ji16)), .int .i64 (rd l1 x10_1)] (by rfl) rfl rfl (by (try simp only [List.map_toArray, List.map_cons, List.map_nil]); first | done | (simp only [hji16]; rfl) | rfl | (simp only [List.length_drop, List.length_take]; rfl)) ?_
             with_reducible refine (impl_Raga_reason.calls kj6 a0_0 _ _ l0_1 _ _ l0_2 a0_3 a0_4 _ _ l0_5 (rd l1 (ji16)) (rd l1 x10_1) t582 _ ?side1 ?side2 ?side3 ?side4 ?side5 ?side6 A19.out).mono ?_
             (case side1 => exact (Kd.C_below HR0_1.out HB.out))
             (case side2 => exact HC0_1.out)
             (case side3 => exact (Kd.C_below HR0_2.out HB.out))
             (case side4 => exact HC0_2.out)
             (case side5 => exact (Kd.C_below HR0_5.out HB.out))
             (case side6 => exact HC0_5.out)
             rintro e w25 ⟨rfl, hb⟩
             refine ⟨_, rfl, ?_⟩
             have n0_ := Aside0.mk (blk_below (g := gb577) (o := .cells #[.string a0_0, .slice A0_1 l0_1.length c0_1, .slice A0_2 l0_2.length c0_2, .int .i64 a0_3, .int .i64 a0_4, .slice A0_5 l0_5.length c0_5] 29 (0, 0)) (by repeat first | exact BK577.out | refine blk_drewN ?_ _ | refine blk_drew ?_ | refine blk_alloc ?_ _) hb)
             have n1_ := Aside0.mk (below_step (bg_ HB.out GE577.out) hb)
             clear BK577; clear HB; have BK577 := n0_; have HB := n1_; clear n0_ n1_; (try clear hb); (try clear hb2); (try clear hk); (try clear hi)
             refine hK.out _ _ ⟨(blk_cell BK577.out 0).trans rfl, (blk_cell BK577.out 1).trans rfl, (blk_cell BK577.out 2).trans rfl, (blk_cell BK577.out 3).trans rfl, (blk_cell BK577.out 4).trans rfl, (blk_cell BK577.out 5).trans rfl, (wc_ HB.out hw581_0 :)⟩ (fun hHeld => ?_)
             clear hK K; refine norm_ (a' := ?_) ?_ ?_; rotate_left
             ·show Act.put _ (some 36) _ = _
              go_simp
              rfl
             refine pu_ HT_ 11 37 impl_Raga_firstWrong.K24 ?_; refine pu_ HT_ 12 38 impl_Raga_firstWrong.K25 ?_; refine pu_ HT_ 13 25 impl_Raga_firstWrong.K26 ?_
             refine done_ (done_of HT_.out (by kernel_rfl)) ?_
             try go_wp2
             have n0_ := Aside0.mk (blk_drew BK577.out)
             have n1_ := Aside0.mk (below_drew1 HB.out)
             clear BK577; clear HB; have BK577 := n0_; have HB := n1_; clear n0_ n1_
             have p583 : 0 ≤ ((ji16) : Int) := da_
             have q583 : (ji16) < (l1.length : Int) := da_
             obtain ⟨ad583, e583, hx583_0⟩ := Kd.at_int HR1.out (ji16) p583 q583; have hw583_0 := hx583_0; obtain rfl : ad578 = ad583 := (by injection e583)
             replace hx583_0 := (wc_ HB.out hx583_0 :)
             replace p583 := eq_true p583; replace q583 := eq_true q583
             refine start_ (n := 11) (S := fun w' => w'.cell? ⟨gb577, 0, none⟩ = some (.string a0_0) ∧ w'.cell? ⟨gb577, 1, none⟩ = some (.slice A0_1 l0_1.length c0_1) ∧ w'.cell? ⟨gb577, 2, none⟩ = some (.slice A0_2 l0_2.length c0_2) ∧ w'.cell? ⟨gb577, 3, none⟩ = some (.int .i64 a0_3) ∧ w'.cell? ⟨gb577, 4, none⟩ = some (.int .i64 a0_4) ∧ w'.cell? ⟨gb577, 5, none⟩ = some (.slice A0_5 l0_5.length c0_5) ∧ w'.cell? (ad578.add ((ji16)).toNat) = some (.int .i64 (rd l1 (ji16)))) (ds := []) impl_Raga_firstWrong.K27 (by kernel_rfl) rfl rfl ⟨(blk_cell BK577.out 0).trans rfl, (blk_cell BK577.out 1).trans rfl, (blk_cell BK577.out 2).trans rfl, (blk_cell BK577.out 3).trans rfl, (blk_cell BK577.out 4).trans rfl, (blk_cell BK577.out 5).trans rfl, (wc_ HB.out hw583_0 :)⟩ (fun hHeld => ?_); refine with_tabW impl_Raga_firstWrong.tab7 impl_Raga_firstWrong.bits7 (fun HT_ HW_ => ?_)
             generalize w25.drew = w26 at BK577 HB hx583_0 hHeld ⊢
             refine pu_ HT_ 0 39 impl_Raga_firstWrong.K28 ?_; refine pu_ HT_ 2 41 impl_Raga_firstWrong.K29 ?_; refine pu_ HT_ 3 42 impl_Raga_firstWrong.K30 ?_; refine pu_ HT_ 4 43 impl_Raga_firstWrong.K31 ?_; refine pu_ HT_ 5 44 impl_Raga_firstWrong.K32 ?_; refine pu_ HT_ 7 46 impl_Raga_firstWrong.K33 ?_; refine tk_ HT_ HW_ hHeld 1 40 impl_Raga_firstWrong.K34 ?_; refine tk_ HT_ HW_ hHeld 6 45 impl_Raga_firstWrong.K35 ?_
             refine one_ (i := 8) (N := some 47) impl_Raga_firstWrong.K36 rfl rfl (one_of HT_.out (by kernel_rfl)) (by decide) (fun K hK => ?_)
             refine goes_ Try.func120 (by kernel_rfl) rfl #[.agg #[.string a0_0, .slice A0_1 l0_1.length c0_1, .slice A0_2 l0_2.length c0_2, .int .i64 a0_3, .int .i64 a0_4, .slice A0_5 l0_5.length c0_5], .int .i64 (rd l1 (ji16)), .int .i64 (rd l1 x10_1)] (by rfl) rfl rfl (by (try simp only [List.map_toArray, List.map_cons, List.map_nil]); first | done | (simp only [hji16]; rfl) | rfl | (simp only [List.length_drop, List.length_take]; rfl)) ?_
             with_reducible refine (impl_Raga_reason.calls kj6 a0_0 _ _ l0_1 _ _ l0_2 a0_3 a0_4 _ _ l0_5 (rd l1 (ji16)) (rd l1 x10_1) t584 _ ?side1 ?side2 ?side3 ?side4 ?side5 ?side6 A23.out).mono ?_
             (case side1 => exact (Kd.C_below HR0_1.out HB.out))
             (case side2 => exact HC0_1.out)
             (case side3 => exact (Kd.C_below HR0_2.out HB.out))
             (case side4 => exact HC0_2.out)
             (case side5 => exact (Kd.C_below HR0_5.out HB.out))
             (case side6 => exact HC0_5.out)
             rintro e w27 ⟨rfl, hb⟩
             refine ⟨_, rfl, ?_⟩
             have n0_ := Aside0.mk (blk_below (g := gb577) (o := .cells #[.string a0_0, .slice A0_1 l0_1.length c0_1, .slice A0_2 l0_2.length c0_2, .int .i64 a0_3, .int .i64 a0_4, .slice A0_5 l0_5.length c0_5] 29 (0, 0)) (by repeat first | exact BK577.out | refine blk_drewN ?_ _ | refine blk_drew ?_ | refine blk_alloc ?_ _) hb)
             have n1_ := Aside0.mk (below_step (bg_ HB.out GE577.out) hb)
             clear BK577; clear HB; have BK577 := n0_; have HB := n1_; clear n0_ n1_; (try clear hb); (try clear hb2); (try clear hk); (try clear hi)
             refine hK.out _ _ ⟨(blk_cell BK577.out 0).trans rfl, (blk_cell BK577.out 1).trans rfl, (blk_cell BK577.out 2).trans rfl, (blk_cell BK577.out 3).trans rfl, (blk_cell BK577.out 4).trans rfl, (blk_cell BK577.out 5).trans rfl, (wc_ HB.out hw583_0 :)⟩ (fun hHeld => ?_)
             clear hK K; refine norm_ (a' := ?_) ?_ ?_; rotate_left
             ·show Act.put _ (some 47) _ = _
              go_simp
              rfl
             refine pu_ HT_ 9 4 impl_Raga_firstWrong.K37 ?_; refine pu_ HT_ 10 5 impl_Raga_firstWrong.K38 ?_
             refine done_ (done_of HT_.out (by kernel_rfl)) ?_
             try go_wp2
             go_ret2
             exact ⟨by first | rfl | (simp [errW_none, errW_some] <;> rfl) | (simp only [← hji16]; first | rfl | (simp [errW_none, errW_some] <;> rfl)) | (simp [*, errW_none, errW_some] <;> rfl), bg_ HB.out GE577.out⟩
           ·rw [if_neg c18] at H
            exact absurd H (by simp)
          ·rw [if_neg c17] at H
           exact absurd H (by simp)
         ·rw [if_neg c15] at H
          have c15b0 : decide (0 < x10_1) = false := decide_eq_false c15
          clear c15
          have H' := Aside0.mk H
          clear H
          try go_wp2
          have n0_ := Aside0.mk (blk_drew BK577.out)
          have n1_ := Aside0.mk (below_drew1 HB.out)
          clear BK577; clear HB; have BK577 := n0_; have HB := n1_; clear n0_ n1_
          refine start_ (n := 14) (S := fun w' => True) (ds := []) impl_Raga_firstWrong.K12 (by kernel_rfl) rfl rfl trivial (fun hHeld => ?_); refine with_tabW impl_Raga_firstWrong.tab6 impl_Raga_firstWrong.bits6 (fun HT_ HW_ => ?_)
          generalize wc.drew = w28 at BK577 HB hHeld ⊢
          refine pu_ HT_ 0 26 impl_Raga_firstWrong.K13 ?_; refine pu_ HT_ 1 27 impl_Raga_firstWrong.K14 ?_; refine pu_ HT_ 2 28 impl_Raga_firstWrong.K15 ?_; refine un_ HT_ 3 29 impl_Raga_firstWrong.K39 ?_; refine un_ HT_ 4 30 impl_Raga_firstWrong.K40 ?_; refine un_ HT_ 5 31 impl_Raga_firstWrong.K41 ?_; refine un_ HT_ 6 32 impl_Raga_firstWrong.K42 ?_; refine un_ HT_ 7 33 impl_Raga_firstWrong.K43 ?_; refine un_ HT_ 8 34 impl_Raga_firstWrong.K44 ?_; refine un_ HT_ 9 35 impl_Raga_firstWrong.K22 ?_; refine un_ HT_ 10 36 impl_Raga_firstWrong.K23 ?_; refine un_ HT_ 11 37 impl_Raga_firstWrong.K24 ?_; refine pu_ HT_ 12 38 impl_Raga_firstWrong.K25 ?_; refine pu_ HT_ 13 25 impl_Raga_firstWrong.K26 ?_
          refine done_ (done_of HT_.out (by kernel_rfl)) ?_
          try go_wp2
          go_roundg kj6
          case measure => have := HK1.out; have := HJ6.out; omega
          case rel => exact ⟨(wrap64 (x10_1 + 1)), sv_, H', ⟨by have := HK1.out; have := HJ6.out; omega⟩, ⟨by (with_reducible repeat (first | refine blk_drewN ?_ _ | refine blk_drew ?_ | refine blk_alloc ?_ _)); exact BK577.out⟩, ⟨bg_ HB.out GE577.out⟩⟩
     ·rw [if_neg c6] at H
      exact absurd H (by simp)
    ·rw [if_neg c5] at H
     exact absurd H (by simp)
   ·rw [if_neg c4] at H
    have c4b0 : decide (x10_1 < (l1.length : Int)) = false := decide_eq_false c4
    clear c4
    simp only [Option.some.injEq, Prod.mk.injEq] at H
    obtain ⟨rfl, rfl⟩ := H
    go_wp2
    go_ret2
    exact ⟨by first | rfl | (simp [errW_none, errW_some] <;> rfl) | (simp [*, errW_none, errW_some] <;> rfl), bg_ HB.out GE577.out⟩
/-! ### impl_onlyNameBytes: function 144 -/
def impl_onlyNameBytes.l0 : Nat → ByteArray → Int → Int → Option (Bool)
 | 0, _, _, _ => none
 | k + 1, x0, x6, x7 => if x7 < x6 then (if 0 ≤ x7 then (if x7 < (x0.size : Int) then (if (bt x0 x7) < 97 then (if (bt x0 x7) < 48 then (some false) else (if (bt x0 x7) > 57 then (some false) else (impl_onlyNameBytes.l0 k x0 x6 (wrap64 (x7 + 1))))) else (if (bt x0 x7) > 122 then (if (bt x0 x7) < 48 then (some false) else (if (bt x0 x7) > 57 then (some false) else (impl_onlyNameBytes.l0 k x0 x6 (wrap64 (x7 + 1))))) else (impl_onlyNameBytes.l0 k x0 x6 (wrap64 (x7 + 1))))) else (none)) else (none)) else (some true)
def impl_onlyNameBytes.f (k : Nat) (a0 : ByteArray) : Option (Bool) := impl_onlyNameBytes.l0 k a0 (a0.size : Int) 0
theorem impl_onlyNameBytes.mono_l : ∀ k, (∀ y0 y1 y2, LeO (impl_onlyNameBytes.l0 k y0 y1 y2) (impl_onlyNameBytes.l0 (k + 1) y0 y1 y2))
 | 0 => fun _ _ _ r h => by simp [impl_onlyNameBytes.l0] at h
 | k + 1 => by
  have ih0 := impl_onlyNameBytes.mono_l k
  ·intro y0 y1 y2
   unfold impl_onlyNameBytes.l0
   repeat' first
   | (with_reducible exact ih0 _ _ _)
   | (with_reducible exact LeO.refl _)
   | (with_reducible exact LeO.none _)
   | (with_reducible refine LeO.ite ?_ ?_)
   | (with_reducible refine LeO.bind ?_ (fun _ => ?_))
   | exact ih0 _ _ _
   | exact LeO.none _
   | refine LeO.ite ?_ ?_
   | refine LeO.bind ?_ (fun _ => ?_)
theorem impl_onlyNameBytes.mono : ∀ a0 k, LeO (impl_onlyNameBytes.f k a0) (impl_onlyNameBytes.f (k + 1) a0) := by
 intro a0 k
 have ih0 := impl_onlyNameBytes.mono_l k
 unfold impl_onlyNameBytes.f
 repeat' first
   | (with_reducible exact ih0 _ _ _)
   | (with_reducible exact LeO.refl _)
   | (with_reducible exact LeO.none _)
   | (with_reducible refine LeO.ite ?_ ?_)
   | (with_reducible refine LeO.bind ?_ (fun _ => ?_))
   | exact ih0 _ _ _
   | exact LeO.none _
   | refine LeO.ite ?_ ?_
   | refine LeO.bind ?_ (fun _ => ?_)
set_option maxHeartbeats 8000000 in
set_option maxRecDepth 100000 in
theorem impl_onlyNameBytes.calls (k : Nat) (a0 : ByteArray) (r : Bool) (w : World) (h : impl_onlyNameBytes.f k a0 = some r) :
  Calls Try.prog 144 #[.string a0] w fun e w' => e = .returned (.bool r) ∧ Drawn0 w w' := by
 have H : (impl_onlyNameBytes.l0 k a0 (a0.size : Int) 0) = some r := h
 clear h
 have H' := Aside0.mk H
 clear H
 go_enter Try.func144, Try.ntmps144
 go_wp2
 go_loopg [7] k (fun kq v7 w' => ∃ (x7_1 : Int), v7 = .int .i64 x7_1 ∧ Aside0 (impl_onlyNameBytes.l0 kq a0 (a0.size : Int) x7_1 = some r) ∧ Aside0 (kq ≤ k) ∧ Drawn0 w w')
 case atStart => exact ⟨(0), sv_, H', ⟨Nat.le_refl _⟩, dr_⟩
 case round =>
  clear H'
  try clear c1
  obtain ⟨x7_1, rfl, HA, HK1, ⟨m1, rfl⟩⟩ := hrel
  cases gk with
  | zero => exact absurd HA.out (by simp [impl_onlyNameBytes.l0])
  | succ k1 =>
   have H := HA.out
   clear HA
   simp only [impl_onlyNameBytes.l0] at H
   by_cases c2 : x7_1 < (a0.size : Int)
   ·rw [if_pos c2] at H
    have c2b0 : decide (x7_1 < (a0.size : Int)) = true := decide_eq_true c2
    clear c2
    by_cases c3 : 0 ≤ x7_1
    ·rw [if_pos c3] at H
     have c3b0 : decide (0 ≤ x7_1) = true := decide_eq_true c3
     clear c3
     by_cases c4 : x7_1 < (a0.size : Int)
     ·rw [if_pos c4] at H
      have c4b0 : decide (x7_1 < (a0.size : Int)) = true := decide_eq_true c4
      clear c4
      by_cases c6 : (bt a0 x7_1) < 97
      ·rw [if_pos c6] at H
       have c6b0 : decide ((bt a0 x7_1) < 97) = true := decide_eq_true c6
       clear c6
       by_cases c7 : (bt a0 x7_1) < 48
       ·rw [if_pos c7] at H
        have c7b0 : decide ((bt a0 x7_1) < 48) = true := decide_eq_true c7
        clear c7
        obtain rfl := Option.some.inj H
        have p5 : 0 ≤ (x7_1 : Int) := da_
        have q5 : x7_1 < (a0.size : Int) := da_
        have hx5 := bt_at a0 x7_1
        replace p5 := eq_true p5
        replace q5 := eq_true q5
        go_wp2
        go_ret
        exact ⟨sv_, dr_⟩
       ·rw [if_neg c7] at H
        have c7b0 : decide ((bt a0 x7_1) < 48) = false := decide_eq_false c7
        clear c7
        by_cases c8 : (bt a0 x7_1) > 57
        ·rw [if_pos c8] at H
         have c8b0 : decide (57 < (bt a0 x7_1)) = true := decide_eq_true c8
         clear c8
         obtain rfl := Option.some.inj H
         have p5 : 0 ≤ (x7_1 : Int) := da_
         have q5 : x7_1 < (a0.size : Int) := da_
         have hx5 := bt_at a0 x7_1
         replace p5 := eq_true p5
         replace q5 := eq_true q5
         go_wp2
         go_ret
         exact ⟨sv_, dr_⟩
        ·rw [if_neg c8] at H
         have c8b0 : decide (57 < (bt a0 x7_1)) = false := decide_eq_false c8
         clear c8
         have H' := Aside0.mk H
         clear H
         have p5 : 0 ≤ (x7_1 : Int) := da_
         have q5 : x7_1 < (a0.size : Int) := da_
         have hx5 := bt_at a0 x7_1
         replace p5 := eq_true p5
         replace q5 := eq_true q5
         go_wp2
         go_roundg k1
         case measure => have := HK1.out; omega
         case rel => exact ⟨(wrap64 (x7_1 + 1)), sv_, H', ⟨by have := HK1.out; omega⟩, dr_⟩
      ·rw [if_neg c6] at H
       have c6b0 : decide ((bt a0 x7_1) < 97) = false := decide_eq_false c6
       clear c6
       by_cases c9 : (bt a0 x7_1) > 122
       ·rw [if_pos c9] at H
        have c9b0 : decide (122 < (bt a0 x7_1)) = true := decide_eq_true c9
        clear c9
        by_cases c10 : (bt a0 x7_1) < 48
        ·rw [if_pos c10] at H
         have c10b0 : decide ((bt a0 x7_1) < 48) = true := decide_eq_true c10
         clear c10
         obtain rfl := Option.some.inj H
         have p5 : 0 ≤ (x7_1 : Int) := da_
         have q5 : x7_1 < (a0.size : Int) := da_
         have hx5 := bt_at a0 x7_1
         replace p5 := eq_true p5
         replace q5 := eq_true q5
         go_wp2
         go_ret
         exact ⟨sv_, dr_⟩
        ·rw [if_neg c10] at H
         have c10b0 : decide ((bt a0 x7_1) < 48) = false := decide_eq_false c10
         clear c10
         by_cases c11 : (bt a0 x7_1) > 57
         ·rw [if_pos c11] at H
          have c11b0 : decide (57 < (bt a0 x7_1)) = true := decide_eq_true c11
          clear c11
          obtain rfl := Option.some.inj H
          have p5 : 0 ≤ (x7_1 : Int) := da_
          have q5 : x7_1 < (a0.size : Int) := da_
          have hx5 := bt_at a0 x7_1
          replace p5 := eq_true p5
          replace q5 := eq_true q5
          go_wp2
          go_ret
          exact ⟨sv_, dr_⟩
         ·rw [if_neg c11] at H
          have c11b0 : decide (57 < (bt a0 x7_1)) = false := decide_eq_false c11
          clear c11
          have H' := Aside0.mk H
          clear H
          have p5 : 0 ≤ (x7_1 : Int) := da_
          have q5 : x7_1 < (a0.size : Int) := da_
          have hx5 := bt_at a0 x7_1
          replace p5 := eq_true p5
          replace q5 := eq_true q5
          go_wp2
          go_roundg k1
          case measure => have := HK1.out; omega
          case rel => exact ⟨(wrap64 (x7_1 + 1)), sv_, H', ⟨by have := HK1.out; omega⟩, dr_⟩
       ·rw [if_neg c9] at H
        have c9b0 : decide (122 < (bt a0 x7_1)) = false := decide_eq_false c9
        clear c9
        have H' := Aside0.mk H
        clear H
        have p5 : 0 ≤ (x7_1 : Int) := da_
        have q5 : x7_1 < (a0.size : Int) := da_
        have hx5 := bt_at a0 x7_1
        replace p5 := eq_true p5
        replace q5 := eq_true q5
        go_wp2
        go_roundg k1
        case measure => have := HK1.out; omega
        case rel => exact ⟨(wrap64 (x7_1 + 1)), sv_, H', ⟨by have := HK1.out; omega⟩, dr_⟩
     ·rw [if_neg c4] at H
      exact absurd H (by simp)
    ·rw [if_neg c3] at H
     exact absurd H (by simp)
   ·rw [if_neg c2] at H
    have c2b0 : decide (x7_1 < (a0.size : Int)) = false := decide_eq_false c2
    clear c2
    obtain rfl := Option.some.inj H
    go_wp2
    go_ret
    exact ⟨sv_, dr_⟩
/-! ### impl_IsName: function 113 -/
def impl_IsName.f (k : Nat) (a0 : ByteArray) : Option (Bool) := if (a0.size : Int) < 1 then (some false) else (if (a0.size : Int) > 10 then (some false) else (if 0 < (a0.size : Int) then (if (bt a0 0) < 97 then (some false) else (if (bt a0 0) > 122 then (some false) else ((impl_onlyNameBytes.f k a0).bind fun t242 => (some t242)))) else (none)))
theorem impl_IsName.mono : ∀ a0 k, LeO (impl_IsName.f k a0) (impl_IsName.f (k + 1) a0) := by
 intro a0 k
 unfold impl_IsName.f
 repeat' first
   | (with_reducible exact impl_onlyNameBytes.mono _ _)
   | (with_reducible exact LeO.refl _)
   | (with_reducible exact LeO.none _)
   | (with_reducible refine LeO.ite ?_ ?_)
   | (with_reducible refine LeO.bind ?_ (fun _ => ?_))
   | exact impl_onlyNameBytes.mono _ _
   | exact LeO.none _
   | refine LeO.ite ?_ ?_
   | refine LeO.bind ?_ (fun _ => ?_)
set_option maxHeartbeats 8000000 in
set_option maxRecDepth 100000 in
theorem impl_IsName.calls (k : Nat) (a0 : ByteArray) (r : Bool) (w : World) (h : impl_IsName.f k a0 = some r) :
  Calls Try.prog 113 #[.string a0] w fun e w' => e = .returned (.bool r) ∧ Drawn0 w w' := by
 have H : (if (a0.size : Int) < 1 then (some false) else (if (a0.size : Int) > 10 then (some false) else (if 0 < (a0.size : Int) then (if (bt a0 0) < 97 then (some false) else (if (bt a0 0) > 122 then (some false) else ((impl_onlyNameBytes.f k a0).bind fun t242 => (some t242)))) else (none)))) = some r := h
 clear h
 by_cases c2 : (a0.size : Int) < 1
 ·rw [if_pos c2] at H
  have c2b0 : decide ((a0.size : Int) < 1) = true := decide_eq_true c2
  have c2b1 : decide (a0.size < 1) = true := decide_eq_true (by omega)
  clear c2
  obtain rfl := Option.some.inj H
  go_enter Try.func113, Try.ntmps113
  go_wp2
  go_ret
  exact ⟨sv_, dr_⟩
 ·rw [if_neg c2] at H
  have c2b0 : decide ((a0.size : Int) < 1) = false := decide_eq_false c2
  have c2b1 : decide (a0.size < 1) = false := decide_eq_false (by omega)
  clear c2
  by_cases c3 : (a0.size : Int) > 10
  ·rw [if_pos c3] at H
   have c3b0 : decide (10 < (a0.size : Int)) = true := decide_eq_true c3
   have c3b1 : decide (10 < a0.size) = true := decide_eq_true (by omega)
   clear c3
   obtain rfl := Option.some.inj H
   go_enter Try.func113, Try.ntmps113
   go_wp2
   go_ret
   exact ⟨sv_, dr_⟩
  ·rw [if_neg c3] at H
   have c3b0 : decide (10 < (a0.size : Int)) = false := decide_eq_false c3
   have c3b1 : decide (10 < a0.size) = false := decide_eq_false (by omega)
   clear c3
   by_cases c4 : 0 < (a0.size : Int)
   ·rw [if_pos c4] at H
    have c4b0 : decide (0 < (a0.size : Int)) = true := decide_eq_true c4
    have c4b1 : decide (0 < a0.size) = true := decide_eq_true (by omega)
    clear c4
    by_cases c6 : (bt a0 0) < 97
    ·rw [if_pos c6] at H
     have c6b0 : decide ((bt a0 0) < 97) = true := decide_eq_true c6
     clear c6
     obtain rfl := Option.some.inj H
     have p5 : 0 ≤ (0 : Int) := (by omega)
     have q5 : 0 < a0.size := (by have : (0 : Int) < (a0.size : Int) := da_; omega)
     have hx5 : ∀ h : 0 < a0.size, ((a0[0]'h).toNat : Int) = bt a0 0 := bt_at a0 0
     clear p5
     have qi5 : (0 < (a0.size : Int)) = True := eq_true (da_)
     replace q5 := eq_true q5
     go_enter Try.func113, Try.ntmps113
     go_wp2
     go_ret
     exact ⟨sv_, dr_⟩
    ·rw [if_neg c6] at H
     have c6b0 : decide ((bt a0 0) < 97) = false := decide_eq_false c6
     clear c6
     by_cases c8 : (bt a0 0) > 122
     ·rw [if_pos c8] at H
      have c8b0 : decide (122 < (bt a0 0)) = true := decide_eq_true c8
      clear c8
      obtain rfl := Option.some.inj H
      have p5 : 0 ≤ (0 : Int) := (by omega)
      have q5 : 0 < a0.size := (by have : (0 : Int) < (a0.size : Int) := da_; omega)
      have hx5 : ∀ h : 0 < a0.size, ((a0[0]'h).toNat : Int) = bt a0 0 := bt_at a0 0
      clear p5
      have qi5 : (0 < (a0.size : Int)) = True := eq_true (da_)
      replace q5 := eq_true q5
      have p7 : 0 ≤ (0 : Int) := (by omega)
      have q7 : 0 < a0.size := (by have : (0 : Int) < (a0.size : Int) := da_; omega)
      have hx7 : ∀ h : 0 < a0.size, ((a0[0]'h).toNat : Int) = bt a0 0 := bt_at a0 0
      clear p7
      have qi7 : (0 < (a0.size : Int)) = True := eq_true (da_)
      replace q7 := eq_true q7
      go_enter Try.func113, Try.ntmps113
      go_wp2
      go_ret
      exact ⟨sv_, dr_⟩
     ·rw [if_neg c8] at H
      have c8b0 : decide (122 < (bt a0 0)) = false := decide_eq_false c8
      clear c8
      replace H := Option.bind_eq_some_iff.mp H
      obtain ⟨t242, A90, H⟩ := H
      replace H : (some t242) = some r := H
      have A9 := Aside0.mk A90
      clear A90
      obtain rfl := Option.some.inj H
      have p5 : 0 ≤ (0 : Int) := (by omega)
      have q5 : 0 < a0.size := (by have : (0 : Int) < (a0.size : Int) := da_; omega)
      have hx5 : ∀ h : 0 < a0.size, ((a0[0]'h).toNat : Int) = bt a0 0 := bt_at a0 0
      clear p5
      have qi5 : (0 < (a0.size : Int)) = True := eq_true (da_)
      replace q5 := eq_true q5
      have p7 : 0 ≤ (0 : Int) := (by omega)
      have q7 : 0 < a0.size := (by have : (0 : Int) < (a0.size : Int) := da_; omega)
      have hx7 : ∀ h : 0 < a0.size, ((a0[0]'h).toNat : Int) = bt a0 0 := bt_at a0 0
      clear p7
      have qi7 : (0 < (a0.size : Int)) = True := eq_true (da_)
      replace q7 := eq_true q7
      go_enter Try.func113, Try.ntmps113
      go_wp2_with (first | ((with_reducible refine gate_callee (f := 144) rfl ?_); refine goesL_ (some 22) rfl rfl Try.func144 (by kernel_rfl) rfl #[.string a0] rfl av_ ?_; (with_reducible refine (impl_onlyNameBytes.calls k a0 t242 _ A9.out).mono ?_); rintro e w' ⟨rfl, ⟨nd, rfl⟩⟩; refine ⟨_, rfl, ?_⟩))
      go_ret
      exact ⟨sv_, dr_⟩
   ·rw [if_neg c4] at H
    exact absurd H (by simp)
/-! ### impl_toneOk: function 115 -/
def impl_toneOk.f (a0 : Int) : Option (Bool) := (impl_within.f a0 0 11).bind fun t248 => (some t248)
set_option maxHeartbeats 8000000 in
set_option maxRecDepth 100000 in
theorem impl_toneOk.calls (a0 : Int) (r : Bool) (w : World) (h : impl_toneOk.f a0 = some r) :
  Calls Try.prog 115 #[.int .i64 a0] w fun e w' => e = .returned (.bool r) ∧ Drawn0 w w' := by
 have H : ((impl_within.f a0 0 11).bind fun t248 => (some t248)) = some r := h
 clear h
 replace H := Option.bind_eq_some_iff.mp H
 obtain ⟨t248, A20, H⟩ := H
 replace H : (some t248) = some r := H
 have A2 := Aside0.mk A20
 clear A20
 obtain rfl := Option.some.inj H
 go_enter Try.func115, Try.ntmps115
 go_wp2_with (first | ((with_reducible refine gate_callee (f := 65) rfl ?_); refine goesL_ (some 4) rfl rfl Try.func65 (by kernel_rfl) rfl #[.int .i64 a0, .int .i64 0, .int .i64 11] rfl av_ ?_; (with_reducible refine (impl_within.calls a0 0 11 t248 _ A2.out).mono ?_); rintro e w' ⟨rfl, ⟨nd, rfl⟩⟩; refine ⟨_, rfl, ?_⟩))
 go_ret
 exact ⟨sv_, dr_⟩
/-! ### impl_increasing: function 145 -/
def impl_increasing.l0 : Nat → List Int → Int → Option (Bool)
 | 0, _, _ => none
 | k + 1, x0, x3 => if x3 < (x0.length : Int) then (if 0 ≤ x3 then (if 0 ≤ (wrap64 (x3 - 1)) then (if (wrap64 (x3 - 1)) < (x0.length : Int) then (if (rd x0 x3) ≤ (rd x0 (wrap64 (x3 - 1))) then (some false) else (impl_increasing.l0 k x0 (wrap64 (x3 + 1)))) else (none)) else (none)) else (none)) else (some true)
def impl_increasing.f (k : Nat) (l0 : List Int) : Option (Bool) := impl_increasing.l0 k l0 1
theorem impl_increasing.mono_l : ∀ k, (∀ y0 y1, LeO (impl_increasing.l0 k y0 y1) (impl_increasing.l0 (k + 1) y0 y1))
 | 0 => fun _ _ r h => by simp [impl_increasing.l0] at h
 | k + 1 => by
  have ih0 := impl_increasing.mono_l k
  ·intro y0 y1
   unfold impl_increasing.l0
   repeat' first
   | (with_reducible exact ih0 _ _)
   | (with_reducible exact LeO.refl _)
   | (with_reducible exact LeO.none _)
   | (with_reducible refine LeO.ite ?_ ?_)
   | (with_reducible refine LeO.bind ?_ (fun _ => ?_))
   | exact ih0 _ _
   | exact LeO.none _
   | refine LeO.ite ?_ ?_
   | refine LeO.bind ?_ (fun _ => ?_)
theorem impl_increasing.mono : ∀ a0 k, LeO (impl_increasing.f k a0) (impl_increasing.f (k + 1) a0) := by
 intro a0 k
 have ih0 := impl_increasing.mono_l k
 unfold impl_increasing.f
 repeat' first
   | (with_reducible exact ih0 _ _)
   | (with_reducible exact LeO.refl _)
   | (with_reducible exact LeO.none _)
   | (with_reducible refine LeO.ite ?_ ?_)
   | (with_reducible refine LeO.bind ?_ (fun _ => ?_))
   | exact ih0 _ _
   | exact LeO.none _
   | refine LeO.ite ?_ ?_
   | refine LeO.bind ?_ (fun _ => ?_)
set_option maxHeartbeats 8000000 in
set_option maxRecDepth 100000 in
theorem impl_increasing.calls (k : Nat) (A0 : Option Addr) (c0 : Nat) (l0 : List Int) (r : Bool) (w : World) (hr0 : Kd.C (Kd.int .i64) w A0 l0.length l0) (hc0 : l0.length ≤ c0) (h : impl_increasing.f k l0 = some r) :
  Calls Try.prog 145 #[.slice A0 l0.length c0] w fun e w' => e = .returned (.bool r) ∧ Drawn0 w w' := by
 have HR0 := Aside0.mk hr0
 have HC0 := Aside0.mk hc0
 clear hr0 hc0
 have H : (impl_increasing.l0 k l0 1) = some r := h
 clear h
 have H' := Aside0.mk H
 clear H
 go_enter Try.func145, Try.ntmps145
 go_wp2
 repeat (go_quiet (fail); try go_wp2)
 go_loopg [3] k (fun kq v3 w' => ∃ (x3_1 : Int), v3 = .int .i64 x3_1 ∧ Aside0 (impl_increasing.l0 kq l0 x3_1 = some r) ∧ Aside0 (kq ≤ k) ∧ Drawn0 w w')
 case atStart => exact ⟨(1), sv_, H', ⟨Nat.le_refl _⟩, dr_⟩
 case round =>
  clear H'
  try clear c1
  obtain ⟨x3_1, rfl, HA, HK1, ⟨m1, rfl⟩⟩ := hrel
  cases gk with
  | zero => exact absurd HA.out (by simp [impl_increasing.l0])
  | succ k1 =>
   have H := HA.out
   clear HA
   simp only [impl_increasing.l0] at H
   by_cases c2 : x3_1 < (l0.length : Int)
   ·rw [if_pos c2] at H
    have c2b0 : decide (x3_1 < (l0.length : Int)) = true := decide_eq_true c2
    clear c2
    by_cases c3 : 0 ≤ x3_1
    ·rw [if_pos c3] at H
     have c3b0 : decide (0 ≤ x3_1) = true := decide_eq_true c3
     clear c3
     obtain ⟨ji4, hji4⟩ : ∃ j_ : Int, (wrap64 (x3_1 - 1)) = j_ := ⟨_, rfl⟩
     replace H : (if 0 ≤ (ji4) then (if (ji4) < (l0.length : Int) then (if (rd l0 x3_1) ≤ (rd l0 (ji4)) then (some false) else (impl_increasing.l0 k1 l0 (wrap64 (x3_1 + 1)))) else (none)) else (none)) = some r := by first | (rw [hji4] at H; exact H) | (simp only [hji4] at H ⊢; exact H)
     have hji4w : (IntKind.i64.wrap (x3_1 - 1)) = ji4 := (i64_w _).trans hji4
     by_cases c5 : 0 ≤ (ji4)
     ·rw [if_pos c5] at H
      have c5b0 : decide (0 ≤ (ji4)) = true := decide_eq_true c5
      clear c5
      by_cases c6 : (ji4) < (l0.length : Int)
      ·rw [if_pos c6] at H
       have c6b0 : decide ((ji4) < (l0.length : Int)) = true := decide_eq_true c6
       clear c6
       by_cases c7 : (rd l0 x3_1) ≤ (rd l0 (ji4))
       ·rw [if_pos c7] at H
        have c7b0 : decide ((rd l0 x3_1) ≤ (rd l0 (ji4))) = true := decide_eq_true c7
        clear c7
        obtain rfl := Option.some.inj H
        have p243 : 0 ≤ (x3_1 : Int) := da_
        have q243 : x3_1 < (l0.length : Int) := da_
        obtain ⟨ad243, e243, hx243_0⟩ := Kd.at_int HR0.out x3_1 p243 q243
        cases e243
        replace p243 := eq_true p243
        replace q243 := eq_true q243
        have p244 : 0 ≤ ((ji4) : Int) := da_
        have q244 : (ji4) < (l0.length : Int) := da_
        obtain ⟨ad244, e244, hx244_0⟩ := Kd.at_int HR0.out (ji4) p244 q244
        obtain rfl : ad243 = ad244 := (by injection e244)
        replace p244 := eq_true p244
        replace q244 := eq_true q244
        go_wp2
        repeat (go_quiet (fail); try go_wp2)
        go_ret
        exact ⟨by first | rfl | (simp; done) | (simp only [← hji4] <;> (first | rfl | simp)) | (simp [*]; done), dr_⟩
       ·rw [if_neg c7] at H
        have c7b0 : decide ((rd l0 x3_1) ≤ (rd l0 (ji4))) = false := decide_eq_false c7
        clear c7
        have H' := Aside0.mk H
        clear H
        have p243 : 0 ≤ (x3_1 : Int) := da_
        have q243 : x3_1 < (l0.length : Int) := da_
        obtain ⟨ad243, e243, hx243_0⟩ := Kd.at_int HR0.out x3_1 p243 q243
        cases e243
        replace p243 := eq_true p243
        replace q243 := eq_true q243
        have p244 : 0 ≤ ((ji4) : Int) := da_
        have q244 : (ji4) < (l0.length : Int) := da_
        obtain ⟨ad244, e244, hx244_0⟩ := Kd.at_int HR0.out (ji4) p244 q244
        obtain rfl : ad243 = ad244 := (by injection e244)
        replace p244 := eq_true p244
        replace q244 := eq_true q244
        go_wp2
        repeat (go_quiet (fail); try go_wp2)
        go_roundg k1
        case measure => have := HK1.out; omega
        case rel => exact ⟨(wrap64 (x3_1 + 1)), sv_, H', ⟨by have := HK1.out; omega⟩, dr_⟩
      ·rw [if_neg c6] at H
       exact absurd H (by simp)
     ·rw [if_neg c5] at H
      exact absurd H (by simp)
    ·rw [if_neg c3] at H
     exact absurd H (by simp)
   ·rw [if_neg c2] at H
    have c2b0 : decide (x3_1 < (l0.length : Int)) = false := decide_eq_false c2
    clear c2
    obtain rfl := Option.some.inj H
    go_wp2
    repeat (go_quiet (fail); try go_wp2)
    go_ret
    exact ⟨sv_, dr_⟩
/-! ### impl_ValidScale: function 114 -/
def impl_ValidScale.f (k : Nat) (l0 : List Int) : Option (Bool) := if (l0.length : Int) ≥ 5 then (if 0 < (l0.length : Int) then (if (rd l0 0) = 0 then ((impl_increasing.f k l0).bind fun t246 => (if t246 = true then (if 0 ≤ (wrap64 ((l0.length : Int) - 1)) then (if (wrap64 ((l0.length : Int) - 1)) < (l0.length : Int) then (some (decide ((rd l0 (wrap64 ((l0.length : Int) - 1))) < 12))) else (none)) else (none)) else (some false))) else (some false)) else (none)) else (some false)
theorem impl_ValidScale.mono : ∀ a0 k, LeO (impl_ValidScale.f k a0) (impl_ValidScale.f (k + 1) a0) := by
 intro a0 k
 unfold impl_ValidScale.f
 repeat' first
   | (with_reducible exact impl_increasing.mono _ _)
   | (with_reducible exact LeO.refl _)
   | (with_reducible exact LeO.none _)
   | (with_reducible refine LeO.ite ?_ ?_)
   | (with_reducible refine LeO.bind ?_ (fun _ => ?_))
   | exact impl_increasing.mono _ _
   | exact LeO.none _
   | refine LeO.ite ?_ ?_
   | refine LeO.bind ?_ (fun _ => ?_)
set_option maxHeartbeats 8000000 in
set_option maxRecDepth 100000 in
theorem impl_ValidScale.calls (k : Nat) (A0 : Option Addr) (c0 : Nat) (l0 : List Int) (r : Bool) (w : World) (hr0 : Kd.C (Kd.int .i64) w A0 l0.length l0) (hc0 : l0.length ≤ c0) (h : impl_ValidScale.f k l0 = some r) :
  Calls Try.prog 114 #[.slice A0 l0.length c0] w fun e w' => e = .returned (.bool r) ∧ Drawn0 w w' := by
 have HR0 := Aside0.mk hr0
 have HC0 := Aside0.mk hc0
 clear hr0 hc0
 have H : (if (l0.length : Int) ≥ 5 then (if 0 < (l0.length : Int) then (if (rd l0 0) = 0 then ((impl_increasing.f k l0).bind fun t246 => (if t246 = true then (if 0 ≤ (wrap64 ((l0.length : Int) - 1)) then (if (wrap64 ((l0.length : Int) - 1)) < (l0.length : Int) then (some (decide ((rd l0 (wrap64 ((l0.length : Int) - 1))) < 12))) else (none)) else (none)) else (some false))) else (some false)) else (none)) else (some false)) = some r := h
 clear h
 by_cases c2 : (l0.length : Int) ≥ 5
 ·rw [if_pos c2] at H
  have c2b0 : decide (5 ≤ (l0.length : Int)) = true := decide_eq_true c2
  have c2b1 : decide (5 ≤ l0.length) = true := decide_eq_true (by omega)
  clear c2
  by_cases c3 : 0 < (l0.length : Int)
  ·rw [if_pos c3] at H
   have c3b0 : decide (0 < (l0.length : Int)) = true := decide_eq_true c3
   have c3b1 : decide (0 < l0.length) = true := decide_eq_true (by omega)
   clear c3
   by_cases c4 : (rd l0 0) = 0
   ·rw [if_pos c4] at H
    have c4b0 : ((rd l0 0) == 0) = true := beq_iff_eq.mpr c4
    have c4b1 : ((rd l0 0) != 0) = false := bne_eq_false_iff_eq.mpr c4
    clear c4
    replace H := Option.bind_eq_some_iff.mp H
    obtain ⟨t246, A50, H⟩ := H
    replace H : (if t246 = true then (if 0 ≤ (wrap64 ((l0.length : Int) - 1)) then (if (wrap64 ((l0.length : Int) - 1)) < (l0.length : Int) then (some (decide ((rd l0 (wrap64 ((l0.length : Int) - 1))) < 12))) else (none)) else (none)) else (some false)) = some r := H
    have A5 := Aside0.mk A50
    clear A50
    by_cases c6 : t246 = true
    ·subst c6
     have H1 : (if 0 ≤ (wrap64 ((l0.length : Int) - 1)) then (if (wrap64 ((l0.length : Int) - 1)) < (l0.length : Int) then (some (decide ((rd l0 (wrap64 ((l0.length : Int) - 1))) < 12))) else (none)) else (none)) = some r := by rw [if_pos rfl] at H; exact H
     clear H
     have H := H1
     clear H1
     obtain ⟨ji7, hji7⟩ : ∃ j_ : Int, (wrap64 ((l0.length : Int) - 1)) = j_ := ⟨_, rfl⟩
     replace H : (if 0 ≤ (ji7) then (if (ji7) < (l0.length : Int) then (some (decide ((rd l0 (ji7)) < 12))) else (none)) else (none)) = some r := by first | (rw [hji7] at H; exact H) | (simp only [hji7] at H ⊢; exact H)
     (try rw [hji7] at A5)
     have hji7w : (IntKind.i64.wrap ((l0.length : Int) - 1)) = ji7 := (i64_w _).trans hji7
     by_cases c8 : 0 ≤ (ji7)
     ·rw [if_pos c8] at H
      have c8b0 : decide (0 ≤ (ji7)) = true := decide_eq_true c8
      clear c8
      by_cases c9 : (ji7) < (l0.length : Int)
      ·rw [if_pos c9] at H
       have c9b0 : decide ((ji7) < (l0.length : Int)) = true := decide_eq_true c9
       clear c9
       obtain rfl := Option.some.inj H
       have p245 : 0 ≤ (0 : Int) := (by omega)
       have q245 : 0 < (l0.length : Int) := da_
       obtain ⟨ad245, e245, hx245_0⟩ := Kd.at_int HR0.out 0 p245 q245
       cases e245
       have qi245 : (0 < l0.length) = True := eq_true (by omega)
       (try rw [show ((0 : Int)).toNat = 0 from rfl] at hx245_0)
       (try rw [Addr.add_zero'] at hx245_0)
       replace p245 := eq_true p245
       replace q245 := eq_true q245
       go_enter Try.func114, Try.ntmps114
       go_wp2_with (first | (go_at_call 145; (with_reducible refine (impl_increasing.calls k _ _ l0 true _ ?side1 ?side2 A5.out).mono ?_); (case side1 => exact cr_ HR0.out); (case side2 => exact HC0.out); rintro e w' ⟨rfl, ⟨nd, rfl⟩⟩; have p247 : 0 ≤ ((ji7) : Int) := da_; have q247 : (ji7) < (l0.length : Int) := da_; obtain ⟨ad247, e247, hx247_0⟩ := Kd.at_int HR0.out (ji7) p247 q247; obtain rfl : ad245 = ad247 := (by injection e247); replace p247 := eq_true p247; replace q247 := eq_true q247))
       go_ret
       exact ⟨by first | rfl | (simp; done) | (simp only [← hji7] <;> (first | rfl | simp)) | (simp [*]; done), dr_⟩
      ·rw [if_neg c9] at H
       exact absurd H (by simp)
     ·rw [if_neg c8] at H
      exact absurd H (by simp)
    ·replace c6 := Bool.eq_false_iff.mpr c6
     subst c6
     have H1 : (some false) = some r := by rw [if_neg (show ¬ (false = true) by decide)] at H; exact H
     clear H
     have H := H1
     clear H1
     obtain rfl := Option.some.inj H
     have p245 : 0 ≤ (0 : Int) := (by omega)
     have q245 : 0 < (l0.length : Int) := da_
     obtain ⟨ad245, e245, hx245_0⟩ := Kd.at_int HR0.out 0 p245 q245
     cases e245
     have qi245 : (0 < l0.length) = True := eq_true (by omega)
     (try rw [show ((0 : Int)).toNat = 0 from rfl] at hx245_0)
     (try rw [Addr.add_zero'] at hx245_0)
     replace p245 := eq_true p245
     replace q245 := eq_true q245
     go_enter Try.func114, Try.ntmps114
     go_wp2_with (first | (go_at_call 145; (with_reducible refine (impl_increasing.calls k _ _ l0 false _ ?side1 ?side2 A5.out).mono ?_); (case side1 => exact cr_ HR0.out); (case side2 => exact HC0.out); rintro e w' ⟨rfl, ⟨nd, rfl⟩⟩))
     go_ret
     exact ⟨sv_, dr_⟩
   ·rw [if_neg c4] at H
    have c4b0 : ((rd l0 0) == 0) = false := beq_eq_false_iff_ne.mpr c4
    have c4b1 : ((rd l0 0) != 0) = true := bne_iff_ne.mpr c4
    obtain rfl := Option.some.inj H
    have p245 : 0 ≤ (0 : Int) := (by omega)
    have q245 : 0 < (l0.length : Int) := da_
    obtain ⟨ad245, e245, hx245_0⟩ := Kd.at_int HR0.out 0 p245 q245
    cases e245
    have qi245 : (0 < l0.length) = True := eq_true (by omega)
    (try rw [show ((0 : Int)).toNat = 0 from rfl] at hx245_0)
    (try rw [Addr.add_zero'] at hx245_0)
    replace p245 := eq_true p245
    replace q245 := eq_true q245
    go_enter Try.func114, Try.ntmps114
    go_wp2
    go_ret
    exact ⟨sv_, dr_⟩
  ·rw [if_neg c3] at H
   exact absurd H (by simp)
 ·rw [if_neg c2] at H
  have c2b0 : decide (5 ≤ (l0.length : Int)) = false := decide_eq_false c2
  have c2b1 : decide (5 ≤ l0.length) = false := decide_eq_false (by omega)
  clear c2
  obtain rfl := Option.some.inj H
  go_enter Try.func114, Try.ntmps114
  go_wp2
  go_ret
  exact ⟨sv_, dr_⟩
/-! ### cmp_isNaN_int64: function 124 -/
def cmp_isNaN_int64.f (a0 : Int) : Option (Bool) := some (a0 != a0)
set_option maxHeartbeats 8000000 in
set_option maxRecDepth 100000 in
theorem cmp_isNaN_int64.calls (a0 : Int) (r : Bool) (w : World) (h : cmp_isNaN_int64.f a0 = some r) :
  Calls Try.prog 124 #[.int .i64 a0] w fun e w' => e = .returned (.bool r) ∧ Drawn0 w w' := by
 have H : (some (a0 != a0)) = some r := h
 clear h
 obtain rfl := Option.some.inj H
 go_enter Try.func124, Try.ntmps124
 go_wp2
 go_ret
 exact ⟨sv_, dr_⟩
/-! ### cmp_Compare_int64: function 81 -/
def cmp_Compare_int64.f (a0 : Int) (a1 : Int) : Option (Int) := (cmp_isNaN_int64.f a0).bind fun t249 => ((cmp_isNaN_int64.f a1).bind fun t250 => (if t249 = true then (if t250 = true then (some 0) else (some (-1))) else (if t250 = true then (some 1) else (if a0 < a1 then (some (-1)) else (if a0 > a1 then (some 1) else (some 0))))))
set_option maxHeartbeats 8000000 in
set_option maxRecDepth 100000 in
theorem cmp_Compare_int64.calls (a0 : Int) (a1 : Int) (r : Int) (w : World) (h : cmp_Compare_int64.f a0 a1 = some r) :
  Calls Try.prog 81 #[.int .i64 a0, .int .i64 a1] w fun e w' => e = .returned (.int .i64 r) ∧ Drawn0 w w' := by
 have H : ((cmp_isNaN_int64.f a0).bind fun t249 => ((cmp_isNaN_int64.f a1).bind fun t250 => (if t249 = true then (if t250 = true then (some 0) else (some (-1))) else (if t250 = true then (some 1) else (if a0 < a1 then (some (-1)) else (if a0 > a1 then (some 1) else (some 0))))))) = some r := h
 clear h
 replace H := Option.bind_eq_some_iff.mp H
 obtain ⟨t249, A30, H⟩ := H
 replace H : ((cmp_isNaN_int64.f a1).bind fun t250 => (if t249 = true then (if t250 = true then (some 0) else (some (-1))) else (if t250 = true then (some 1) else (if a0 < a1 then (some (-1)) else (if a0 > a1 then (some 1) else (some 0)))))) = some r := H
 have A3 := Aside0.mk A30
 clear A30
 replace H := Option.bind_eq_some_iff.mp H
 obtain ⟨t250, A40, H⟩ := H
 replace H : (if t249 = true then (if t250 = true then (some 0) else (some (-1))) else (if t250 = true then (some 1) else (if a0 < a1 then (some (-1)) else (if a0 > a1 then (some 1) else (some 0))))) = some r := H
 have A4 := Aside0.mk A40
 clear A40
 by_cases c5 : t249 = true
 ·subst c5
  have H1 : (if t250 = true then (some 0) else (some (-1))) = some r := by rw [if_pos rfl] at H; exact H
  clear H
  have H := H1
  clear H1
  by_cases c6 : t250 = true
  ·subst c6
   have H1 : (some 0) = some r := by rw [if_pos rfl] at H; exact H
   clear H
   have H := H1
   clear H1
   obtain rfl := Option.some.inj H
   go_enter Try.func81, Try.ntmps81
   go_wp2_with (first | ((with_reducible refine gate_callee (f := 124) rfl ?_); refine goesL_ (some 8) rfl rfl Try.func124 (by kernel_rfl) rfl #[.int .i64 a0] rfl av_ ?_; (with_reducible refine (cmp_isNaN_int64.calls a0 true _ A3.out).mono ?_); rintro e w' ⟨rfl, ⟨nd, rfl⟩⟩; refine ⟨_, rfl, ?_⟩) | ((with_reducible refine gate_callee (f := 124) rfl ?_); refine goesL_ (some 10) rfl rfl Try.func124 (by kernel_rfl) rfl #[.int .i64 a1] rfl av_ ?_; (with_reducible refine (cmp_isNaN_int64.calls a1 true _ A4.out).mono ?_); rintro e w' ⟨rfl, ⟨nd, rfl⟩⟩; refine ⟨_, rfl, ?_⟩))
   go_ret
   exact ⟨sv_, dr_⟩
  ·replace c6 := Bool.eq_false_iff.mpr c6
   subst c6
   have H1 : (some (-1)) = some r := by rw [if_neg (show ¬ (false = true) by decide)] at H; exact H
   clear H
   have H := H1
   clear H1
   obtain rfl := Option.some.inj H
   go_enter Try.func81, Try.ntmps81
   go_wp2_with (first | ((with_reducible refine gate_callee (f := 124) rfl ?_); refine goesL_ (some 8) rfl rfl Try.func124 (by kernel_rfl) rfl #[.int .i64 a0] rfl av_ ?_; (with_reducible refine (cmp_isNaN_int64.calls a0 true _ A3.out).mono ?_); rintro e w' ⟨rfl, ⟨nd, rfl⟩⟩; refine ⟨_, rfl, ?_⟩) | ((with_reducible refine gate_callee (f := 124) rfl ?_); refine goesL_ (some 10) rfl rfl Try.func124 (by kernel_rfl) rfl #[.int .i64 a1] rfl av_ ?_; (with_reducible refine (cmp_isNaN_int64.calls a1 false _ A4.out).mono ?_); rintro e w' ⟨rfl, ⟨nd, rfl⟩⟩; refine ⟨_, rfl, ?_⟩))
   go_ret
   exact ⟨sv_, dr_⟩
 ·replace c5 := Bool.eq_false_iff.mpr c5
  subst c5
  have H1 : (if t250 = true then (some 1) else (if a0 < a1 then (some (-1)) else (if a0 > a1 then (some 1) else (some 0)))) = some r := by rw [if_neg (show ¬ (false = true) by decide)] at H; exact H
  clear H
  have H := H1
  clear H1
  by_cases c7 : t250 = true
  ·subst c7
   have H1 : (some 1) = some r := by rw [if_pos rfl] at H; exact H
   clear H
   have H := H1
   clear H1
   obtain rfl := Option.some.inj H
   go_enter Try.func81, Try.ntmps81
   go_wp2_with (first | ((with_reducible refine gate_callee (f := 124) rfl ?_); refine goesL_ (some 8) rfl rfl Try.func124 (by kernel_rfl) rfl #[.int .i64 a0] rfl av_ ?_; (with_reducible refine (cmp_isNaN_int64.calls a0 false _ A3.out).mono ?_); rintro e w' ⟨rfl, ⟨nd, rfl⟩⟩; refine ⟨_, rfl, ?_⟩) | ((with_reducible refine gate_callee (f := 124) rfl ?_); refine goesL_ (some 10) rfl rfl Try.func124 (by kernel_rfl) rfl #[.int .i64 a1] rfl av_ ?_; (with_reducible refine (cmp_isNaN_int64.calls a1 true _ A4.out).mono ?_); rintro e w' ⟨rfl, ⟨nd, rfl⟩⟩; refine ⟨_, rfl, ?_⟩))
   go_ret
   exact ⟨sv_, dr_⟩
  ·replace c7 := Bool.eq_false_iff.mpr c7
   subst c7
   have H1 : (if a0 < a1 then (some (-1)) else (if a0 > a1 then (some 1) else (some 0))) = some r := by rw [if_neg (show ¬ (false = true) by decide)] at H; exact H
   clear H
   have H := H1
   clear H1
   by_cases c8 : a0 < a1
   ·rw [if_pos c8] at H
    have c8b0 : decide (a0 < a1) = true := decide_eq_true c8
    clear c8
    obtain rfl := Option.some.inj H
    go_enter Try.func81, Try.ntmps81
    go_wp2_with (first | ((with_reducible refine gate_callee (f := 124) rfl ?_); refine goesL_ (some 8) rfl rfl Try.func124 (by kernel_rfl) rfl #[.int .i64 a0] rfl av_ ?_; (with_reducible refine (cmp_isNaN_int64.calls a0 false _ A3.out).mono ?_); rintro e w' ⟨rfl, ⟨nd, rfl⟩⟩; refine ⟨_, rfl, ?_⟩) | ((with_reducible refine gate_callee (f := 124) rfl ?_); refine goesL_ (some 10) rfl rfl Try.func124 (by kernel_rfl) rfl #[.int .i64 a1] rfl av_ ?_; (with_reducible refine (cmp_isNaN_int64.calls a1 false _ A4.out).mono ?_); rintro e w' ⟨rfl, ⟨nd, rfl⟩⟩; refine ⟨_, rfl, ?_⟩))
    go_ret
    exact ⟨sv_, dr_⟩
   ·rw [if_neg c8] at H
    have c8b0 : decide (a0 < a1) = false := decide_eq_false c8
    clear c8
    by_cases c9 : a0 > a1
    ·rw [if_pos c9] at H
     have c9b0 : decide (a1 < a0) = true := decide_eq_true c9
     clear c9
     obtain rfl := Option.some.inj H
     go_enter Try.func81, Try.ntmps81
     go_wp2_with (first | ((with_reducible refine gate_callee (f := 124) rfl ?_); refine goesL_ (some 8) rfl rfl Try.func124 (by kernel_rfl) rfl #[.int .i64 a0] rfl av_ ?_; (with_reducible refine (cmp_isNaN_int64.calls a0 false _ A3.out).mono ?_); rintro e w' ⟨rfl, ⟨nd, rfl⟩⟩; refine ⟨_, rfl, ?_⟩) | ((with_reducible refine gate_callee (f := 124) rfl ?_); refine goesL_ (some 10) rfl rfl Try.func124 (by kernel_rfl) rfl #[.int .i64 a1] rfl av_ ?_; (with_reducible refine (cmp_isNaN_int64.calls a1 false _ A4.out).mono ?_); rintro e w' ⟨rfl, ⟨nd, rfl⟩⟩; refine ⟨_, rfl, ?_⟩))
     go_ret
     exact ⟨sv_, dr_⟩
    ·rw [if_neg c9] at H
     have c9b0 : decide (a1 < a0) = false := decide_eq_false c9
     clear c9
     obtain rfl := Option.some.inj H
     go_enter Try.func81, Try.ntmps81
     go_wp2_with (first | ((with_reducible refine gate_callee (f := 124) rfl ?_); refine goesL_ (some 8) rfl rfl Try.func124 (by kernel_rfl) rfl #[.int .i64 a0] rfl av_ ?_; (with_reducible refine (cmp_isNaN_int64.calls a0 false _ A3.out).mono ?_); rintro e w' ⟨rfl, ⟨nd, rfl⟩⟩; refine ⟨_, rfl, ?_⟩) | ((with_reducible refine gate_callee (f := 124) rfl ?_); refine goesL_ (some 10) rfl rfl Try.func124 (by kernel_rfl) rfl #[.int .i64 a1] rfl av_ ?_; (with_reducible refine (cmp_isNaN_int64.calls a1 false _ A4.out).mono ?_); rintro e w' ⟨rfl, ⟨nd, rfl⟩⟩; refine ⟨_, rfl, ?_⟩))
     go_ret
     exact ⟨sv_, dr_⟩
/-! ### slices_Compare_int64_int64: function 116 -/
def slices_Compare_int64_int64.l0 : Nat → List Int → List Int → List Int → Int → Int → Option (Int)
 | 0, _, _, _, _, _ => none
 | k + 1, x0, x1, x9, x10, x11 => if x11 < x10 then (if 0 ≤ x11 then (if x11 < (x9.length : Int) then (if x11 ≥ (x1.length : Int) then (some 1) else (if x11 < (x1.length : Int) then ((cmp_Compare_int64.f (rd x9 x11) (rd x1 x11)).bind fun t253 => (if t253 = 0 then (slices_Compare_int64_int64.l0 k x0 x1 x9 x10 (wrap64 (x11 + 1))) else (some t253))) else (none))) else (none)) else (none)) else (if (x0.length : Int) < (x1.length : Int) then (some (-1)) else (some 0))
def slices_Compare_int64_int64.f (k : Nat) (l0 : List Int) (l1 : List Int) : Option (Int) := slices_Compare_int64_int64.l0 k l0 l1 l0 (l0.length : Int) 0
theorem slices_Compare_int64_int64.mono_l : ∀ k, (∀ y0 y1 y2 y3 y4, LeO (slices_Compare_int64_int64.l0 k y0 y1 y2 y3 y4) (slices_Compare_int64_int64.l0 (k + 1) y0 y1 y2 y3 y4))
 | 0 => fun _ _ _ _ _ r h => by simp [slices_Compare_int64_int64.l0] at h
 | k + 1 => by
  have ih0 := slices_Compare_int64_int64.mono_l k
  ·intro y0 y1 y2 y3 y4
   unfold slices_Compare_int64_int64.l0
   repeat' first
   | (with_reducible exact ih0 _ _ _ _ _)
   | (with_reducible exact LeO.refl _)
   | (with_reducible exact LeO.none _)
   | (with_reducible refine LeO.ite ?_ ?_)
   | (with_reducible refine LeO.bind ?_ (fun _ => ?_))
   | exact ih0 _ _ _ _ _
   | exact LeO.none _
   | refine LeO.ite ?_ ?_
   | refine LeO.bind ?_ (fun _ => ?_)
theorem slices_Compare_int64_int64.mono : ∀ a0 a1 k, LeO (slices_Compare_int64_int64.f k a0 a1) (slices_Compare_int64_int64.f (k + 1) a0 a1) := by
 intro a0 a1 k
 have ih0 := slices_Compare_int64_int64.mono_l k
 unfold slices_Compare_int64_int64.f
 repeat' first
   | (with_reducible exact ih0 _ _ _ _ _)
   | (with_reducible exact LeO.refl _)
   | (with_reducible exact LeO.none _)
   | (with_reducible refine LeO.ite ?_ ?_)
   | (with_reducible refine LeO.bind ?_ (fun _ => ?_))
   | exact ih0 _ _ _ _ _
   | exact LeO.none _
   | refine LeO.ite ?_ ?_
   | refine LeO.bind ?_ (fun _ => ?_)
set_option maxHeartbeats 8000000 in
set_option maxRecDepth 100000 in
theorem slices_Compare_int64_int64.calls (k : Nat) (A0 : Option Addr) (c0 : Nat) (l0 : List Int) (A1 : Option Addr) (c1 : Nat) (l1 : List Int) (r : Int) (w : World) (hr0 : Kd.C (Kd.int .i64) w A0 l0.length l0) (hc0 : l0.length ≤ c0) (hr1 : Kd.C (Kd.int .i64) w A1 l1.length l1) (hc1 : l1.length ≤ c1) (h : slices_Compare_int64_int64.f k l0 l1 = some r) :
  Calls Try.prog 116 #[.slice A0 l0.length c0, .slice A1 l1.length c1] w fun e w' => e = .returned (.int .i64 r) ∧ Drawn0 w w' := by
 have HR0 := Aside0.mk hr0
 have HC0 := Aside0.mk hc0
 clear hr0 hc0
 have HR1 := Aside0.mk hr1
 have HC1 := Aside0.mk hc1
 clear hr1 hc1
 have H : (slices_Compare_int64_int64.l0 k l0 l1 l0 (l0.length : Int) 0) = some r := h
 clear h
 have H' := Aside0.mk H
 clear H
 go_enter Try.func116, Try.ntmps116
 go_wp2
 go_loopg [11] k (fun kq v11 w' => ∃ (x11_1 : Int), v11 = .int .i64 x11_1 ∧ Aside0 (slices_Compare_int64_int64.l0 kq l0 l1 l0 (l0.length : Int) x11_1 = some r) ∧ Aside0 (kq ≤ k) ∧ Drawn0 w w')
 case atStart => exact ⟨(0), sv_, H', ⟨Nat.le_refl _⟩, dr_⟩
 case round =>
  clear H'
  (try clear c1); (try clear p2)
  obtain ⟨x11_1, rfl, HA, HK1, ⟨m1, rfl⟩⟩ := hrel
  cases gk with
  | zero => exact absurd HA.out (by simp [slices_Compare_int64_int64.l0])
  | succ k1 =>
   have H := HA.out
   clear HA
   simp only [slices_Compare_int64_int64.l0] at H
   by_cases c3 : x11_1 < (l0.length : Int)
   ·rw [if_pos c3] at H
    have c3b0 : decide (x11_1 < (l0.length : Int)) = true := decide_eq_true c3
    clear c3
    by_cases c4 : 0 ≤ x11_1
    ·rw [if_pos c4] at H
     have c4b0 : decide (0 ≤ x11_1) = true := decide_eq_true c4
     clear c4
     by_cases c5 : x11_1 < (l0.length : Int)
     ·rw [if_pos c5] at H
      have c5b0 : decide (x11_1 < (l0.length : Int)) = true := decide_eq_true c5
      clear c5
      by_cases c6 : x11_1 ≥ (l1.length : Int)
      ·rw [if_pos c6] at H
       have c6b0 : decide ((l1.length : Int) ≤ x11_1) = true := decide_eq_true c6
       clear c6
       obtain rfl := Option.some.inj H
       have p251 : 0 ≤ (x11_1 : Int) := da_
       have q251 : x11_1 < (l0.length : Int) := da_
       obtain ⟨ad251, e251, hx251_0⟩ := Kd.at_int HR0.out x11_1 p251 q251
       cases e251
       replace p251 := eq_true p251
       replace q251 := eq_true q251
       go_wp2
       go_ret
       exact ⟨sv_, dr_⟩
      ·rw [if_neg c6] at H
       have c6b0 : decide ((l1.length : Int) ≤ x11_1) = false := decide_eq_false c6
       clear c6
       by_cases c7 : x11_1 < (l1.length : Int)
       ·rw [if_pos c7] at H
        have c7b0 : decide (x11_1 < (l1.length : Int)) = true := decide_eq_true c7
        clear c7
        replace H := Option.bind_eq_some_iff.mp H
        obtain ⟨t253, A80, H⟩ := H
        replace H : (if t253 = 0 then (slices_Compare_int64_int64.l0 k1 l0 l1 l0 (l0.length : Int) (wrap64 (x11_1 + 1))) else (some t253)) = some r := H
        have A8 := Aside0.mk A80
        clear A80
        by_cases c9 : t253 = 0
        ·rw [if_pos c9] at H
         have c9b0 : (t253 == 0) = true := beq_iff_eq.mpr c9
         have c9b1 : (t253 != 0) = false := bne_eq_false_iff_eq.mpr c9
         clear c9
         have H' := Aside0.mk H
         clear H
         have p251 : 0 ≤ (x11_1 : Int) := da_
         have q251 : x11_1 < (l0.length : Int) := da_
         obtain ⟨ad251, e251, hx251_0⟩ := Kd.at_int HR0.out x11_1 p251 q251
         cases e251
         replace p251 := eq_true p251
         replace q251 := eq_true q251
         have p252 : 0 ≤ (x11_1 : Int) := da_
         have q252 : x11_1 < (l1.length : Int) := da_
         obtain ⟨ad252, e252, hx252_0⟩ := Kd.at_int HR1.out x11_1 p252 q252
         cases e252
         replace p252 := eq_true p252
         replace q252 := eq_true q252
         go_wp2_with (first | ((with_reducible refine gate_callee (f := 81) rfl ?_); refine goesL_ (some 26) rfl rfl Try.func81 (by kernel_rfl) rfl #[.int .i64 (rd l0 x11_1), .int .i64 (rd l1 x11_1)] rfl av_ ?_; (with_reducible refine (cmp_Compare_int64.calls (rd l0 x11_1) (rd l1 x11_1) t253 _ A8.out).mono ?_); rintro e w' ⟨rfl, ⟨nd, rfl⟩⟩; refine ⟨_, rfl, ?_⟩))
         go_roundg k1
         case measure => have := HK1.out; omega
         case rel => exact ⟨(wrap64 (x11_1 + 1)), sv_, H', ⟨by have := HK1.out; omega⟩, dr_⟩
        ·rw [if_neg c9] at H
         have c9b0 : (t253 == 0) = false := beq_eq_false_iff_ne.mpr c9
         have c9b1 : (t253 != 0) = true := bne_iff_ne.mpr c9
         obtain rfl := Option.some.inj H
         have p251 : 0 ≤ (x11_1 : Int) := da_
         have q251 : x11_1 < (l0.length : Int) := da_
         obtain ⟨ad251, e251, hx251_0⟩ := Kd.at_int HR0.out x11_1 p251 q251
         cases e251
         replace p251 := eq_true p251
         replace q251 := eq_true q251
         have p252 : 0 ≤ (x11_1 : Int) := da_
         have q252 : x11_1 < (l1.length : Int) := da_
         obtain ⟨ad252, e252, hx252_0⟩ := Kd.at_int HR1.out x11_1 p252 q252
         cases e252
         replace p252 := eq_true p252
         replace q252 := eq_true q252
         go_wp2_with (first | ((with_reducible refine gate_callee (f := 81) rfl ?_); refine goesL_ (some 26) rfl rfl Try.func81 (by kernel_rfl) rfl #[.int .i64 (rd l0 x11_1), .int .i64 (rd l1 x11_1)] rfl av_ ?_; (with_reducible refine (cmp_Compare_int64.calls (rd l0 x11_1) (rd l1 x11_1) t253 _ A8.out).mono ?_); rintro e w' ⟨rfl, ⟨nd, rfl⟩⟩; refine ⟨_, rfl, ?_⟩))
         go_ret
         exact ⟨sv_, dr_⟩
       ·rw [if_neg c7] at H
        exact absurd H (by simp)
     ·rw [if_neg c5] at H
      exact absurd H (by simp)
    ·rw [if_neg c4] at H
     exact absurd H (by simp)
   ·rw [if_neg c3] at H
    have c3b0 : decide (x11_1 < (l0.length : Int)) = false := decide_eq_false c3
    clear c3
    by_cases c10 : (l0.length : Int) < (l1.length : Int)
    ·rw [if_pos c10] at H
     have c10b0 : decide ((l0.length : Int) < (l1.length : Int)) = true := decide_eq_true c10
     have c10b1 : decide (l0.length < l1.length) = true := decide_eq_true (Int.ofNat_lt.mp c10)
     clear c10
     obtain rfl := Option.some.inj H
     go_wp2
     go_ret
     exact ⟨sv_, dr_⟩
    ·rw [if_neg c10] at H
     have c10b0 : decide ((l0.length : Int) < (l1.length : Int)) = false := decide_eq_false c10
     have c10b1 : decide (l0.length < l1.length) = false := decide_eq_false (fun h => c10 (Int.ofNat_lt.mpr h))
     clear c10
     obtain rfl := Option.some.inj H
     go_wp2
     go_ret
     exact ⟨sv_, dr_⟩
end Go.Proofs.Ytinlejhffokbaaa.P
end
