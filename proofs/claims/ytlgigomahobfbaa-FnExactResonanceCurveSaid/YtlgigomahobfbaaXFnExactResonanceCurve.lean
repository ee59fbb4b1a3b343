/- The pure statement of FnExactResonanceCurve. No condition. -/
import Derived.Test.YtlgigomahobfbaaGb1
import Derived.Test.YtlgigomahobfbaaGb2
import Derived.Test.YtlgigomahobfbaaGb3
section
namespace Go.Proofs.Ytlgigomahobfbaa.P
open Go.RowKit Go.Proofs.YtlgigomahobfbaaW.PrintWords Go.Proofs.YtlgigomahobfbaaW.PrintLast Go.Proofs.YtlgigomahobfbaaW.PrintMore
attribute [local go_sem] max2_int min2_int max_two min_two max_three min_three max_four min_four   -- for this text's walks alone
set_option linter.unusedVariables false
set_option linter.unusedSimpArgs false

/-! ### laws_FnExactResonanceCurve: function 10 -/
mutual
def laws_FnExactResonanceCurve.j0 : Nat → List Int → List (S77) → Int → List Int → Int → List Int → List (S75) → List Int → Int → Bool → Option (Bool)
  | 0, _, _, _, _, _, _, _, _, _, _ => none
  | k + 1, x0, x1, x2, x8, x9, x10, x11, x12, x13, x55 => if x55 = true then (some false) else ((laws_toInt64S.f k x0).bind fun t548 => ((laws_eqInt64S.f k x10 t548).bind fun t551 => (if t551 = true then ((laws_toNoteS.f k x1).bind fun t552 => ((laws_eqNoteS.f k x11 t552).bind fun t555 => (if t555 = true then ((laws_markInt64S.f k x10 1).bind fun bt556 => ((laws_markNoteS.f k x11 bt556.1).bind fun bt558 => (if bt558.1 < 0 then (laws_FnExactResonanceCurve.j1 k x0 x1 x2 x8 x9 x12 true) else ((laws_eqInt64S.f k x12 x8).bind fun t560 => (if t560 = true then (laws_FnExactResonanceCurve.j1 k x0 x1 x2 x8 x9 x12 (x13 != x9)) else (laws_FnExactResonanceCurve.j1 k x0 x1 x2 x8 x9 x12 true)))))) else (some false)))) else (some false))))
def laws_FnExactResonanceCurve.j1 : Nat → List Int → List (S77) → Int → List Int → Int → List Int → Bool → Option (Bool)
  | 0, _, _, _, _, _, _, _ => none
  | k + 1, x0, x1, x2, x8, x9, x12, x84 => if x84 = true then (some false) else ((laws_markInt64S.f k x12 1).bind fun bt561 => ((laws_heldInt64S.f k bt561.2 1).bind fun t563 => (if t563 < 0 then (some false) else (if t563 = bt561.1 then ((laws_toInt64S.f k x0).bind fun t564 => ((laws_toNoteS.f k x1).bind fun t567 => ((impl_ResonanceCurve.f k t564 t567 x2).bind fun bt570 => ((laws_eqInt64S.f k bt570.1 x8).bind fun t574 => (if t574 = true then (laws_FnExactResonanceCurve.j2 k bt561.2 bt561.1 (bt570.2 != x9)) else (laws_FnExactResonanceCurve.j2 k bt561.2 bt561.1 true)))))) else (some false)))))
def laws_FnExactResonanceCurve.j2 : Nat → List Int → Int → Bool → Option (Bool)
  | 0, _, _, _ => none
  | k + 1, x12, x15, x113 => if x113 = true then (some false) else ((laws_heldInt64S.f k x12 1).bind fun t575 => (if t575 < 0 then (some false) else (if t575 = x15 then (some true) else (some false))))
end
def laws_FnExactResonanceCurve.f (k : Nat) (l0 : List Int) (l1 : List (S77)) (a2 : Int) : Option (Bool) := if (l0.length : Int) > 1048576 then (some true) else ((laws_szNoteS.f l1 1048576).bind fun t526 => (if t526 < 0 then (some true) else ((laws_toInt64S.f k l0).bind fun t527 => ((laws_toNoteS.f k l1).bind fun t530 => ((spec_ResonanceCurve.f k t527 t530 a2).bind fun bt533 => ((laws_toInt64S.f k l0).bind fun t537 => ((laws_toNoteS.f k l1).bind fun t540 => ((impl_ResonanceCurve.f k t537 t540 a2).bind fun bt543 => ((laws_eqInt64S.f k bt543.1 bt533.1).bind fun t547 => (if t547 = true then (laws_FnExactResonanceCurve.j0 k l0 l1 a2 bt533.1 bt533.2 t537 t540 bt543.1 bt543.2 (bt543.2 != bt533.2)) else (laws_FnExactResonanceCurve.j0 k l0 l1 a2 bt533.1 bt533.2 t537 t540 bt543.1 bt543.2 true)))))))))))
theorem laws_FnExactResonanceCurve.mono_l : ∀ k, (∀ y0 y1 y2 y3 y4 y5 y6 y7 y8 y9, LeO (laws_FnExactResonanceCurve.j0 k y0 y1 y2 y3 y4 y5 y6 y7 y8 y9) (laws_FnExactResonanceCurve.j0 (k + 1) y0 y1 y2 y3 y4 y5 y6 y7 y8 y9)) ∧ (∀ y0 y1 y2 y3 y4 y5 y6, LeO (laws_FnExactResonanceCurve.j1 k y0 y1 y2 y3 y4 y5 y6) (laws_FnExactResonanceCurve.j1 (k + 1) y0 y1 y2 y3 y4 y5 y6)) ∧ (∀ y0 y1 y2, LeO (laws_FnExactResonanceCurve.j2 k y0 y1 y2) (laws_FnExactResonanceCurve.j2 (k + 1) y0 y1 y2))
  | 0 => ⟨fun _ _ _ _ _ _ _ _ _ _ r h => by simp [laws_FnExactResonanceCurve.j0] at h, fun _ _ _ _ _ _ _ r h => by simp [laws_FnExactResonanceCurve.j1] at h, fun _ _ _ r h => by simp [laws_FnExactResonanceCurve.j2] at h⟩
  | k + 1 => by
    obtain ⟨ih0, ih1, ih2⟩ := laws_FnExactResonanceCurve.mono_l k
    refine ⟨?_, ?_, ?_⟩
    · intro y0 y1 y2 y3 y4 y5 y6 y7 y8 y9
      unfold laws_FnExactResonanceCurve.j0
      repeat' first
      | (with_reducible exact ih0 _ _ _ _ _ _ _ _ _ _)
      | (with_reducible exact ih1 _ _ _ _ _ _ _)
      | (with_reducible exact ih2 _ _ _)
      | (with_reducible exact impl_ResonanceCurve.mono _ _ _ _)
      | (with_reducible exact laws_eqInt64S.mono _ _ _)
      | (with_reducible exact laws_eqNoteS.mono _ _ _)
      | (with_reducible exact laws_heldInt64S.mono _ _ _)
      | (with_reducible exact laws_markInt64S.mono _ _ _)
      | (with_reducible exact laws_markNoteS.mono _ _ _)
      | (with_reducible exact laws_toInt64S.mono _ _)
      | (with_reducible exact laws_toNoteS.mono _ _)
      | (with_reducible exact spec_ResonanceCurve.mono _ _ _ _)
      | (with_reducible exact LeO.refl _)
      | (with_reducible exact LeO.none _)
      | (with_reducible refine LeO.ite ?_ ?_)
      | (with_reducible refine LeO.bind ?_ (fun _ => ?_))
      | exact ih0 _ _ _ _ _ _ _ _ _ _
      | exact ih1 _ _ _ _ _ _ _
      | exact ih2 _ _ _
      | exact impl_ResonanceCurve.mono _ _ _ _
      | exact laws_eqInt64S.mono _ _ _
      | exact laws_eqNoteS.mono _ _ _
      | exact laws_heldInt64S.mono _ _ _
      | exact laws_markInt64S.mono _ _ _
      | exact laws_markNoteS.mono _ _ _
      | exact laws_toInt64S.mono _ _
      | exact laws_toNoteS.mono _ _
      | exact spec_ResonanceCurve.mono _ _ _ _
      | exact LeO.none _
      | refine LeO.ite ?_ ?_
      | refine LeO.bind ?_ (fun _ => ?_)
    · intro y0 y1 y2 y3 y4 y5 y6
      unfold laws_FnExactResonanceCurve.j1
      repeat' first
      | (with_reducible exact ih0 _ _ _ _ _ _ _ _ _ _)
      | (with_reducible exact ih1 _ _ _ _ _ _ _)
      | (with_reducible exact ih2 _ _ _)
      | (with_reducible exact impl_ResonanceCurve.mono _ _ _ _)
      | (with_reducible exact laws_eqInt64S.mono _ _ _)
      | (with_reducible exact laws_eqNoteS.mono _ _ _)
      | (with_reducible exact laws_heldInt64S.mono _ _ _)
      | (with_reducible exact laws_markInt64S.mono _ _ _)
      | (with_reducible exact laws_markNoteS.mono _ _ _)
      | (with_reducible exact laws_toInt64S.mono _ _)
      | (with_reducible exact laws_toNoteS.mono _ _)
      | (with_reducible exact spec_ResonanceCurve.mono _ _ _ _)
      | (with_reducible exact LeO.refl _)
      | (with_reducible exact LeO.none _)
      | (with_reducible refine LeO.ite ?_ ?_)
      | (with_reducible refine LeO.bind ?_ (fun _ => ?_))
      | exact ih0 _ _ _ _ _ _ _ _ _ _
      | exact ih1 _ _ _ _ _ _ _
      | exact ih2 _ _ _
      | exact impl_ResonanceCurve.mono _ _ _ _
      | exact laws_eqInt64S.mono _ _ _
      | exact laws_eqNoteS.mono _ _ _
      | exact laws_heldInt64S.mono _ _ _
      | exact laws_markInt64S.mono _ _ _
      | exact laws_markNoteS.mono _ _ _
      | exact laws_toInt64S.mono _ _
      | exact laws_toNoteS.mono _ _
      | exact spec_ResonanceCurve.mono _ _ _ _
      | exact LeO.none _
      | refine LeO.ite ?_ ?_
      | refine LeO.bind ?_ (fun _ => ?_)
    · intro y0 y1 y2
      unfold laws_FnExactResonanceCurve.j2
      repeat' first
      | (with_reducible exact ih0 _ _ _ _ _ _ _ _ _ _)
      | (with_reducible exact ih1 _ _ _ _ _ _ _)
      | (with_reducible exact ih2 _ _ _)
      | (with_reducible exact impl_ResonanceCurve.mono _ _ _ _)
      | (with_reducible exact laws_eqInt64S.mono _ _ _)
      | (with_reducible exact laws_eqNoteS.mono _ _ _)
      | (with_reducible exact laws_heldInt64S.mono _ _ _)
      | (with_reducible exact laws_markInt64S.mono _ _ _)
      | (with_reducible exact laws_markNoteS.mono _ _ _)
      | (with_reducible exact laws_toInt64S.mono _ _)
      | (with_reducible exact laws_toNoteS.mono _ _)
      | (with_reducible exact spec_ResonanceCurve.mono _ _ _ _)
      | (with_reducible exact LeO.refl _)
      | (with_reducible exact LeO.none _)
      | (with_reducible refine LeO.ite ?_ ?_)
      | (with_reducible refine LeO.bind ?_ (fun _ => ?_))
      | exact ih0 _ _ _ _ _ _ _ _ _ _
      | exact ih1 _ _ _ _ _ _ _
      | exact ih2 _ _ _
      | exact impl_ResonanceCurve.mono _ _ _ _
      | exact laws_eqInt64S.mono _ _ _
      | exact laws_eqNoteS.mono _ _ _
      | exact laws_heldInt64S.mono _ _ _
      | exact laws_markInt64S.mono _ _ _
      | exact laws_markNoteS.mono _ _ _
      | exact laws_toInt64S.mono _ _
      | exact laws_toNoteS.mono _ _
      | exact spec_ResonanceCurve.mono _ _ _ _
      | exact LeO.none _
      | refine LeO.ite ?_ ?_
      | refine LeO.bind ?_ (fun _ => ?_)
theorem laws_FnExactResonanceCurve.mono : ∀ a0 a1 a2 k, LeO (laws_FnExactResonanceCurve.f k a0 a1 a2) (laws_FnExactResonanceCurve.f (k + 1) a0 a1 a2) := by
  intro a0 a1 a2 k
  obtain ⟨ih0, ih1, ih2⟩ := laws_FnExactResonanceCurve.mono_l k
  unfold laws_FnExactResonanceCurve.f
  repeat' first
      | (with_reducible exact ih0 _ _ _ _ _ _ _ _ _ _)
      | (with_reducible exact ih1 _ _ _ _ _ _ _)
      | (with_reducible exact ih2 _ _ _)
      | (with_reducible exact impl_ResonanceCurve.mono _ _ _ _)
      | (with_reducible exact laws_eqInt64S.mono _ _ _)
      | (with_reducible exact laws_eqNoteS.mono _ _ _)
      | (with_reducible exact laws_heldInt64S.mono _ _ _)
      | (with_reducible exact laws_markInt64S.mono _ _ _)
      | (with_reducible exact laws_markNoteS.mono _ _ _)
      | (with_reducible exact laws_toInt64S.mono _ _)
      | (with_reducible exact laws_toNoteS.mono _ _)
      | (with_reducible exact spec_ResonanceCurve.mono _ _ _ _)
      | (with_reducible exact LeO.refl _)
      | (with_reducible exact LeO.none _)
      | (with_reducible refine LeO.ite ?_ ?_)
      | (with_reducible refine LeO.bind ?_ (fun _ => ?_))
      | exact ih0 _ _ _ _ _ _ _ _ _ _
      | exact ih1 _ _ _ _ _ _ _
      | exact ih2 _ _ _
      | exact impl_ResonanceCurve.mono _ _ _ _
      | exact laws_eqInt64S.mono _ _ _
      | exact laws_eqNoteS.mono _ _ _
      | exact laws_heldInt64S.mono _ _ _
      | exact laws_markInt64S.mono _ _ _
      | exact laws_markNoteS.mono _ _ _
      | exact laws_toInt64S.mono _ _
      | exact laws_toNoteS.mono _ _
      | exact spec_ResonanceCurve.mono _ _ _ _
      | exact LeO.none _
      | refine LeO.ite ?_ ?_
      | refine LeO.bind ?_ (fun _ => ?_)
set_option maxHeartbeats 8000000 in
set_option maxRecDepth 100000 in
theorem laws_FnExactResonanceCurve.calls (k : Nat) (A0 : Option Addr) (c0 : Nat) (l0 : List Int) (A1 : Option Addr) (c1 : Nat) (l1 : List (S77)) (a2 : Int) (r : Bool) (w : World) (hr0 : Kd.C (Kd.int .i64) w A0 l0.length l0) (hc0 : l0.length ≤ c0) (hr1 : Kd.C k77 w A1 l1.length l1) (hc1 : l1.length ≤ c1) (hT : r = true) (h : laws_FnExactResonanceCurve.f k l0 l1 a2 = some r) :
    Calls Try.prog 10 #[.slice A0 l0.length c0, .slice A1 l1.length c1, .int .i64 a2] w fun e w' => e = .returned (.bool r) ∧ Below w.heap.size w w' := by
  have HR0 := Aside0.mk hr0
  have HC0 := Aside0.mk hc0
  clear hr0 hc0
  have HR1 := Aside0.mk hr1
  have HC1 := Aside0.mk hc1
  clear hr1 hc1
  have HT := Aside0.mk hT
  clear hT
  have HB := Aside0.mk (Below.refl w.heap.size w)
  have H : (if (l0.length : Int) > 1048576 then (some true) else ((laws_szNoteS.f l1 1048576).bind fun t526 => (if t526 < 0 then (some true) else ((laws_toInt64S.f k l0).bind fun t527 => ((laws_toNoteS.f k l1).bind fun t530 => ((spec_ResonanceCurve.f k t527 t530 a2).bind fun bt533 => ((laws_toInt64S.f k l0).bind fun t537 => ((laws_toNoteS.f k l1).bind fun t540 => ((impl_ResonanceCurve.f k t537 t540 a2).bind fun bt543 => ((laws_eqInt64S.f k bt543.1 bt533.1).bind fun t547 => (if t547 = true then (laws_FnExactResonanceCurve.j0 k l0 l1 a2 bt533.1 bt533.2 t537 t540 bt543.1 bt543.2 (bt543.2 != bt533.2)) else (laws_FnExactResonanceCurve.j0 k l0 l1 a2 bt533.1 bt533.2 t537 t540 bt543.1 bt543.2 true)))))))))))) = some r := h
  clear h
  by_cases c4 : (l0.length : Int) > 1048576
  · rw [if_pos c4] at H
    have c4b0 : decide (1048576 < (l0.length : Int)) = true := decide_eq_true c4
    have c4b1 : decide (1048576 < l0.length) = true := decide_eq_true (by omega)
    clear c4
    obtain rfl := Option.some.inj H
    go_enter Try.func10, Try.ntmps10
    go_wp2
    go_ret
    exact ⟨by first | rfl | (simp [errW_none, errW_some] <;> rfl) | (simp [*, errW_none, errW_some] <;> rfl), by repeat (first | (with_reducible first | exact HB.out | apply below_alloc | apply pw_below_drewN | apply below_drew1) | exact HB.out)⟩
  · rw [if_neg c4] at H
    have c4b0 : decide (1048576 < (l0.length : Int)) = false := decide_eq_false c4
    have c4b1 : decide (1048576 < l0.length) = false := decide_eq_false (by omega)
    clear c4
    replace H := Option.bind_eq_some_iff.mp H
    obtain ⟨t526, A50, H⟩ := H
    replace H : (if t526 < 0 then (some true) else ((laws_toInt64S.f k l0).bind fun t527 => ((laws_toNoteS.f k l1).bind fun t530 => ((spec_ResonanceCurve.f k t527 t530 a2).bind fun bt533 => ((laws_toInt64S.f k l0).bind fun t537 => ((laws_toNoteS.f k l1).bind fun t540 => ((impl_ResonanceCurve.f k t537 t540 a2).bind fun bt543 => ((laws_eqInt64S.f k bt543.1 bt533.1).bind fun t547 => (if t547 = true then (laws_FnExactResonanceCurve.j0 k l0 l1 a2 bt533.1 bt533.2 t537 t540 bt543.1 bt543.2 (bt543.2 != bt533.2)) else (laws_FnExactResonanceCurve.j0 k l0 l1 a2 bt533.1 bt533.2 t537 t540 bt543.1 bt543.2 true)))))))))) = some r := H
    have A5 := Aside0.mk A50
    clear A50
    by_cases c6 : t526 < 0
    · rw [if_pos c6] at H
      have c6b0 : decide (t526 < 0) = true := decide_eq_true c6
      clear c6
      obtain rfl := Option.some.inj H
      go_enter Try.func10, Try.ntmps10
      go_wp2_with (first | ((with_reducible refine gate_callee (f := 15) rfl ?_); refine goesL_ (some 24) rfl rfl Try.func15 (by kernel_rfl) rfl #[.slice A1 l1.length c1, .int .i64 1048576] rfl (by (try simp only [List.map_toArray, List.map_cons, List.map_nil]); first | done | rfl | (simp only [List.length_drop, List.length_take]; rfl)) ?_; (with_reducible refine (laws_szNoteS.calls _ _ l1 1048576 t526 _ ?side1 ?side2 A5.out).mono ?_); (case side1 => repeat (first | exact HR1.out | (with_reducible refine Kd.C_alloc ?_ _) | (with_reducible refine Kd.C_drewN ?_ _) | (with_reducible refine Kd.C_drew ?_))); (case side2 => exact HC1.out); rintro e w' ⟨rfl, ⟨nd, rfl⟩⟩; refine ⟨_, rfl, ?_⟩))
      go_ret
      exact ⟨by first | rfl | (simp [errW_none, errW_some] <;> rfl) | (simp [*, errW_none, errW_some] <;> rfl), by repeat (first | (with_reducible first | exact HB.out | apply below_alloc | apply pw_below_drewN | apply below_drew1) | exact HB.out)⟩
    · rw [if_neg c6] at H
      have c6b0 : decide (t526 < 0) = false := decide_eq_false c6
      clear c6
      replace H := Option.bind_eq_some_iff.mp H
      obtain ⟨t527, A70, H⟩ := H
      replace H : ((laws_toNoteS.f k l1).bind fun t530 => ((spec_ResonanceCurve.f k t527 t530 a2).bind fun bt533 => ((laws_toInt64S.f k l0).bind fun t537 => ((laws_toNoteS.f k l1).bind fun t540 => ((impl_ResonanceCurve.f k t537 t540 a2).bind fun bt543 => ((laws_eqInt64S.f k bt543.1 bt533.1).bind fun t547 => (if t547 = true then (laws_FnExactResonanceCurve.j0 k l0 l1 a2 bt533.1 bt533.2 t537 t540 bt543.1 bt543.2 (bt543.2 != bt533.2)) else (laws_FnExactResonanceCurve.j0 k l0 l1 a2 bt533.1 bt533.2 t537 t540 bt543.1 bt543.2 true)))))))) = some r := H
      have A7 := Aside0.mk A70
      clear A70
      replace H := Option.bind_eq_some_iff.mp H
      obtain ⟨t530, A80, H⟩ := H
      replace H : ((spec_ResonanceCurve.f k t527 t530 a2).bind fun bt533 => ((laws_toInt64S.f k l0).bind fun t537 => ((laws_toNoteS.f k l1).bind fun t540 => ((impl_ResonanceCurve.f k t537 t540 a2).bind fun bt543 => ((laws_eqInt64S.f k bt543.1 bt533.1).bind fun t547 => (if t547 = true then (laws_FnExactResonanceCurve.j0 k l0 l1 a2 bt533.1 bt533.2 t537 t540 bt543.1 bt543.2 (bt543.2 != bt533.2)) else (laws_FnExactResonanceCurve.j0 k l0 l1 a2 bt533.1 bt533.2 t537 t540 bt543.1 bt543.2 true))))))) = some r := H
      have A8 := Aside0.mk A80
      clear A80
      replace H := Option.bind_eq_some_iff.mp H
      obtain ⟨⟨t533, t534⟩, A90, H⟩ := H
      replace H : ((laws_toInt64S.f k l0).bind fun t537 => ((laws_toNoteS.f k l1).bind fun t540 => ((impl_ResonanceCurve.f k t537 t540 a2).bind fun bt543 => ((laws_eqInt64S.f k bt543.1 t533).bind fun t547 => (if t547 = true then (laws_FnExactResonanceCurve.j0 k l0 l1 a2 t533 t534 t537 t540 bt543.1 bt543.2 (bt543.2 != t534)) else (laws_FnExactResonanceCurve.j0 k l0 l1 a2 t533 t534 t537 t540 bt543.1 bt543.2 true)))))) = some r := H
      have A9 := Aside0.mk A90
      clear A90
      replace H := Option.bind_eq_some_iff.mp H
      obtain ⟨t537, A100, H⟩ := H
      replace H : ((laws_toNoteS.f k l1).bind fun t540 => ((impl_ResonanceCurve.f k t537 t540 a2).bind fun bt543 => ((laws_eqInt64S.f k bt543.1 t533).bind fun t547 => (if t547 = true then (laws_FnExactResonanceCurve.j0 k l0 l1 a2 t533 t534 t537 t540 bt543.1 bt543.2 (bt543.2 != t534)) else (laws_FnExactResonanceCurve.j0 k l0 l1 a2 t533 t534 t537 t540 bt543.1 bt543.2 true))))) = some r := H
      have A10 := Aside0.mk A100
      clear A100
      replace H := Option.bind_eq_some_iff.mp H
      obtain ⟨t540, A110, H⟩ := H
      replace H : ((impl_ResonanceCurve.f k t537 t540 a2).bind fun bt543 => ((laws_eqInt64S.f k bt543.1 t533).bind fun t547 => (if t547 = true then (laws_FnExactResonanceCurve.j0 k l0 l1 a2 t533 t534 t537 t540 bt543.1 bt543.2 (bt543.2 != t534)) else (laws_FnExactResonanceCurve.j0 k l0 l1 a2 t533 t534 t537 t540 bt543.1 bt543.2 true)))) = some r := H
      have A11 := Aside0.mk A110
      clear A110
      replace H := Option.bind_eq_some_iff.mp H
      obtain ⟨⟨t543, t544⟩, A120, H⟩ := H
      replace H : ((laws_eqInt64S.f k t543 t533).bind fun t547 => (if t547 = true then (laws_FnExactResonanceCurve.j0 k l0 l1 a2 t533 t534 t537 t540 t543 t544 (t544 != t534)) else (laws_FnExactResonanceCurve.j0 k l0 l1 a2 t533 t534 t537 t540 t543 t544 true))) = some r := H
      have A12 := Aside0.mk A120
      clear A120
      have HC13 := Aside0.mk H
      clear H
      go_enter Try.func10, Try.ntmps10
      go_upto_region 11 with (first | ((with_reducible refine gate_callee (f := 15) rfl ?_); refine goesL_ (some 24) rfl rfl Try.func15 (by kernel_rfl) rfl #[.slice A1 l1.length c1, .int .i64 1048576] rfl (by (try simp only [List.map_toArray, List.map_cons, List.map_nil]); first | done | rfl | (simp only [List.length_drop, List.length_take]; rfl)) ?_; (with_reducible refine (laws_szNoteS.calls _ _ l1 1048576 t526 _ ?side1 ?side2 A5.out).mono ?_); (case side1 => repeat (first | exact HR1.out | (with_reducible refine Kd.C_alloc ?_ _) | (with_reducible refine Kd.C_drewN ?_ _) | (with_reducible refine Kd.C_drew ?_))); (case side2 => exact HC1.out); rintro e w' ⟨rfl, ⟨nd, rfl⟩⟩; refine ⟨_, rfl, ?_⟩) | ((with_reducible refine gate_callee (f := 21) rfl ?_); refine goesL_ (some 29) rfl rfl Try.func21 (by kernel_rfl) rfl #[.slice A0 l0.length c0] rfl (by (try simp only [List.map_toArray, List.map_cons, List.map_nil]); first | done | rfl | (simp only [List.length_drop, List.length_take]; rfl)) ?_; (with_reducible refine (laws_toInt64S.calls k _ _ l0 t527 _ ?side1 ?side2 A7.out).mono ?_); (case side1 => repeat (first | exact HR0.out | (with_reducible refine Kd.C_alloc ?_ _) | (with_reducible refine Kd.C_drewN ?_ _) | (with_reducible refine Kd.C_drew ?_))); (case side2 => exact HC0.out); rintro e w14 ⟨v528, rfl, ho0, hb⟩; refine ⟨_, rfl, ?_⟩; have n0_ := Aside0.mk (Kd.R_lower ho0 (below_size (by repeat (first | (with_reducible first | exact HB.out | apply below_alloc | apply pw_below_drewN | apply below_drew1) | exact HB.out)))); have n1_ := Aside0.mk (below_step (by repeat (first | (with_reducible first | exact HB.out | apply below_alloc | apply pw_below_drewN | apply below_drew1) | exact HB.out)) hb); clear HB; have HO529 := n0_; have HB := n1_; clear n0_ n1_; (try clear hb); (try clear hb2); (try clear hk); (try clear hi); (try clear ho0)) | ((with_reducible refine gate_callee (f := 17) rfl ?_); refine goesL_ (some 31) rfl rfl Try.func17 (by kernel_rfl) rfl #[.slice A1 l1.length c1] rfl (by (try simp only [List.map_toArray, List.map_cons, List.map_nil]); first | done | rfl | (simp only [List.length_drop, List.length_take]; rfl)) ?_; (with_reducible refine (laws_toNoteS.calls k _ _ l1 t530 _ ?side1 ?side2 A8.out).mono ?_); (case side1 => repeat (first | exact (Kd.C_below HR1.out HB.out) | (with_reducible refine Kd.C_alloc ?_ _) | (with_reducible refine Kd.C_drewN ?_ _) | (with_reducible refine Kd.C_drew ?_))); (case side2 => exact HC1.out); rintro e w15 ⟨v531, rfl, ho0, hb⟩; refine ⟨_, rfl, ?_⟩; have n0_ := Aside0.mk (Kd.R_below (by (with_reducible repeat (first | apply Kd.R_alloc | apply Kd.R_drewN | apply Kd.R_drew)); exact HO529.out) hb); have n1_ := Aside0.mk (Kd.R_lower ho0 (below_size (by repeat (first | (with_reducible first | exact HB.out | apply below_alloc | apply pw_below_drewN | apply below_drew1) | exact HB.out)))); have n2_ := Aside0.mk (below_step (by repeat (first | (with_reducible first | exact HB.out | apply below_alloc | apply pw_below_drewN | apply below_drew1) | exact HB.out)) hb); clear HO529; clear HB; have HO529 := n0_; have HO532 := n1_; have HB := n2_; clear n0_ n1_ n2_; (try clear hb); (try clear hb2); (try clear hk); (try clear hi); (try clear ho0); obtain ⟨Ao16, co16, eo16⟩ := Kd.R_slice HO529.out; subst eo16; obtain ⟨Ao17, co17, eo17⟩ := Kd.R_slice HO532.out; subst eo17) | ((with_reducible refine gate_callee (f := 40) rfl ?_); refine goesL_ (some 33) rfl rfl Try.func40 (by kernel_rfl) rfl #[.slice Ao16 t527.length co16, .slice Ao17 t530.length co17, .int .i64 a2] rfl (by (try simp only [List.map_toArray, List.map_cons, List.map_nil]); first | done | rfl | (simp only [List.length_drop, List.length_take]; rfl)) ?_; (with_reducible refine (spec_ResonanceCurve.calls k _ _ t527 _ _ t530 a2 t533 t534 _ ?side1 ?side2 ?side3 ?side4 A9.out).mono ?_); (case side1 => repeat (first | exact (Kd.R_reads' HO529.out).2.2 | (with_reducible refine Kd.C_alloc ?_ _) | (with_reducible refine Kd.C_drewN ?_ _) | (with_reducible refine Kd.C_drew ?_))); (case side2 => exact (Kd.R_reads' HO529.out).2.1); (case side3 => repeat (first | exact (Kd.R_reads' HO532.out).2.2 | (with_reducible refine Kd.C_alloc ?_ _) | (with_reducible refine Kd.C_drewN ?_ _) | (with_reducible refine Kd.C_drew ?_))); (case side4 => exact (Kd.R_reads' HO532.out).2.1); rintro e w18 ⟨v535, rfl, ho0, hb⟩; refine ⟨_, rfl, ?_⟩; have n0_ := Aside0.mk (Kd.R_elder' (by (with_reducible repeat (first | apply Kd.R_alloc | apply Kd.R_drewN | apply Kd.R_drew)); exact HO529.out) (Kd.R_base ho0) hb); have n1_ := Aside0.mk (Kd.R_below (by (with_reducible repeat (first | apply Kd.R_alloc | apply Kd.R_drewN | apply Kd.R_drew)); exact HO532.out) hb); have n2_ := Aside0.mk (Kd.R_lower (Kd.R_new' ho0 (Kd.R_lt (by (with_reducible repeat (first | apply Kd.R_alloc | apply Kd.R_drewN | apply Kd.R_drew)); exact HO529.out))) (below_size (by repeat (first | (with_reducible first | exact HB.out | apply below_alloc | apply pw_below_drewN | apply below_drew1) | exact HB.out)))); have n3_ := Aside0.mk (below_step (by repeat (first | (with_reducible first | exact HB.out | apply below_alloc | apply pw_below_drewN | apply below_drew1) | exact HB.out)) hb); clear HO529; clear HO532; clear HB; have HO529 := n0_; have HO532 := n1_; have HO536 := n2_; have HB := n3_; clear n0_ n1_ n2_ n3_; (try clear hb); (try clear hb2); (try clear hk); (try clear hi); (try clear ho0)) | ((with_reducible refine gate_callee (f := 21) rfl ?_); refine goesL_ (some 37) rfl rfl Try.func21 (by kernel_rfl) rfl #[.slice A0 l0.length c0] rfl (by (try simp only [List.map_toArray, List.map_cons, List.map_nil]); first | done | rfl | (simp only [List.length_drop, List.length_take]; rfl)) ?_; (with_reducible refine (laws_toInt64S.calls k _ _ l0 t537 _ ?side1 ?side2 A10.out).mono ?_); (case side1 => repeat (first | exact (Kd.C_below HR0.out HB.out) | (with_reducible refine Kd.C_alloc ?_ _) | (with_reducible refine Kd.C_drewN ?_ _) | (with_reducible refine Kd.C_drew ?_))); (case side2 => exact HC0.out); rintro e w19 ⟨v538, rfl, ho0, hb⟩; refine ⟨_, rfl, ?_⟩; have n0_ := Aside0.mk (Kd.R_elder' (by (with_reducible repeat (first | apply Kd.R_alloc | apply Kd.R_drewN | apply Kd.R_drew)); exact HO529.out) (Kd.R_base ho0) hb); have n1_ := Aside0.mk (Kd.R_below (by (with_reducible repeat (first | apply Kd.R_alloc | apply Kd.R_drewN | apply Kd.R_drew)); exact HO532.out) hb); have n2_ := Aside0.mk (Kd.R_elder' (by (with_reducible repeat (first | apply Kd.R_alloc | apply Kd.R_drewN | apply Kd.R_drew)); exact HO536.out) (Kd.R_base ho0) hb); have n3_ := Aside0.mk (Kd.R_lower (Kd.R_new' (Kd.R_new' ho0 (Kd.R_lt (by (with_reducible repeat (first | apply Kd.R_alloc | apply Kd.R_drewN | apply Kd.R_drew)); exact HO529.out))) (Kd.R_lt (by (with_reducible repeat (first | apply Kd.R_alloc | apply Kd.R_drewN | apply Kd.R_drew)); exact HO536.out))) (below_size (by repeat (first | (with_reducible first | exact HB.out | apply below_alloc | apply pw_below_drewN | apply below_drew1) | exact HB.out)))); have n4_ := Aside0.mk (below_step (by repeat (first | (with_reducible first | exact HB.out | apply below_alloc | apply pw_below_drewN | apply below_drew1) | exact HB.out)) hb); clear HO529; clear HO532; clear HO536; clear HB; have HO529 := n0_; have HO532 := n1_; have HO536 := n2_; have HO539 := n3_; have HB := n4_; clear n0_ n1_ n2_ n3_ n4_; (try clear hb); (try clear hb2); (try clear hk); (try clear hi); (try clear ho0)) | ((with_reducible refine gate_callee (f := 17) rfl ?_); refine goesL_ (some 39) rfl rfl Try.func17 (by kernel_rfl) rfl #[.slice A1 l1.length c1] rfl (by (try simp only [List.map_toArray, List.map_cons, List.map_nil]); first | done | rfl | (simp only [List.length_drop, List.length_take]; rfl)) ?_; (with_reducible refine (laws_toNoteS.calls k _ _ l1 t540 _ ?side1 ?side2 A11.out).mono ?_); (case side1 => repeat (first | exact (Kd.C_below HR1.out HB.out) | (with_reducible refine Kd.C_alloc ?_ _) | (with_reducible refine Kd.C_drewN ?_ _) | (with_reducible refine Kd.C_drew ?_))); (case side2 => exact HC1.out); rintro e w20 ⟨v541, rfl, ho0, hb⟩; refine ⟨_, rfl, ?_⟩; have n0_ := Aside0.mk (Kd.R_below (by (with_reducible repeat (first | apply Kd.R_alloc | apply Kd.R_drewN | apply Kd.R_drew)); exact HO529.out) hb); have n1_ := Aside0.mk (Kd.R_elder' (by (with_reducible repeat (first | apply Kd.R_alloc | apply Kd.R_drewN | apply Kd.R_drew)); exact HO532.out) (Kd.R_base ho0) hb); have n2_ := Aside0.mk (Kd.R_below (by (with_reducible repeat (first | apply Kd.R_alloc | apply Kd.R_drewN | apply Kd.R_drew)); exact HO536.out) hb); have n3_ := Aside0.mk (Kd.R_below (by (with_reducible repeat (first | apply Kd.R_alloc | apply Kd.R_drewN | apply Kd.R_drew)); exact HO539.out) hb); have n4_ := Aside0.mk (Kd.R_lower (Kd.R_new' ho0 (Kd.R_lt (by (with_reducible repeat (first | apply Kd.R_alloc | apply Kd.R_drewN | apply Kd.R_drew)); exact HO532.out))) (below_size (by repeat (first | (with_reducible first | exact HB.out | apply below_alloc | apply pw_below_drewN | apply below_drew1) | exact HB.out)))); have n5_ := Aside0.mk (below_step (by repeat (first | (with_reducible first | exact HB.out | apply below_alloc | apply pw_below_drewN | apply below_drew1) | exact HB.out)) hb); clear HO529; clear HO532; clear HO536; clear HO539; clear HB; have HO529 := n0_; have HO532 := n1_; have HO536 := n2_; have HO539 := n3_; have HO542 := n4_; have HB := n5_; clear n0_ n1_ n2_ n3_ n4_ n5_; (try clear hb); (try clear hb2); (try clear hk); (try clear hi); (try clear ho0); obtain ⟨Ao21, co21, eo21⟩ := Kd.R_slice HO539.out; subst eo21; obtain ⟨Ao22, co22, eo22⟩ := Kd.R_slice HO542.out; subst eo22) | ((with_reducible refine gate_callee (f := 41) rfl ?_); refine goesL_ (some 44) rfl rfl Try.func41 (by kernel_rfl) rfl #[.slice Ao21 t537.length co21, .slice Ao22 t540.length co22, .int .i64 a2] rfl (by (try simp only [List.map_toArray, List.map_cons, List.map_nil]); first | done | rfl | (simp only [List.length_drop, List.length_take]; rfl)) ?_; (with_reducible refine (impl_ResonanceCurve.calls k _ _ t537 _ _ t540 a2 t543 t544 _ ?side1 ?side2 ?side3 ?side4 A12.out).mono ?_); (case side1 => repeat (first | exact (Kd.R_reads' HO539.out).2.2 | (with_reducible refine Kd.C_alloc ?_ _) | (with_reducible refine Kd.C_drewN ?_ _) | (with_reducible refine Kd.C_drew ?_))); (case side2 => exact (Kd.R_reads' HO539.out).2.1); (case side3 => repeat (first | exact (Kd.R_reads' HO542.out).2.2 | (with_reducible refine Kd.C_alloc ?_ _) | (with_reducible refine Kd.C_drewN ?_ _) | (with_reducible refine Kd.C_drew ?_))); (case side4 => exact (Kd.R_reads' HO542.out).2.1); rintro e w23 ⟨v545, rfl, ho0, hb⟩; refine ⟨_, rfl, ?_⟩; have n0_ := Aside0.mk (Kd.R_elder' (by (with_reducible repeat (first | apply Kd.R_alloc | apply Kd.R_drewN | apply Kd.R_drew)); exact HO529.out) (Kd.R_base ho0) hb); have n1_ := Aside0.mk (Kd.R_below (by (with_reducible repeat (first | apply Kd.R_alloc | apply Kd.R_drewN | apply Kd.R_drew)); exact HO532.out) hb); have n2_ := Aside0.mk (Kd.R_elder' (by (with_reducible repeat (first | apply Kd.R_alloc | apply Kd.R_drewN | apply Kd.R_drew)); exact HO536.out) (Kd.R_base ho0) hb); have n3_ := Aside0.mk (Kd.R_elder' (by (with_reducible repeat (first | apply Kd.R_alloc | apply Kd.R_drewN | apply Kd.R_drew)); exact HO539.out) (Kd.R_base ho0) hb); have n4_ := Aside0.mk (Kd.R_below (by (with_reducible repeat (first | apply Kd.R_alloc | apply Kd.R_drewN | apply Kd.R_drew)); exact HO542.out) hb); have n5_ := Aside0.mk (Kd.R_lower (Kd.R_new' (Kd.R_new' (Kd.R_new' ho0 (Kd.R_lt (by (with_reducible repeat (first | apply Kd.R_alloc | apply Kd.R_drewN | apply Kd.R_drew)); exact HO529.out))) (Kd.R_lt (by (with_reducible repeat (first | apply Kd.R_alloc | apply Kd.R_drewN | apply Kd.R_drew)); exact HO536.out))) (Kd.R_lt (by (with_reducible repeat (first | apply Kd.R_alloc | apply Kd.R_drewN | apply Kd.R_drew)); exact HO539.out))) (below_size (by repeat (first | (with_reducible first | exact HB.out | apply below_alloc | apply pw_below_drewN | apply below_drew1) | exact HB.out)))); have n6_ := Aside0.mk (below_step (by repeat (first | (with_reducible first | exact HB.out | apply below_alloc | apply pw_below_drewN | apply below_drew1) | exact HB.out)) hb); clear HO529; clear HO532; clear HO536; clear HO539; clear HO542; clear HB; have HO529 := n0_; have HO532 := n1_; have HO536 := n2_; have HO539 := n3_; have HO542 := n4_; have HO546 := n5_; have HB := n6_; clear n0_ n1_ n2_ n3_ n4_ n5_ n6_; (try clear hb); (try clear hb2); (try clear hk); (try clear hi); (try clear ho0)))
      (try simp only [Act.put, List.setIfInBounds_toArray, List.set_cons_zero, List.set_cons_succ])
      go_cut [55] (fun v55 wc => ∃ (kq : Nat) (x55_12 : Bool), v55 = .bool x55_12 ∧ Aside0 (laws_FnExactResonanceCurve.j0 kq l0 l1 a2 t533 t534 t537 t540 t543 t544 x55_12 = some r) ∧ Aside0 (kq ≤ k) ∧ Aside0 (Kd.R (Kd.int .i64) 2 wc w.heap.size (fun k_ => some k_ ≠ ((.slice Ao21 t537.length co21) : Value).ownBlock ∧ some k_ ≠ (v545 : Value).ownBlock) v535 t533) ∧ Aside0 (Kd.R (Kd.int .i64) 2 wc w.heap.size (fun k_ => some k_ ≠ (v535 : Value).ownBlock ∧ some k_ ≠ (v545 : Value).ownBlock) (.slice Ao21 t537.length co21) t537) ∧ Aside0 (Kd.R k75 75 wc w.heap.size (fun _ => True) (.slice Ao22 t540.length co22) t540) ∧ Aside0 (Kd.R (Kd.int .i64) 2 wc w.heap.size (fun k_ => some k_ ≠ (v535 : Value).ownBlock ∧ some k_ ≠ ((.slice Ao21 t537.length co21) : Value).ownBlock) v545 t543) ∧ Aside0 (Below w.heap.size w wc))
      case first =>
        have H := HC13.out
        clear HC13
        replace H := Option.bind_eq_some_iff.mp H
        obtain ⟨t547, A240, H⟩ := H
        replace H : (if t547 = true then (laws_FnExactResonanceCurve.j0 k l0 l1 a2 t533 t534 t537 t540 t543 t544 (t544 != t534)) else (laws_FnExactResonanceCurve.j0 k l0 l1 a2 t533 t534 t537 t540 t543 t544 true)) = some r := H
        have A24 := Aside0.mk A240
        clear A240
        by_cases c25 : t547 = true
        · subst c25
          have H1 : (laws_FnExactResonanceCurve.j0 k l0 l1 a2 t533 t534 t537 t540 t543 t544 (t544 != t534)) = some r := by rw [if_pos rfl] at H; exact H
          clear H
          have H := H1
          clear H1
          have H' := Aside0.mk H
          clear H
          obtain ⟨Ao26, co26, eo26⟩ := Kd.R_slice HO546.out
          subst eo26
          obtain ⟨Ao27, co27, eo27⟩ := Kd.R_slice HO536.out
          subst eo27
          go_wp2_with (first | ((with_reducible refine gate_callee (f := 23) rfl ?_); refine goesL_ (some 49) rfl rfl Try.func23 (by kernel_rfl) rfl #[.slice Ao26 t543.length co26, .slice Ao27 t533.length co27] rfl (by (try simp only [List.map_toArray, List.map_cons, List.map_nil]); first | done | rfl | (simp only [List.length_drop, List.length_take]; rfl)) ?_; (with_reducible refine (laws_eqInt64S.calls k _ _ t543 _ _ t533 true _ ?side1 ?side2 ?side3 ?side4 A24.out).mono ?_); (case side1 => repeat (first | exact (Kd.R_reads' HO546.out).2.2 | (with_reducible refine Kd.C_alloc ?_ _) | (with_reducible refine Kd.C_drewN ?_ _) | (with_reducible refine Kd.C_drew ?_))); (case side2 => exact (Kd.R_reads' HO546.out).2.1); (case side3 => repeat (first | exact (Kd.R_reads' HO536.out).2.2 | (with_reducible refine Kd.C_alloc ?_ _) | (with_reducible refine Kd.C_drewN ?_ _) | (with_reducible refine Kd.C_drew ?_))); (case side4 => exact (Kd.R_reads' HO536.out).2.1); rintro e w' ⟨rfl, ⟨nd, rfl⟩⟩; refine ⟨_, rfl, ?_⟩))
          go_meet
          case rel => exact ⟨_, ((t544 != t534)), (by first | rfl | (simp; done) | (simp [*]; done)), H', ⟨by first | omega | exact Nat.le_refl _⟩, ⟨by (with_reducible repeat (first | apply Kd.R_alloc | apply Kd.R_drewN | apply Kd.R_drew)); exact Kd.R_mono HO536.out (fun _ hk => ⟨hk.1.2, hk.2⟩)⟩, ⟨by (with_reducible repeat (first | apply Kd.R_alloc | apply Kd.R_drewN | apply Kd.R_drew)); exact Kd.R_mono HO539.out (fun _ hk => ⟨hk.1.2, hk.2⟩)⟩, ⟨by (with_reducible repeat (first | apply Kd.R_alloc | apply Kd.R_drewN | apply Kd.R_drew)); exact Kd.R_mono HO542.out (fun _ hk => trivial)⟩, ⟨by (with_reducible repeat (first | apply Kd.R_alloc | apply Kd.R_drewN | apply Kd.R_drew)); exact Kd.R_mono HO546.out (fun _ hk => ⟨hk.1.2, hk.2⟩)⟩, ⟨by repeat (first | (with_reducible first | exact HB.out | apply below_alloc | apply pw_below_drewN | apply below_drew1) | exact HB.out)⟩⟩
        · replace c25 := Bool.eq_false_iff.mpr c25
          subst c25
          have H1 : (laws_FnExactResonanceCurve.j0 k l0 l1 a2 t533 t534 t537 t540 t543 t544 true) = some r := by rw [if_neg (show ¬ (false = true) by decide)] at H; exact H
          clear H
          have H := H1
          clear H1
          have H' := Aside0.mk H
          clear H
          obtain ⟨Ao28, co28, eo28⟩ := Kd.R_slice HO546.out
          subst eo28
          obtain ⟨Ao29, co29, eo29⟩ := Kd.R_slice HO536.out
          subst eo29
          go_wp2_with (first | ((with_reducible refine gate_callee (f := 23) rfl ?_); refine goesL_ (some 49) rfl rfl Try.func23 (by kernel_rfl) rfl #[.slice Ao28 t543.length co28, .slice Ao29 t533.length co29] rfl (by (try simp only [List.map_toArray, List.map_cons, List.map_nil]); first | done | rfl | (simp only [List.length_drop, List.length_take]; rfl)) ?_; (with_reducible refine (laws_eqInt64S.calls k _ _ t543 _ _ t533 false _ ?side1 ?side2 ?side3 ?side4 A24.out).mono ?_); (case side1 => repeat (first | exact (Kd.R_reads' HO546.out).2.2 | (with_reducible refine Kd.C_alloc ?_ _) | (with_reducible refine Kd.C_drewN ?_ _) | (with_reducible refine Kd.C_drew ?_))); (case side2 => exact (Kd.R_reads' HO546.out).2.1); (case side3 => repeat (first | exact (Kd.R_reads' HO536.out).2.2 | (with_reducible refine Kd.C_alloc ?_ _) | (with_reducible refine Kd.C_drewN ?_ _) | (with_reducible refine Kd.C_drew ?_))); (case side4 => exact (Kd.R_reads' HO536.out).2.1); rintro e w' ⟨rfl, ⟨nd, rfl⟩⟩; refine ⟨_, rfl, ?_⟩))
          go_meet
          case rel => exact ⟨_, (true), (by first | rfl | (simp; done) | (simp [*]; done)), H', ⟨by first | omega | exact Nat.le_refl _⟩, ⟨by (with_reducible repeat (first | apply Kd.R_alloc | apply Kd.R_drewN | apply Kd.R_drew)); exact Kd.R_mono HO536.out (fun _ hk => ⟨hk.1.2, hk.2⟩)⟩, ⟨by (with_reducible repeat (first | apply Kd.R_alloc | apply Kd.R_drewN | apply Kd.R_drew)); exact Kd.R_mono HO539.out (fun _ hk => ⟨hk.1.2, hk.2⟩)⟩, ⟨by (with_reducible repeat (first | apply Kd.R_alloc | apply Kd.R_drewN | apply Kd.R_drew)); exact Kd.R_mono HO542.out (fun _ hk => trivial)⟩, ⟨by (with_reducible repeat (first | apply Kd.R_alloc | apply Kd.R_drewN | apply Kd.R_drew)); exact Kd.R_mono HO546.out (fun _ hk => ⟨hk.1.2, hk.2⟩)⟩, ⟨by repeat (first | (with_reducible first | exact HB.out | apply below_alloc | apply pw_below_drewN | apply below_drew1) | exact HB.out)⟩⟩
      case rest =>
        clear HC13
        try clear c1
        try clear c2
        try clear p2
        try clear c4
        try clear c4b0
        try clear c4b1
        try clear c6
        try clear c6b0
        try clear c10
        try clear c15
        try clear c17
        try clear c21
        try clear c23
        try clear c25
        obtain ⟨kq, x55_12, rfl, HA, HJ12, HO_8, HO_10, HO_11, HO_12, HB⟩ := hcut
        cases kq with
        | zero => exact absurd HA.out (by simp [laws_FnExactResonanceCurve.j0])
        | succ kj12 =>
          have H := HA.out
          clear HA
          simp only [laws_FnExactResonanceCurve.j0] at H
          by_cases c30 : x55_12 = true
          · subst c30
            have H1 : (some false) = some r := by rw [if_pos rfl] at H; exact H
            clear H
            have H := H1
            clear H1
            exact absurd ((Option.some.inj H).trans HT.out) (by decide)
          · replace c30 := Bool.eq_false_iff.mpr c30
            subst c30
            have H1 : ((laws_toInt64S.f kj12 l0).bind fun t548 => ((laws_eqInt64S.f kj12 t537 t548).bind fun t551 => (if t551 = true then ((laws_toNoteS.f kj12 l1).bind fun t552 => ((laws_eqNoteS.f kj12 t540 t552).bind fun t555 => (if t555 = true then ((laws_markInt64S.f kj12 t537 1).bind fun bt556 => ((laws_markNoteS.f kj12 t540 bt556.1).bind fun bt558 => (if bt558.1 < 0 then (laws_FnExactResonanceCurve.j1 kj12 l0 l1 a2 t533 t534 t543 true) else ((laws_eqInt64S.f kj12 t543 t533).bind fun t560 => (if t560 = true then (laws_FnExactResonanceCurve.j1 kj12 l0 l1 a2 t533 t534 t543 (t544 != t534)) else (laws_FnExactResonanceCurve.j1 kj12 l0 l1 a2 t533 t534 t543 true)))))) else (some false)))) else (some false)))) = some r := by rw [if_neg (show ¬ (false = true) by decide)] at H; exact H
            clear H
            have H := H1
            clear H1
            replace H := Option.bind_eq_some_iff.mp H
            obtain ⟨t548, A310, H⟩ := H
            replace H : ((laws_eqInt64S.f kj12 t537 t548).bind fun t551 => (if t551 = true then ((laws_toNoteS.f kj12 l1).bind fun t552 => ((laws_eqNoteS.f kj12 t540 t552).bind fun t555 => (if t555 = true then ((laws_markInt64S.f kj12 t537 1).bind fun bt556 => ((laws_markNoteS.f kj12 t540 bt556.1).bind fun bt558 => (if bt558.1 < 0 then (laws_FnExactResonanceCurve.j1 kj12 l0 l1 a2 t533 t534 t543 true) else ((laws_eqInt64S.f kj12 t543 t533).bind fun t560 => (if t560 = true then (laws_FnExactResonanceCurve.j1 kj12 l0 l1 a2 t533 t534 t543 (t544 != t534)) else (laws_FnExactResonanceCurve.j1 kj12 l0 l1 a2 t533 t534 t543 true)))))) else (some false)))) else (some false))) = some r := H
            have A31 := Aside0.mk A310
            clear A310
            replace H := Option.bind_eq_some_iff.mp H
            obtain ⟨t551, A320, H⟩ := H
            replace H : (if t551 = true then ((laws_toNoteS.f kj12 l1).bind fun t552 => ((laws_eqNoteS.f kj12 t540 t552).bind fun t555 => (if t555 = true then ((laws_markInt64S.f kj12 t537 1).bind fun bt556 => ((laws_markNoteS.f kj12 t540 bt556.1).bind fun bt558 => (if bt558.1 < 0 then (laws_FnExactResonanceCurve.j1 kj12 l0 l1 a2 t533 t534 t543 true) else ((laws_eqInt64S.f kj12 t543 t533).bind fun t560 => (if t560 = true then (laws_FnExactResonanceCurve.j1 kj12 l0 l1 a2 t533 t534 t543 (t544 != t534)) else (laws_FnExactResonanceCurve.j1 kj12 l0 l1 a2 t533 t534 t543 true)))))) else (some false)))) else (some false)) = some r := H
            have A32 := Aside0.mk A320
            clear A320
            by_cases c33 : t551 = true
            · subst c33
              have H1 : ((laws_toNoteS.f kj12 l1).bind fun t552 => ((laws_eqNoteS.f kj12 t540 t552).bind fun t555 => (if t555 = true then ((laws_markInt64S.f kj12 t537 1).bind fun bt556 => ((laws_markNoteS.f kj12 t540 bt556.1).bind fun bt558 => (if bt558.1 < 0 then (laws_FnExactResonanceCurve.j1 kj12 l0 l1 a2 t533 t534 t543 true) else ((laws_eqInt64S.f kj12 t543 t533).bind fun t560 => (if t560 = true then (laws_FnExactResonanceCurve.j1 kj12 l0 l1 a2 t533 t534 t543 (t544 != t534)) else (laws_FnExactResonanceCurve.j1 kj12 l0 l1 a2 t533 t534 t543 true)))))) else (some false)))) = some r := by rw [if_pos rfl] at H; exact H
              clear H
              have H := H1
              clear H1
              replace H := Option.bind_eq_some_iff.mp H
              obtain ⟨t552, A340, H⟩ := H
              replace H : ((laws_eqNoteS.f kj12 t540 t552).bind fun t555 => (if t555 = true then ((laws_markInt64S.f kj12 t537 1).bind fun bt556 => ((laws_markNoteS.f kj12 t540 bt556.1).bind fun bt558 => (if bt558.1 < 0 then (laws_FnExactResonanceCurve.j1 kj12 l0 l1 a2 t533 t534 t543 true) else ((laws_eqInt64S.f kj12 t543 t533).bind fun t560 => (if t560 = true then (laws_FnExactResonanceCurve.j1 kj12 l0 l1 a2 t533 t534 t543 (t544 != t534)) else (laws_FnExactResonanceCurve.j1 kj12 l0 l1 a2 t533 t534 t543 true)))))) else (some false))) = some r := H
              have A34 := Aside0.mk A340
              clear A340
              replace H := Option.bind_eq_some_iff.mp H
              obtain ⟨t555, A350, H⟩ := H
              replace H : (if t555 = true then ((laws_markInt64S.f kj12 t537 1).bind fun bt556 => ((laws_markNoteS.f kj12 t540 bt556.1).bind fun bt558 => (if bt558.1 < 0 then (laws_FnExactResonanceCurve.j1 kj12 l0 l1 a2 t533 t534 t543 true) else ((laws_eqInt64S.f kj12 t543 t533).bind fun t560 => (if t560 = true then (laws_FnExactResonanceCurve.j1 kj12 l0 l1 a2 t533 t534 t543 (t544 != t534)) else (laws_FnExactResonanceCurve.j1 kj12 l0 l1 a2 t533 t534 t543 true)))))) else (some false)) = some r := H
              have A35 := Aside0.mk A350
              clear A350
              by_cases c36 : t555 = true
              · subst c36
                have H1 : ((laws_markInt64S.f kj12 t537 1).bind fun bt556 => ((laws_markNoteS.f kj12 t540 bt556.1).bind fun bt558 => (if bt558.1 < 0 then (laws_FnExactResonanceCurve.j1 kj12 l0 l1 a2 t533 t534 t543 true) else ((laws_eqInt64S.f kj12 t543 t533).bind fun t560 => (if t560 = true then (laws_FnExactResonanceCurve.j1 kj12 l0 l1 a2 t533 t534 t543 (t544 != t534)) else (laws_FnExactResonanceCurve.j1 kj12 l0 l1 a2 t533 t534 t543 true)))))) = some r := by rw [if_pos rfl] at H; exact H
                clear H
                have H := H1
                clear H1
                replace H := Option.bind_eq_some_iff.mp H
                obtain ⟨⟨t556, t557⟩, A370, H⟩ := H
                replace H : ((laws_markNoteS.f kj12 t540 t556).bind fun bt558 => (if bt558.1 < 0 then (laws_FnExactResonanceCurve.j1 kj12 l0 l1 a2 t533 t534 t543 true) else ((laws_eqInt64S.f kj12 t543 t533).bind fun t560 => (if t560 = true then (laws_FnExactResonanceCurve.j1 kj12 l0 l1 a2 t533 t534 t543 (t544 != t534)) else (laws_FnExactResonanceCurve.j1 kj12 l0 l1 a2 t533 t534 t543 true))))) = some r := H
                have A37 := Aside0.mk A370
                clear A370
                replace H := Option.bind_eq_some_iff.mp H
                obtain ⟨⟨t558, t559⟩, A380, H⟩ := H
                replace H : (if t558 < 0 then (laws_FnExactResonanceCurve.j1 kj12 l0 l1 a2 t533 t534 t543 true) else ((laws_eqInt64S.f kj12 t543 t533).bind fun t560 => (if t560 = true then (laws_FnExactResonanceCurve.j1 kj12 l0 l1 a2 t533 t534 t543 (t544 != t534)) else (laws_FnExactResonanceCurve.j1 kj12 l0 l1 a2 t533 t534 t543 true)))) = some r := H
                have A38 := Aside0.mk A380
                clear A380
                have HC39 := Aside0.mk H
                clear H
                go_upto_region 20 with (first | ((with_reducible refine gate_callee (f := 21) rfl ?_); refine goesL_ (some 58) rfl rfl Try.func21 (by kernel_rfl) rfl #[.slice A0 l0.length c0] rfl (by (try simp only [List.map_toArray, List.map_cons, List.map_nil]); first | done | rfl | (simp only [List.length_drop, List.length_take]; rfl)) ?_; (with_reducible refine (laws_toInt64S.calls kj12 _ _ l0 t548 _ ?side1 ?side2 A31.out).mono ?_); (case side1 => repeat (first | exact (Kd.C_below HR0.out HB.out) | (with_reducible refine Kd.C_alloc ?_ _) | (with_reducible refine Kd.C_drewN ?_ _) | (with_reducible refine Kd.C_drew ?_))); (case side2 => exact HC0.out); rintro e w40 ⟨v549, rfl, ho0, hb⟩; refine ⟨_, rfl, ?_⟩; have n0_ := Aside0.mk (Kd.R_elder' (by (with_reducible repeat (first | apply Kd.R_alloc | apply Kd.R_drewN | apply Kd.R_drew)); exact HO_8.out) (Kd.R_base ho0) hb); have n1_ := Aside0.mk (Kd.R_elder' (by (with_reducible repeat (first | apply Kd.R_alloc | apply Kd.R_drewN | apply Kd.R_drew)); exact HO_10.out) (Kd.R_base ho0) hb); have n2_ := Aside0.mk (Kd.R_below (by (with_reducible repeat (first | apply Kd.R_alloc | apply Kd.R_drewN | apply Kd.R_drew)); exact HO_11.out) hb); have n3_ := Aside0.mk (Kd.R_elder' (by (with_reducible repeat (first | apply Kd.R_alloc | apply Kd.R_drewN | apply Kd.R_drew)); exact HO_12.out) (Kd.R_base ho0) hb); have n4_ := Aside0.mk (Kd.R_lower (Kd.R_new' (Kd.R_new' (Kd.R_new' ho0 (Kd.R_lt (by (with_reducible repeat (first | apply Kd.R_alloc | apply Kd.R_drewN | apply Kd.R_drew)); exact HO_8.out))) (Kd.R_lt (by (with_reducible repeat (first | apply Kd.R_alloc | apply Kd.R_drewN | apply Kd.R_drew)); exact HO_10.out))) (Kd.R_lt (by (with_reducible repeat (first | apply Kd.R_alloc | apply Kd.R_drewN | apply Kd.R_drew)); exact HO_12.out))) (below_size (by repeat (first | (with_reducible first | exact HB.out | apply below_alloc | apply pw_below_drewN | apply below_drew1) | exact HB.out)))); have n5_ := Aside0.mk (below_step (by repeat (first | (with_reducible first | exact HB.out | apply below_alloc | apply pw_below_drewN | apply below_drew1) | exact HB.out)) hb); clear HO_8; clear HO_10; clear HO_11; clear HO_12; clear HB; have HO_8 := n0_; have HO_10 := n1_; have HO_11 := n2_; have HO_12 := n3_; have HO550 := n4_; have HB := n5_; clear n0_ n1_ n2_ n3_ n4_ n5_; (try clear hb); (try clear hb2); (try clear hk); (try clear hi); (try clear ho0); obtain ⟨Ao41, co41, eo41⟩ := Kd.R_slice HO550.out; subst eo41) | ((with_reducible refine gate_callee (f := 23) rfl ?_); refine goesL_ (some 59) rfl rfl Try.func23 (by kernel_rfl) rfl #[.slice Ao21 t537.length co21, .slice Ao41 t548.length co41] rfl (by (try simp only [List.map_toArray, List.map_cons, List.map_nil]); first | done | rfl | (simp only [List.length_drop, List.length_take]; rfl)) ?_; (with_reducible refine (laws_eqInt64S.calls kj12 _ _ t537 _ _ t548 true _ ?side1 ?side2 ?side3 ?side4 A32.out).mono ?_); (case side1 => repeat (first | exact (Kd.R_reads' HO_10.out).2.2 | (with_reducible refine Kd.C_alloc ?_ _) | (with_reducible refine Kd.C_drewN ?_ _) | (with_reducible refine Kd.C_drew ?_))); (case side2 => exact (Kd.R_reads' HO_10.out).2.1); (case side3 => repeat (first | exact (Kd.R_reads' HO550.out).2.2 | (with_reducible refine Kd.C_alloc ?_ _) | (with_reducible refine Kd.C_drewN ?_ _) | (with_reducible refine Kd.C_drew ?_))); (case side4 => exact (Kd.R_reads' HO550.out).2.1); rintro e w' ⟨rfl, ⟨nd, rfl⟩⟩; refine ⟨_, rfl, ?_⟩) | ((with_reducible refine gate_callee (f := 17) rfl ?_); refine goesL_ (some 63) rfl rfl Try.func17 (by kernel_rfl) rfl #[.slice A1 l1.length c1] rfl (by (try simp only [List.map_toArray, List.map_cons, List.map_nil]); first | done | rfl | (simp only [List.length_drop, List.length_take]; rfl)) ?_; (with_reducible refine (laws_toNoteS.calls kj12 _ _ l1 t552 _ ?side1 ?side2 A34.out).mono ?_); (case side1 => repeat (first | exact (Kd.C_below HR1.out (by repeat (first | (with_reducible first | exact HB.out | apply below_alloc | apply pw_below_drewN | apply below_drew1) | exact HB.out))) | (with_reducible refine Kd.C_alloc ?_ _) | (with_reducible refine Kd.C_drewN ?_ _) | (with_reducible refine Kd.C_drew ?_))); (case side2 => exact HC1.out); rintro e w42 ⟨v553, rfl, ho0, hb⟩; refine ⟨_, rfl, ?_⟩; have n0_ := Aside0.mk (Kd.R_below (by (with_reducible repeat (first | apply Kd.R_alloc | apply Kd.R_drewN | apply Kd.R_drew)); exact HO_8.out) hb); have n1_ := Aside0.mk (Kd.R_below (by (with_reducible repeat (first | apply Kd.R_alloc | apply Kd.R_drewN | apply Kd.R_drew)); exact HO_10.out) hb); have n2_ := Aside0.mk (Kd.R_elder' (by (with_reducible repeat (first | apply Kd.R_alloc | apply Kd.R_drewN | apply Kd.R_drew)); exact HO_11.out) (Kd.R_base ho0) hb); have n3_ := Aside0.mk (Kd.R_below (by (with_reducible repeat (first | apply Kd.R_alloc | apply Kd.R_drewN | apply Kd.R_drew)); exact HO_12.out) hb); have n4_ := Aside0.mk (Kd.R_below (by (with_reducible repeat (first | apply Kd.R_alloc | apply Kd.R_drewN | apply Kd.R_drew)); exact HO550.out) hb); have n5_ := Aside0.mk (Kd.R_lower (Kd.R_new' ho0 (Kd.R_lt (by (with_reducible repeat (first | apply Kd.R_alloc | apply Kd.R_drewN | apply Kd.R_drew)); exact HO_11.out))) (below_size (by repeat (first | (with_reducible first | exact HB.out | apply below_alloc | apply pw_below_drewN | apply below_drew1) | exact HB.out)))); have n6_ := Aside0.mk (below_step (by repeat (first | (with_reducible first | exact HB.out | apply below_alloc | apply pw_below_drewN | apply below_drew1) | exact HB.out)) hb); clear HO_8; clear HO_10; clear HO_11; clear HO_12; clear HO550; clear HB; have HO_8 := n0_; have HO_10 := n1_; have HO_11 := n2_; have HO_12 := n3_; have HO550 := n4_; have HO554 := n5_; have HB := n6_; clear n0_ n1_ n2_ n3_ n4_ n5_ n6_; (try clear hb); (try clear hb2); (try clear hk); (try clear hi); (try clear ho0); obtain ⟨Ao43, co43, eo43⟩ := Kd.R_slice HO554.out; subst eo43) | ((with_reducible refine gate_callee (f := 19) rfl ?_); refine goesL_ (some 64) rfl rfl Try.func19 (by kernel_rfl) rfl #[.slice Ao22 t540.length co22, .slice Ao43 t552.length co43] rfl (by (try simp only [List.map_toArray, List.map_cons, List.map_nil]); first | done | rfl | (simp only [List.length_drop, List.length_take]; rfl)) ?_; (with_reducible refine (laws_eqNoteS.calls kj12 _ _ t540 _ _ t552 true _ ?side1 ?side2 ?side3 ?side4 A35.out).mono ?_); (case side1 => repeat (first | exact (Kd.R_reads' HO_11.out).2.2 | (with_reducible refine Kd.C_alloc ?_ _) | (with_reducible refine Kd.C_drewN ?_ _) | (with_reducible refine Kd.C_drew ?_))); (case side2 => exact (Kd.R_reads' HO_11.out).2.1); (case side3 => repeat (first | exact (Kd.R_reads' HO554.out).2.2 | (with_reducible refine Kd.C_alloc ?_ _) | (with_reducible refine Kd.C_drewN ?_ _) | (with_reducible refine Kd.C_drew ?_))); (case side4 => exact (Kd.R_reads' HO554.out).2.1); rintro e w44 ⟨rfl, hb⟩; refine ⟨_, rfl, ?_⟩; have n0_ := Aside0.mk (Kd.R_below (by (with_reducible repeat (first | apply Kd.R_alloc | apply Kd.R_drewN | apply Kd.R_drew)); exact HO_8.out) hb); have n1_ := Aside0.mk (Kd.R_below (by (with_reducible repeat (first | apply Kd.R_alloc | apply Kd.R_drewN | apply Kd.R_drew)); exact HO_10.out) hb); have n2_ := Aside0.mk (Kd.R_below (by (with_reducible repeat (first | apply Kd.R_alloc | apply Kd.R_drewN | apply Kd.R_drew)); exact HO_11.out) hb); have n3_ := Aside0.mk (Kd.R_below (by (with_reducible repeat (first | apply Kd.R_alloc | apply Kd.R_drewN | apply Kd.R_drew)); exact HO_12.out) hb); have n4_ := Aside0.mk (Kd.R_below (by (with_reducible repeat (first | apply Kd.R_alloc | apply Kd.R_drewN | apply Kd.R_drew)); exact HO550.out) hb); have n5_ := Aside0.mk (Kd.R_below (by (with_reducible repeat (first | apply Kd.R_alloc | apply Kd.R_drewN | apply Kd.R_drew)); exact HO554.out) hb); have n6_ := Aside0.mk (below_step (by repeat (first | (with_reducible first | exact HB.out | apply below_alloc | apply pw_below_drewN | apply below_drew1) | exact HB.out)) hb); clear HO_8; clear HO_10; clear HO_11; clear HO_12; clear HO550; clear HO554; clear HB; have HO_8 := n0_; have HO_10 := n1_; have HO_11 := n2_; have HO_12 := n3_; have HO550 := n4_; have HO554 := n5_; have HB := n6_; clear n0_ n1_ n2_ n3_ n4_ n5_ n6_; (try clear hb); (try clear hb2); (try clear hk); (try clear hi)) | ((with_reducible refine gate_callee (f := 33) rfl ?_); refine goesL_ (some 68) rfl rfl Try.func33 (by kernel_rfl) rfl #[.slice Ao21 t537.length co21, .int .i64 1] rfl (by (try simp only [List.map_toArray, List.map_cons, List.map_nil]); first | done | rfl | (simp only [List.length_drop, List.length_take]; rfl)) ?_; (with_reducible refine (laws_markInt64S.calls kj12 (fun k_ => some k_ = (.slice Ao21 t537.length co21 : Value).ownBlock) (.slice Ao21 t537.length co21) t537 1 t556 t557 w _ ?side1 ?side2 A37.out).mono ?_); (case side1 => repeat (first | (with_reducible first | exact HB.out | apply below_alloc | apply pw_below_drewN | apply below_drew1) | exact HB.out)); (case side2 => exact Kd.R_tight rfl HO_10.out); rintro e w45 ⟨rfl, hy0, hb, hkp⟩; refine ⟨_, rfl, ?_⟩; have n0_ := Aside0.mk (Kd.R_mono (ok' := fun k_ => some k_ ≠ (.slice Ao21 t537.length co21 : Value).ownBlock ∧ some k_ ≠ (v545 : Value).ownBlock ∧ some k_ ≠ (.slice Ao41 t548.length co41 : Value).ownBlock) (Kd.R_keptB (HO_8.out) hkp (fun k_ hk_ hs_ => (hk_.1.1) hs_)) (fun k_ hk_ => ⟨hk_.1.1.1, hk_.1.1.2, hk_.1.2⟩)); have n1_ := Aside0.mk (Kd.R_reok rfl hy0 (fun k_ e_ => HO_10.out.1 k_ e_)); have n2_ := Aside0.mk (Kd.R_mono (ok' := fun k_ => some k_ ≠ (.slice Ao43 t552.length co43 : Value).ownBlock) (Kd.R_keptB ((Kd.R_apart' HO_11.out (Kd.R_typed HO_10.out) (by decide))) hkp (fun k_ hk_ hs_ => (hk_.2) hs_)) (fun k_ hk_ => hk_.1.1.2)); have n3_ := Aside0.mk (Kd.R_mono (ok' := fun k_ => some k_ ≠ (v535 : Value).ownBlock ∧ some k_ ≠ (.slice Ao21 t537.length co21 : Value).ownBlock ∧ some k_ ≠ (.slice Ao41 t548.length co41 : Value).ownBlock) (Kd.R_keptB (HO_12.out) hkp (fun k_ hk_ hs_ => (hk_.1.2) hs_)) (fun k_ hk_ => ⟨hk_.1.1.1, hk_.1.1.2, hk_.1.2⟩)); have n4_ := Aside0.mk (Kd.R_mono (ok' := fun k_ => some k_ ≠ (v535 : Value).ownBlock ∧ some k_ ≠ (.slice Ao21 t537.length co21 : Value).ownBlock ∧ some k_ ≠ (v545 : Value).ownBlock) (Kd.R_keptB (HO550.out) hkp (fun k_ hk_ hs_ => (hk_.1.2) hs_)) (fun k_ hk_ => ⟨hk_.1.1.1.2, hk_.1.1.2, hk_.1.2⟩)); have n5_ := Aside0.mk (Kd.R_mono (ok' := fun k_ => some k_ ≠ (.slice Ao22 t540.length co22 : Value).ownBlock) (Kd.R_keptB ((Kd.R_apart' HO554.out (Kd.R_typed HO_10.out) (by decide))) hkp (fun k_ hk_ hs_ => (hk_.2) hs_)) (fun k_ hk_ => hk_.1.1.2)); have n6_ := Aside0.mk (hb); clear HO_8; clear HO_10; clear HO_11; clear HO_12; clear HO550; clear HO554; clear HB; have HO_8 := n0_; have HO_10 := n1_; have HO_11 := n2_; have HO_12 := n3_; have HO550 := n4_; have HO554 := n5_; have HB := n6_; clear n0_ n1_ n2_ n3_ n4_ n5_ n6_; (try clear hb); (try clear hkp); (try clear hy0)) | ((with_reducible refine gate_callee (f := 32) rfl ?_); refine goesL_ (some 71) rfl rfl Try.func32 (by kernel_rfl) rfl #[.slice Ao22 t540.length co22, .int .i64 t556] rfl (by (try simp only [List.map_toArray, List.map_cons, List.map_nil]); first | done | rfl | (simp only [List.length_drop, List.length_take]; rfl)) ?_; (with_reducible refine (laws_markNoteS.calls kj12 (fun k_ => some k_ = (.slice Ao22 t540.length co22 : Value).ownBlock) (.slice Ao22 t540.length co22) t540 t556 t558 t559 w _ ?side1 ?side2 A38.out).mono ?_); (case side1 => repeat (first | (with_reducible first | exact HB.out | apply below_alloc | apply pw_below_drewN | apply below_drew1) | exact HB.out)); (case side2 => exact Kd.R_tight rfl HO_11.out); rintro e w46 ⟨rfl, hy0, hb, hkp⟩; refine ⟨_, rfl, ?_⟩; have n0_ := Aside0.mk (Kd.R_mono (ok' := fun k_ => some k_ ≠ (.slice Ao21 t537.length co21 : Value).ownBlock ∧ some k_ ≠ (v545 : Value).ownBlock ∧ some k_ ≠ (.slice Ao41 t548.length co41 : Value).ownBlock) (Kd.R_keptB ((Kd.R_apart' HO_8.out (Kd.R_typed HO_11.out) (by decide))) hkp (fun k_ hk_ hs_ => (hk_.2) hs_)) (fun k_ hk_ => ⟨hk_.1.1.1, hk_.1.1.2.1, hk_.1.1.2.2⟩)); have n1_ := Aside0.mk (Kd.R_mono (ok' := fun k_ => some k_ ≠ (v535 : Value).ownBlock ∧ some k_ ≠ (v545 : Value).ownBlock ∧ some k_ ≠ (.slice Ao41 t548.length co41 : Value).ownBlock) (Kd.R_keptB ((Kd.R_apart' HO_10.out (Kd.R_typed HO_11.out) (by decide))) hkp (fun k_ hk_ hs_ => (hk_.2) hs_)) (fun k_ hk_ => ⟨hk_.1.1.1.1, hk_.1.1.1.2, hk_.1.1.2⟩)); have n2_ := Aside0.mk (Kd.R_reok rfl hy0 (fun k_ e_ => HO_11.out.1 k_ e_)); have n3_ := Aside0.mk (Kd.R_mono (ok' := fun k_ => some k_ ≠ (v535 : Value).ownBlock ∧ some k_ ≠ (.slice Ao21 t537.length co21 : Value).ownBlock ∧ some k_ ≠ (.slice Ao41 t548.length co41 : Value).ownBlock) (Kd.R_keptB ((Kd.R_apart' HO_12.out (Kd.R_typed HO_11.out) (by decide))) hkp (fun k_ hk_ hs_ => (hk_.2) hs_)) (fun k_ hk_ => ⟨hk_.1.1.1, hk_.1.1.2.1, hk_.1.1.2.2⟩)); have n4_ := Aside0.mk (Kd.R_mono (ok' := fun k_ => some k_ ≠ (v535 : Value).ownBlock ∧ some k_ ≠ (.slice Ao21 t537.length co21 : Value).ownBlock ∧ some k_ ≠ (v545 : Value).ownBlock) (Kd.R_keptB ((Kd.R_apart' HO550.out (Kd.R_typed HO_11.out) (by decide))) hkp (fun k_ hk_ hs_ => (hk_.2) hs_)) (fun k_ hk_ => ⟨hk_.1.1.1, hk_.1.1.2.1, hk_.1.1.2.2⟩)); have n5_ := Aside0.mk (Kd.R_mono (ok' := fun k_ => some k_ ≠ (.slice Ao22 t540.length co22 : Value).ownBlock) (Kd.R_keptB (HO554.out) hkp (fun k_ hk_ hs_ => (hk_) hs_)) (fun k_ hk_ => hk_.1)); have n6_ := Aside0.mk (hb); clear HO_8; clear HO_10; clear HO_11; clear HO_12; clear HO550; clear HO554; clear HB; have HO_8 := n0_; have HO_10 := n1_; have HO_11 := n2_; have HO_12 := n3_; have HO550 := n4_; have HO554 := n5_; have HB := n6_; clear n0_ n1_ n2_ n3_ n4_ n5_ n6_; (try clear hb); (try clear hkp); (try clear hy0)))
                (try simp only [Act.put, List.setIfInBounds_toArray, List.set_cons_zero, List.set_cons_succ])
                go_cut [84] (fun v84 wc => ∃ (kq : Nat) (x84_38 : Bool), v84 = .bool x84_38 ∧ Aside0 (laws_FnExactResonanceCurve.j1 kq l0 l1 a2 t533 t534 t543 x84_38 = some r) ∧ Aside0 (kq ≤ kj12) ∧ Aside0 (Kd.R (Kd.int .i64) 2 wc w.heap.size (fun k_ => some k_ ≠ (v545 : Value).ownBlock) v535 t533) ∧ Aside0 (Kd.R (Kd.int .i64) 2 wc w.heap.size (fun k_ => some k_ ≠ (v535 : Value).ownBlock) v545 t543) ∧ Aside0 (Below w.heap.size w wc))
                case first =>
                  have H := HC39.out
                  clear HC39
                  by_cases c47 : t558 < 0
                  · rw [if_pos c47] at H
                    have c47b0 : decide (t558 < 0) = true := decide_eq_true c47
                    clear c47
                    (first | rw [c47b0] | (simp only [i64_w, i32_w]; rw [c47b0]) | skip)
                    have H' := Aside0.mk H
                    clear H
                    go_wp2
                    go_meet
                    case rel => exact ⟨_, (true), (by first | rfl | (simp; done) | (simp [*]; done)), H', ⟨by have := HJ12.out; first | omega | exact Nat.le_refl _⟩, ⟨by (with_reducible repeat (first | apply Kd.R_alloc | apply Kd.R_drewN | apply Kd.R_drew)); exact Kd.R_mono HO_8.out (fun _ hk => hk.2.1)⟩, ⟨by (with_reducible repeat (first | apply Kd.R_alloc | apply Kd.R_drewN | apply Kd.R_drew)); exact Kd.R_mono HO_12.out (fun _ hk => hk.1)⟩, ⟨by repeat (first | (with_reducible first | exact HB.out | apply below_alloc | apply pw_below_drewN | apply below_drew1) | exact HB.out)⟩⟩
                  · rw [if_neg c47] at H
                    have c47b0 : decide (t558 < 0) = false := decide_eq_false c47
                    clear c47
                    (first | rw [c47b0] | (simp only [i64_w, i32_w]; rw [c47b0]) | skip)
                    replace H := Option.bind_eq_some_iff.mp H
                    obtain ⟨t560, A480, H⟩ := H
                    replace H : (if t560 = true then (laws_FnExactResonanceCurve.j1 kj12 l0 l1 a2 t533 t534 t543 (t544 != t534)) else (laws_FnExactResonanceCurve.j1 kj12 l0 l1 a2 t533 t534 t543 true)) = some r := H
                    have A48 := Aside0.mk A480
                    clear A480
                    by_cases c49 : t560 = true
                    · subst c49
                      have H1 : (laws_FnExactResonanceCurve.j1 kj12 l0 l1 a2 t533 t534 t543 (t544 != t534)) = some r := by rw [if_pos rfl] at H; exact H
                      clear H
                      have H := H1
                      clear H1
                      have H' := Aside0.mk H
                      clear H
                      obtain ⟨Ao50, co50, eo50⟩ := Kd.R_slice HO_12.out
                      subst eo50
                      obtain ⟨Ao51, co51, eo51⟩ := Kd.R_slice HO_8.out
                      subst eo51
                      go_wp2_with (first | (go_at_call 23; (with_reducible refine (laws_eqInt64S.calls kj12 _ _ t543 _ _ t533 true _ ?side1 ?side2 ?side3 ?side4 A48.out).mono ?_); (case side1 => repeat (first | exact (Kd.R_reads' HO_12.out).2.2 | (with_reducible refine Kd.C_alloc ?_ _) | (with_reducible refine Kd.C_drewN ?_ _) | (with_reducible refine Kd.C_drew ?_))); (case side2 => exact (Kd.R_reads' HO_12.out).2.1); (case side3 => repeat (first | exact (Kd.R_reads' HO_8.out).2.2 | (with_reducible refine Kd.C_alloc ?_ _) | (with_reducible refine Kd.C_drewN ?_ _) | (with_reducible refine Kd.C_drew ?_))); (case side4 => exact (Kd.R_reads' HO_8.out).2.1); rintro e w' ⟨rfl, ⟨nd, rfl⟩⟩))
                      go_meet
                      case rel => exact ⟨_, ((t544 != t534)), (by first | rfl | (simp; done) | (simp [*]; done)), H', ⟨by have := HJ12.out; first | omega | exact Nat.le_refl _⟩, ⟨by (with_reducible repeat (first | apply Kd.R_alloc | apply Kd.R_drewN | apply Kd.R_drew)); exact Kd.R_mono HO_8.out (fun _ hk => hk.2.1)⟩, ⟨by (with_reducible repeat (first | apply Kd.R_alloc | apply Kd.R_drewN | apply Kd.R_drew)); exact Kd.R_mono HO_12.out (fun _ hk => hk.1)⟩, ⟨by repeat (first | (with_reducible first | exact HB.out | apply below_alloc | apply pw_below_drewN | apply below_drew1) | exact HB.out)⟩⟩
                    · replace c49 := Bool.eq_false_iff.mpr c49
                      subst c49
                      have H1 : (laws_FnExactResonanceCurve.j1 kj12 l0 l1 a2 t533 t534 t543 true) = some r := by rw [if_neg (show ¬ (false = true) by decide)] at H; exact H
                      clear H
                      have H := H1
                      clear H1
                      have H' := Aside0.mk H
                      clear H
                      obtain ⟨Ao52, co52, eo52⟩ := Kd.R_slice HO_12.out
                      subst eo52
                      obtain ⟨Ao53, co53, eo53⟩ := Kd.R_slice HO_8.out
                      subst eo53
                      go_wp2_with (first | (go_at_call 23; (with_reducible refine (laws_eqInt64S.calls kj12 _ _ t543 _ _ t533 false _ ?side1 ?side2 ?side3 ?side4 A48.out).mono ?_); (case side1 => repeat (first | exact (Kd.R_reads' HO_12.out).2.2 | (with_reducible refine Kd.C_alloc ?_ _) | (with_reducible refine Kd.C_drewN ?_ _) | (with_reducible refine Kd.C_drew ?_))); (case side2 => exact (Kd.R_reads' HO_12.out).2.1); (case side3 => repeat (first | exact (Kd.R_reads' HO_8.out).2.2 | (with_reducible refine Kd.C_alloc ?_ _) | (with_reducible refine Kd.C_drewN ?_ _) | (with_reducible refine Kd.C_drew ?_))); (case side4 => exact (Kd.R_reads' HO_8.out).2.1); rintro e w' ⟨rfl, ⟨nd, rfl⟩⟩))
                      go_meet
                      case rel => exact ⟨_, (true), (by first | rfl | (simp; done) | (simp [*]; done)), H', ⟨by have := HJ12.out; first | omega | exact Nat.le_refl _⟩, ⟨by (with_reducible repeat (first | apply Kd.R_alloc | apply Kd.R_drewN | apply Kd.R_drew)); exact Kd.R_mono HO_8.out (fun _ hk => hk.2.1)⟩, ⟨by (with_reducible repeat (first | apply Kd.R_alloc | apply Kd.R_drewN | apply Kd.R_drew)); exact Kd.R_mono HO_12.out (fun _ hk => hk.1)⟩, ⟨by repeat (first | (with_reducible first | exact HB.out | apply below_alloc | apply pw_below_drewN | apply below_drew1) | exact HB.out)⟩⟩
                case rest =>
                  clear HC39
                  try clear c1
                  try clear c2
                  try clear p2
                  try clear c3
                  try clear c4
                  try clear c4b0
                  try clear c4b1
                  try clear c6
                  try clear c6b0
                  try clear c10
                  try clear c15
                  try clear c17
                  try clear c19
                  try clear c21
                  try clear c23
                  try clear c25
                  try clear c30
                  try clear c32
                  try clear c33
                  try clear c36
                  try clear c40
                  try clear c41
                  try clear c47
                  try clear c47b0
                  try clear c49
                  try clear p2
                  obtain ⟨kq, x84_38, rfl, HA, HJ38, HO_8, HO_12, HB⟩ := hcut
                  cases kq with
                  | zero => exact absurd HA.out (by simp [laws_FnExactResonanceCurve.j1])
                  | succ kj38 =>
                    have H := HA.out
                    clear HA
                    simp only [laws_FnExactResonanceCurve.j1] at H
                    by_cases c54 : x84_38 = true
                    · subst c54
                      have H1 : (some false) = some r := by rw [if_pos rfl] at H; exact H
                      clear H
                      have H := H1
                      clear H1
                      exact absurd ((Option.some.inj H).trans HT.out) (by decide)
                    · replace c54 := Bool.eq_false_iff.mpr c54
                      subst c54
                      have H1 : ((laws_markInt64S.f kj38 t543 1).bind fun bt561 => ((laws_heldInt64S.f kj38 bt561.2 1).bind fun t563 => (if t563 < 0 then (some false) else (if t563 = bt561.1 then ((laws_toInt64S.f kj38 l0).bind fun t564 => ((laws_toNoteS.f kj38 l1).bind fun t567 => ((impl_ResonanceCurve.f kj38 t564 t567 a2).bind fun bt570 => ((laws_eqInt64S.f kj38 bt570.1 t533).bind fun t574 => (if t574 = true then (laws_FnExactResonanceCurve.j2 kj38 bt561.2 bt561.1 (bt570.2 != t534)) else (laws_FnExactResonanceCurve.j2 kj38 bt561.2 bt561.1 true)))))) else (some false))))) = some r := by rw [if_neg (show ¬ (false = true) by decide)] at H; exact H
                      clear H
                      have H := H1
                      clear H1
                      replace H := Option.bind_eq_some_iff.mp H
                      obtain ⟨⟨t561, t562⟩, A550, H⟩ := H
                      replace H : ((laws_heldInt64S.f kj38 t562 1).bind fun t563 => (if t563 < 0 then (some false) else (if t563 = t561 then ((laws_toInt64S.f kj38 l0).bind fun t564 => ((laws_toNoteS.f kj38 l1).bind fun t567 => ((impl_ResonanceCurve.f kj38 t564 t567 a2).bind fun bt570 => ((laws_eqInt64S.f kj38 bt570.1 t533).bind fun t574 => (if t574 = true then (laws_FnExactResonanceCurve.j2 kj38 t562 t561 (bt570.2 != t534)) else (laws_FnExactResonanceCurve.j2 kj38 t562 t561 true)))))) else (some false)))) = some r := H
                      have A55 := Aside0.mk A550
                      clear A550
                      replace H := Option.bind_eq_some_iff.mp H
                      obtain ⟨t563, A560, H⟩ := H
                      replace H : (if t563 < 0 then (some false) else (if t563 = t561 then ((laws_toInt64S.f kj38 l0).bind fun t564 => ((laws_toNoteS.f kj38 l1).bind fun t567 => ((impl_ResonanceCurve.f kj38 t564 t567 a2).bind fun bt570 => ((laws_eqInt64S.f kj38 bt570.1 t533).bind fun t574 => (if t574 = true then (laws_FnExactResonanceCurve.j2 kj38 t562 t561 (bt570.2 != t534)) else (laws_FnExactResonanceCurve.j2 kj38 t562 t561 true)))))) else (some false))) = some r := H
                      have A56 := Aside0.mk A560
                      clear A560
                      by_cases c57 : t563 < 0
                      · rw [if_pos c57] at H
                        have c57b0 : decide (t563 < 0) = true := decide_eq_true c57
                        clear c57
                        exact absurd ((Option.some.inj H).trans HT.out) (by decide)
                      · rw [if_neg c57] at H
                        have c57b0 : decide (t563 < 0) = false := decide_eq_false c57
                        clear c57
                        by_cases c58 : t563 = t561
                        · rw [if_pos c58] at H
                          have c58b0 : (t563 == t561) = true := beq_iff_eq.mpr c58
                          have c58b1 : (t563 != t561) = false := bne_eq_false_iff_eq.mpr c58
                          clear c58
                          replace H := Option.bind_eq_some_iff.mp H
                          obtain ⟨t564, A590, H⟩ := H
                          replace H : ((laws_toNoteS.f kj38 l1).bind fun t567 => ((impl_ResonanceCurve.f kj38 t564 t567 a2).bind fun bt570 => ((laws_eqInt64S.f kj38 bt570.1 t533).bind fun t574 => (if t574 = true then (laws_FnExactResonanceCurve.j2 kj38 t562 t561 (bt570.2 != t534)) else (laws_FnExactResonanceCurve.j2 kj38 t562 t561 true))))) = some r := H
                          have A59 := Aside0.mk A590
                          clear A590
                          replace H := Option.bind_eq_some_iff.mp H
                          obtain ⟨t567, A600, H⟩ := H
                          replace H : ((impl_ResonanceCurve.f kj38 t564 t567 a2).bind fun bt570 => ((laws_eqInt64S.f kj38 bt570.1 t533).bind fun t574 => (if t574 = true then (laws_FnExactResonanceCurve.j2 kj38 t562 t561 (bt570.2 != t534)) else (laws_FnExactResonanceCurve.j2 kj38 t562 t561 true)))) = some r := H
                          have A60 := Aside0.mk A600
                          clear A600
                          replace H := Option.bind_eq_some_iff.mp H
                          obtain ⟨⟨t570, t571⟩, A610, H⟩ := H
                          replace H : ((laws_eqInt64S.f kj38 t570 t533).bind fun t574 => (if t574 = true then (laws_FnExactResonanceCurve.j2 kj38 t562 t561 (t571 != t534)) else (laws_FnExactResonanceCurve.j2 kj38 t562 t561 true))) = some r := H
                          have A61 := Aside0.mk A610
                          clear A610
                          have HC62 := Aside0.mk H
                          clear H
                          obtain ⟨Ao63, co63, eo63⟩ := Kd.R_slice HO_12.out
                          subst eo63
                          go_upto_region 31 with (first | ((with_reducible refine gate_callee (f := 33) rfl ?_); refine goesL_ (some 87) rfl rfl Try.func33 (by kernel_rfl) rfl #[.slice Ao63 t543.length co63, .int .i64 1] rfl (by (try simp only [List.map_toArray, List.map_cons, List.map_nil]); first | done | rfl | (simp only [List.length_drop, List.length_take]; rfl)) ?_; (with_reducible refine (laws_markInt64S.calls kj38 (fun k_ => some k_ = (.slice Ao63 t543.length co63 : Value).ownBlock) (.slice Ao63 t543.length co63) t543 1 t561 t562 w _ ?side1 ?side2 A55.out).mono ?_); (case side1 => repeat (first | (with_reducible first | exact HB.out | apply below_alloc | apply pw_below_drewN | apply below_drew1) | exact HB.out)); (case side2 => exact Kd.R_tight rfl HO_12.out); rintro e w64 ⟨rfl, hy0, hb, hkp⟩; refine ⟨_, rfl, ?_⟩; have n0_ := Aside0.mk (Kd.R_mono (ok' := fun k_ => some k_ ≠ (.slice Ao63 t543.length co63 : Value).ownBlock) (Kd.R_keptB (HO_8.out) hkp (fun k_ hk_ hs_ => (hk_) hs_)) (fun k_ hk_ => hk_.1)); have n1_ := Aside0.mk (Kd.R_reok rfl hy0 (fun k_ e_ => HO_12.out.1 k_ e_)); have n2_ := Aside0.mk (hb); clear HO_8; clear HO_12; clear HB; have HO_8 := n0_; have HO_12 := n1_; have HB := n2_; clear n0_ n1_ n2_; (try clear hb); (try clear hkp); (try clear hy0)) | ((with_reducible refine gate_callee (f := 34) rfl ?_); refine goesL_ (some 90) rfl rfl Try.func34 (by kernel_rfl) rfl #[.slice Ao63 t562.length co63, .int .i64 1] rfl (by (try simp only [List.map_toArray, List.map_cons, List.map_nil]); first | done | (rw [show t562.length = t543.length from (Kd.R_reads' HO_12.out).1.symm] <;> rfl) | rfl | (simp only [List.length_drop, List.length_take]; rfl)) ?_; (with_reducible refine (laws_heldInt64S.calls kj38 _ _ t562 1 t563 _ ?side1 ?side2 A56.out).mono ?_); (case side1 => repeat (first | exact (Kd.R_reads' HO_12.out).2.2 | (with_reducible refine Kd.C_alloc ?_ _) | (with_reducible refine Kd.C_drewN ?_ _) | (with_reducible refine Kd.C_drew ?_))); (case side2 => rw [show t562.length = t543.length from (Kd.R_reads' HO_12.out).1.symm]; exact (Kd.R_reads' HO_12.out).2.1); rintro e w' ⟨rfl, ⟨nd, rfl⟩⟩; refine ⟨_, rfl, ?_⟩) | ((with_reducible refine gate_callee (f := 21) rfl ?_); refine goesL_ (some 98) rfl rfl Try.func21 (by kernel_rfl) rfl #[.slice A0 l0.length c0] rfl (by (try simp only [List.map_toArray, List.map_cons, List.map_nil]); first | done | rfl | (simp only [List.length_drop, List.length_take]; rfl)) ?_; (with_reducible refine (laws_toInt64S.calls kj38 _ _ l0 t564 _ ?side1 ?side2 A59.out).mono ?_); (case side1 => repeat (first | exact (Kd.C_below HR0.out (by repeat (first | (with_reducible first | exact HB.out | apply below_alloc | apply pw_below_drewN | apply below_drew1) | exact HB.out))) | (with_reducible refine Kd.C_alloc ?_ _) | (with_reducible refine Kd.C_drewN ?_ _) | (with_reducible refine Kd.C_drew ?_))); (case side2 => exact HC0.out); rintro e w65 ⟨v565, rfl, ho0, hb⟩; refine ⟨_, rfl, ?_⟩; have n0_ := Aside0.mk (Kd.R_elder' (by (with_reducible repeat (first | apply Kd.R_alloc | apply Kd.R_drewN | apply Kd.R_drew)); exact HO_8.out) (Kd.R_base ho0) hb); have n1_ := Aside0.mk (Kd.R_elder' (by (with_reducible repeat (first | apply Kd.R_alloc | apply Kd.R_drewN | apply Kd.R_drew)); exact HO_12.out) (Kd.R_base ho0) hb); have n2_ := Aside0.mk (Kd.R_lower (Kd.R_new' (Kd.R_new' ho0 (Kd.R_lt (by (with_reducible repeat (first | apply Kd.R_alloc | apply Kd.R_drewN | apply Kd.R_drew)); exact HO_8.out))) (Kd.R_lt (by (with_reducible repeat (first | apply Kd.R_alloc | apply Kd.R_drewN | apply Kd.R_drew)); exact HO_12.out))) (below_size (by repeat (first | (with_reducible first | exact HB.out | apply below_alloc | apply pw_below_drewN | apply below_drew1) | exact HB.out)))); have n3_ := Aside0.mk (below_step (by repeat (first | (with_reducible first | exact HB.out | apply below_alloc | apply pw_below_drewN | apply below_drew1) | exact HB.out)) hb); clear HO_8; clear HO_12; clear HB; have HO_8 := n0_; have HO_12 := n1_; have HO566 := n2_; have HB := n3_; clear n0_ n1_ n2_ n3_; (try clear hb); (try clear hb2); (try clear hk); (try clear hi); (try clear ho0)) | ((with_reducible refine gate_callee (f := 17) rfl ?_); refine goesL_ (some 100) rfl rfl Try.func17 (by kernel_rfl) rfl #[.slice A1 l1.length c1] rfl (by (try simp only [List.map_toArray, List.map_cons, List.map_nil]); first | done | rfl | (simp only [List.length_drop, List.length_take]; rfl)) ?_; (with_reducible refine (laws_toNoteS.calls kj38 _ _ l1 t567 _ ?side1 ?side2 A60.out).mono ?_); (case side1 => repeat (first | exact (Kd.C_below HR1.out HB.out) | (with_reducible refine Kd.C_alloc ?_ _) | (with_reducible refine Kd.C_drewN ?_ _) | (with_reducible refine Kd.C_drew ?_))); (case side2 => exact HC1.out); rintro e w66 ⟨v568, rfl, ho0, hb⟩; refine ⟨_, rfl, ?_⟩; have n0_ := Aside0.mk (Kd.R_below (by (with_reducible repeat (first | apply Kd.R_alloc | apply Kd.R_drewN | apply Kd.R_drew)); exact HO_8.out) hb); have n1_ := Aside0.mk (Kd.R_below (by (with_reducible repeat (first | apply Kd.R_alloc | apply Kd.R_drewN | apply Kd.R_drew)); exact HO_12.out) hb); have n2_ := Aside0.mk (Kd.R_below (by (with_reducible repeat (first | apply Kd.R_alloc | apply Kd.R_drewN | apply Kd.R_drew)); exact HO566.out) hb); have n3_ := Aside0.mk (Kd.R_lower ho0 (below_size (by repeat (first | (with_reducible first | exact HB.out | apply below_alloc | apply pw_below_drewN | apply below_drew1) | exact HB.out)))); have n4_ := Aside0.mk (below_step (by repeat (first | (with_reducible first | exact HB.out | apply below_alloc | apply pw_below_drewN | apply below_drew1) | exact HB.out)) hb); clear HO_8; clear HO_12; clear HO566; clear HB; have HO_8 := n0_; have HO_12 := n1_; have HO566 := n2_; have HO569 := n3_; have HB := n4_; clear n0_ n1_ n2_ n3_ n4_; (try clear hb); (try clear hb2); (try clear hk); (try clear hi); (try clear ho0); obtain ⟨Ao67, co67, eo67⟩ := Kd.R_slice HO566.out; subst eo67; obtain ⟨Ao68, co68, eo68⟩ := Kd.R_slice HO569.out; subst eo68) | ((with_reducible refine gate_callee (f := 41) rfl ?_); refine goesL_ (some 102) rfl rfl Try.func41 (by kernel_rfl) rfl #[.slice Ao67 t564.length co67, .slice Ao68 t567.length co68, .int .i64 a2] rfl (by (try simp only [List.map_toArray, List.map_cons, List.map_nil]); first | done | rfl | (simp only [List.length_drop, List.length_take]; rfl)) ?_; (with_reducible refine (impl_ResonanceCurve.calls kj38 _ _ t564 _ _ t567 a2 t570 t571 _ ?side1 ?side2 ?side3 ?side4 A61.out).mono ?_); (case side1 => repeat (first | exact (Kd.R_reads' HO566.out).2.2 | (with_reducible refine Kd.C_alloc ?_ _) | (with_reducible refine Kd.C_drewN ?_ _) | (with_reducible refine Kd.C_drew ?_))); (case side2 => exact (Kd.R_reads' HO566.out).2.1); (case side3 => repeat (first | exact (Kd.R_reads' HO569.out).2.2 | (with_reducible refine Kd.C_alloc ?_ _) | (with_reducible refine Kd.C_drewN ?_ _) | (with_reducible refine Kd.C_drew ?_))); (case side4 => exact (Kd.R_reads' HO569.out).2.1); rintro e w69 ⟨v572, rfl, ho0, hb⟩; refine ⟨_, rfl, ?_⟩; have n0_ := Aside0.mk (Kd.R_elder' (by (with_reducible repeat (first | apply Kd.R_alloc | apply Kd.R_drewN | apply Kd.R_drew)); exact HO_8.out) (Kd.R_base ho0) hb); have n1_ := Aside0.mk (Kd.R_elder' (by (with_reducible repeat (first | apply Kd.R_alloc | apply Kd.R_drewN | apply Kd.R_drew)); exact HO_12.out) (Kd.R_base ho0) hb); have n2_ := Aside0.mk (Kd.R_elder' (by (with_reducible repeat (first | apply Kd.R_alloc | apply Kd.R_drewN | apply Kd.R_drew)); exact HO566.out) (Kd.R_base ho0) hb); have n3_ := Aside0.mk (Kd.R_below (by (with_reducible repeat (first | apply Kd.R_alloc | apply Kd.R_drewN | apply Kd.R_drew)); exact HO569.out) hb); have n4_ := Aside0.mk (Kd.R_lower (Kd.R_new' (Kd.R_new' (Kd.R_new' ho0 (Kd.R_lt (by (with_reducible repeat (first | apply Kd.R_alloc | apply Kd.R_drewN | apply Kd.R_drew)); exact HO_8.out))) (Kd.R_lt (by (with_reducible repeat (first | apply Kd.R_alloc | apply Kd.R_drewN | apply Kd.R_drew)); exact HO_12.out))) (Kd.R_lt (by (with_reducible repeat (first | apply Kd.R_alloc | apply Kd.R_drewN | apply Kd.R_drew)); exact HO566.out))) (below_size (by repeat (first | (with_reducible first | exact HB.out | apply below_alloc | apply pw_below_drewN | apply below_drew1) | exact HB.out)))); have n5_ := Aside0.mk (below_step (by repeat (first | (with_reducible first | exact HB.out | apply below_alloc | apply pw_below_drewN | apply below_drew1) | exact HB.out)) hb); clear HO_8; clear HO_12; clear HO566; clear HO569; clear HB; have HO_8 := n0_; have HO_12 := n1_; have HO566 := n2_; have HO569 := n3_; have HO573 := n4_; have HB := n5_; clear n0_ n1_ n2_ n3_ n4_ n5_; (try clear hb); (try clear hb2); (try clear hk); (try clear hi); (try clear ho0)))
                          (try simp only [Act.put, List.setIfInBounds_toArray, List.set_cons_zero, List.set_cons_succ])
                          go_cut [113] (fun v113 wc => ∃ (kq : Nat) (x113_61 : Bool), v113 = .bool x113_61 ∧ Aside0 (laws_FnExactResonanceCurve.j2 kq t562 t561 x113_61 = some r) ∧ Aside0 (kq ≤ kj38) ∧ Aside0 (Kd.R (Kd.int .i64) 2 wc w.heap.size (fun _ => True) (.slice Ao63 t543.length co63) t562) ∧ Aside0 (Below w.heap.size w wc))
                          case first =>
                            have H := HC62.out
                            clear HC62
                            replace H := Option.bind_eq_some_iff.mp H
                            obtain ⟨t574, A700, H⟩ := H
                            replace H : (if t574 = true then (laws_FnExactResonanceCurve.j2 kj38 t562 t561 (t571 != t534)) else (laws_FnExactResonanceCurve.j2 kj38 t562 t561 true)) = some r := H
                            have A70 := Aside0.mk A700
                            clear A700
                            by_cases c71 : t574 = true
                            · subst c71
                              have H1 : (laws_FnExactResonanceCurve.j2 kj38 t562 t561 (t571 != t534)) = some r := by rw [if_pos rfl] at H; exact H
                              clear H
                              have H := H1
                              clear H1
                              have H' := Aside0.mk H
                              clear H
                              obtain ⟨Ao72, co72, eo72⟩ := Kd.R_slice HO573.out
                              subst eo72
                              obtain ⟨Ao73, co73, eo73⟩ := Kd.R_slice HO_8.out
                              subst eo73
                              go_wp2_with (first | ((with_reducible refine gate_callee (f := 23) rfl ?_); refine goesL_ (some 107) rfl rfl Try.func23 (by kernel_rfl) rfl #[.slice Ao72 t570.length co72, .slice Ao73 t533.length co73] rfl (by (try simp only [List.map_toArray, List.map_cons, List.map_nil]); first | done | rfl | (simp only [List.length_drop, List.length_take]; rfl)) ?_; (with_reducible refine (laws_eqInt64S.calls kj38 _ _ t570 _ _ t533 true _ ?side1 ?side2 ?side3 ?side4 A70.out).mono ?_); (case side1 => repeat (first | exact (Kd.R_reads' HO573.out).2.2 | (with_reducible refine Kd.C_alloc ?_ _) | (with_reducible refine Kd.C_drewN ?_ _) | (with_reducible refine Kd.C_drew ?_))); (case side2 => exact (Kd.R_reads' HO573.out).2.1); (case side3 => repeat (first | exact (Kd.R_reads' HO_8.out).2.2 | (with_reducible refine Kd.C_alloc ?_ _) | (with_reducible refine Kd.C_drewN ?_ _) | (with_reducible refine Kd.C_drew ?_))); (case side4 => exact (Kd.R_reads' HO_8.out).2.1); rintro e w' ⟨rfl, ⟨nd, rfl⟩⟩; refine ⟨_, rfl, ?_⟩))
                              go_meet
                              case rel => exact ⟨_, ((t571 != t534)), (by first | rfl | (simp; done) | (simp [*]; done)), H', ⟨by have := HJ12.out; have := HJ38.out; first | omega | exact Nat.le_refl _⟩, ⟨by (with_reducible repeat (first | apply Kd.R_alloc | apply Kd.R_drewN | apply Kd.R_drew)); exact Kd.R_mono HO_12.out (fun _ hk => trivial)⟩, ⟨by repeat (first | (with_reducible first | exact HB.out | apply below_alloc | apply pw_below_drewN | apply below_drew1) | exact HB.out)⟩⟩
                            · replace c71 := Bool.eq_false_iff.mpr c71
                              subst c71
                              have H1 : (laws_FnExactResonanceCurve.j2 kj38 t562 t561 true) = some r := by rw [if_neg (show ¬ (false = true) by decide)] at H; exact H
                              clear H
                              have H := H1
                              clear H1
                              have H' := Aside0.mk H
                              clear H
                              obtain ⟨Ao74, co74, eo74⟩ := Kd.R_slice HO573.out
                              subst eo74
                              obtain ⟨Ao75, co75, eo75⟩ := Kd.R_slice HO_8.out
                              subst eo75
                              go_wp2_with (first | ((with_reducible refine gate_callee (f := 23) rfl ?_); refine goesL_ (some 107) rfl rfl Try.func23 (by kernel_rfl) rfl #[.slice Ao74 t570.length co74, .slice Ao75 t533.length co75] rfl (by (try simp only [List.map_toArray, List.map_cons, List.map_nil]); first | done | rfl | (simp only [List.length_drop, List.length_take]; rfl)) ?_; (with_reducible refine (laws_eqInt64S.calls kj38 _ _ t570 _ _ t533 false _ ?side1 ?side2 ?side3 ?side4 A70.out).mono ?_); (case side1 => repeat (first | exact (Kd.R_reads' HO573.out).2.2 | (with_reducible refine Kd.C_alloc ?_ _) | (with_reducible refine Kd.C_drewN ?_ _) | (with_reducible refine Kd.C_drew ?_))); (case side2 => exact (Kd.R_reads' HO573.out).2.1); (case side3 => repeat (first | exact (Kd.R_reads' HO_8.out).2.2 | (with_reducible refine Kd.C_alloc ?_ _) | (with_reducible refine Kd.C_drewN ?_ _) | (with_reducible refine Kd.C_drew ?_))); (case side4 => exact (Kd.R_reads' HO_8.out).2.1); rintro e w' ⟨rfl, ⟨nd, rfl⟩⟩; refine ⟨_, rfl, ?_⟩))
                              go_meet
                              case rel => exact ⟨_, (true), (by first | rfl | (simp; done) | (simp [*]; done)), H', ⟨by have := HJ12.out; have := HJ38.out; first | omega | exact Nat.le_refl _⟩, ⟨by (with_reducible repeat (first | apply Kd.R_alloc | apply Kd.R_drewN | apply Kd.R_drew)); exact Kd.R_mono HO_12.out (fun _ hk => trivial)⟩, ⟨by repeat (first | (with_reducible first | exact HB.out | apply below_alloc | apply pw_below_drewN | apply below_drew1) | exact HB.out)⟩⟩
                          case rest =>
                            clear HC62
                            try clear c1
                            try clear c2
                            try clear p2
                            try clear c3
                            try clear c4
                            try clear c4b0
                            try clear c4b1
                            try clear c5
                            try clear c6
                            try clear c6b0
                            try clear c7
                            try clear c10
                            try clear c15
                            try clear c17
                            try clear c19
                            try clear c21
                            try clear c23
                            try clear c25
                            try clear c30
                            try clear c32
                            try clear c33
                            try clear c34
                            try clear c36
                            try clear c40
                            try clear c41
                            try clear c47
                            try clear c47b0
                            try clear c49
                            try clear c54
                            try clear c57
                            try clear c57b0
                            try clear c58
                            try clear c58b0
                            try clear c58b1
                            try clear c71
                            try clear p2
                            obtain ⟨kq, x113_61, rfl, HA, HJ61, HO_12, HB⟩ := hcut
                            have hl12_61 := (Kd.R_reads' HO_12.out).1
                            rw [hl12_61] at HO_12
                            (try simp only [hl12_61])
                            cases kq with
                            | zero => exact absurd HA.out (by simp [laws_FnExactResonanceCurve.j2])
                            | succ kj61 =>
                              have H := HA.out
                              clear HA
                              simp only [laws_FnExactResonanceCurve.j2] at H
                              by_cases c76 : x113_61 = true
                              · subst c76
                                have H1 : (some false) = some r := by rw [if_pos rfl] at H; exact H
                                clear H
                                have H := H1
                                clear H1
                                exact absurd ((Option.some.inj H).trans HT.out) (by decide)
                              · replace c76 := Bool.eq_false_iff.mpr c76
                                subst c76
                                have H1 : ((laws_heldInt64S.f kj61 t562 1).bind fun t575 => (if t575 < 0 then (some false) else (if t575 = t561 then (some true) else (some false)))) = some r := by rw [if_neg (show ¬ (false = true) by decide)] at H; exact H
                                clear H
                                have H := H1
                                clear H1
                                replace H := Option.bind_eq_some_iff.mp H
                                obtain ⟨t575, A770, H⟩ := H
                                replace H : (if t575 < 0 then (some false) else (if t575 = t561 then (some true) else (some false))) = some r := H
                                have A77 := Aside0.mk A770
                                clear A770
                                by_cases c78 : t575 < 0
                                · rw [if_pos c78] at H
                                  have c78b0 : decide (t575 < 0) = true := decide_eq_true c78
                                  have c78b2 := c78b0; (try simp only [hl12_61] at c78b2)
                                  clear c78
                                  exact absurd ((Option.some.inj H).trans HT.out) (by decide)
                                · rw [if_neg c78] at H
                                  have c78b0 : decide (t575 < 0) = false := decide_eq_false c78
                                  have c78b2 := c78b0; (try simp only [hl12_61] at c78b2)
                                  clear c78
                                  by_cases c79 : t575 = t561
                                  · rw [if_pos c79] at H
                                    have c79b0 : (t575 == t561) = true := beq_iff_eq.mpr c79
                                    have c79b1 : (t575 != t561) = false := bne_eq_false_iff_eq.mpr c79
                                    clear c79
                                    obtain rfl := Option.some.inj H
                                    go_wp2_with (first | ((with_reducible refine gate_callee (f := 34) rfl ?_); refine goesL_ (some 116) rfl rfl Try.func34 (by kernel_rfl) rfl #[.slice Ao63 t562.length co63, .int .i64 1] rfl (by (try simp only [List.map_toArray, List.map_cons, List.map_nil]); first | done | rfl | (simp only [List.length_drop, List.length_take]; rfl)) ?_; (with_reducible refine (laws_heldInt64S.calls kj61 _ _ t562 1 t575 _ ?side1 ?side2 A77.out).mono ?_); (case side1 => repeat (first | exact (Kd.R_reads' HO_12.out).2.2 | (with_reducible refine Kd.C_alloc ?_ _) | (with_reducible refine Kd.C_drewN ?_ _) | (with_reducible refine Kd.C_drew ?_))); (case side2 => exact (Kd.R_reads' HO_12.out).2.1); rintro e w' ⟨rfl, ⟨nd, rfl⟩⟩; refine ⟨_, rfl, ?_⟩))
                                    go_ret
                                    exact ⟨by first | rfl | (simp [errW_none, errW_some] <;> rfl) | (simp [*, errW_none, errW_some] <;> rfl), by repeat (first | (with_reducible first | exact HB.out | apply below_alloc | apply pw_below_drewN | apply below_drew1) | exact HB.out)⟩
                                  · rw [if_neg c79] at H
                                    have c79b0 : (t575 == t561) = false := beq_eq_false_iff_ne.mpr c79
                                    have c79b1 : (t575 != t561) = true := bne_iff_ne.mpr c79
                                    exact absurd ((Option.some.inj H).trans HT.out) (by decide)
                        · rw [if_neg c58] at H
                          have c58b0 : (t563 == t561) = false := beq_eq_false_iff_ne.mpr c58
                          have c58b1 : (t563 != t561) = true := bne_iff_ne.mpr c58
                          exact absurd ((Option.some.inj H).trans HT.out) (by decide)
              · replace c36 := Bool.eq_false_iff.mpr c36
                subst c36
                have H1 : (some false) = some r := by rw [if_neg (show ¬ (false = true) by decide)] at H; exact H
                clear H
                have H := H1
                clear H1
                exact absurd ((Option.some.inj H).trans HT.out) (by decide)
            · replace c33 := Bool.eq_false_iff.mpr c33
              subst c33
              have H1 : (some false) = some r := by rw [if_neg (show ¬ (false = true) by decide)] at H; exact H
              clear H
              have H := H1
              clear H1
              exact absurd ((Option.some.inj H).trans HT.out) (by decide)

/-- THE ONE PURE STATEMENT of laws_FnExactResonanceCurve. -/
def laws_FnExactResonanceCurve.Pure : Prop := ∀ (l0 : List Int) (l1 : List (S77)) (a2 : Int), (l0.length ≤ maxLen ∧ ∀ y0 ∈ l0, (Lit.int .i64 y0).wf = true) → (l1.length ≤ maxLen ∧ ∀ y0 ∈ l1, ((Lit.int .i64 y0.f0).wf = true ∧ (Lit.int .i64 y0.f1).wf = true)) → (Lit.int .i64 a2).wf = true → ∃ k, laws_FnExactResonanceCurve.f k l0 l1 a2 = some true
theorem laws_FnExactResonanceCurve.walk (P : laws_FnExactResonanceCurve.Pure) (A0 : Option Addr) (c0 : Nat) (l0 : List Int) (A1 : Option Addr) (c1 : Nat) (l1 : List (S77)) (a2 : Int) (w : World) (hr0 : Kd.C (Kd.int .i64) w A0 l0.length l0) (hc0 : l0.length ≤ c0) (hr1 : Kd.C k77 w A1 l1.length l1) (hc1 : l1.length ≤ c1) (w0 : (l0.length ≤ maxLen ∧ ∀ y0 ∈ l0, (Lit.int .i64 y0).wf = true)) (w1 : (l1.length ≤ maxLen ∧ ∀ y0 ∈ l1, ((Lit.int .i64 y0.f0).wf = true ∧ (Lit.int .i64 y0.f1).wf = true))) (w2 : (Lit.int .i64 a2).wf = true) :
    Calls Try.prog 10 #[.slice A0 l0.length c0, .slice A1 l1.length c1, .int .i64 a2] w fun e w' => e = .returned (.bool true) ∧ Below w.heap.size w w' := by
  obtain ⟨k, h⟩ := P l0 l1 a2 w0 w1 w2
  refine (laws_FnExactResonanceCurve.calls k _ _ l0 _ _ l1 a2 true w hr0 hc0 hr1 hc1 rfl h).mono ?_
  rintro e w' ⟨rfl, hd⟩
  exact ⟨rfl, hd⟩

end Go.Proofs.Ytlgigomahobfbaa.P
end

section
namespace Go.Proofs.Ytlgigomahobfbaa.Pure
open Go.RowKit Go.Proofs.Ytlgigomahobfbaa.P Go.Proofs.YtlgigomahobfbaaW.PrintWords Go.Proofs.YtlgigomahobfbaaW.PrintLast Go.Proofs.YtlgigomahobfbaaW.PrintMore
set_option linter.unusedVariables false
set_option linter.unusedSimpArgs false

theorem curve_loop (l : List Int) (m : List S75) (dc : Int) (h : stringsB l = true) (hm : melB m = true) (d0 : 0 ≤ dc) (d1 : dc ≤ 1000) (hn : (unitsM m).length ≤ 3072) : ∀ (d i : Nat) (acc : List Int) (x : Int), (unitsM m).length - i = d → i ≤ (unitsM m).length → acc.length = i → 0 ≤ x → x ≤ 960 * i →
    ∃ r, r.length ≤ 3072 ∧ Ev (fun k => spec_ResonanceCurve.l0 k l dc (unitsM m) acc x i) (r, 0) ∧ Ev (fun k => impl_ResonanceCurve.l0 k l dc acc x (unitsM m) ((unitsM m).length : Int) i) (r, 0) := by
  have hl := (stringsB_rd h).1
  intro d
  induction d with
  | zero =>
    intro i acc x hd hi ha h0 h1
    refine ⟨acc, by omega, ?_, ?_⟩
    · refine Ev.succ ?_
      simp only [spec_ResonanceCurve.l0]
      exact Ev.ite_neg (by omega) (Ev.now _)
    · refine Ev.succ ?_
      simp only [impl_ResonanceCurve.l0]
      exact Ev.ite_neg (by omega) (Ev.now _)
  | succ d ih =>
    intro i acc x hd hi ha h0 h1
    have hp := unitsM_rd m (melB_all hm).1 i (by omega)
    have hq : -1000 ≤ rd (unitsM m) i ∧ rd (unitsM m) i ≤ 1000 := by
      simp [inP] at hp
      omega
    have hr := resM_bound l (rd (unitsM m) i) l.length 0
    have n0 : 0 ≤ x * dc := Int.mul_nonneg h0 d0
    have n1 : x * dc ≤ x * 1000 := Int.mul_le_mul_of_nonneg_left d1 h0
    have q0 : 0 ≤ (2 * (x * dc) + 1000) / (2 * 1000) := Int.ediv_nonneg (by omega) (by omega)
    have q1 : (2 * (x * dc) + 1000) / (2 * 1000) ≤ x := by omega
    obtain ⟨q, hqq⟩ : ∃ q, q = (2 * (x * dc) + 1000) / (2 * 1000) := ⟨_, rfl⟩
    rw [← hqq] at q0 q1
    obtain ⟨t, ht⟩ : ∃ t, t = resM l (rd (unitsM m) i) l.length 0 := ⟨_, rfl⟩
    rw [← ht] at hr
    obtain ⟨r, r1, r2, r3⟩ := ih (i + 1) (acc ++ [x - q + 10 * t]) (x - q + 10 * t) (by omega) (by omega) (by simp; omega) (by omega) (by omega)
    refine ⟨r, r1, ?_, ?_⟩
    · refine Ev.succ ?_
      simp only [spec_ResonanceCurve.l0]
      rw [w64 (x := x * dc) (by omega) (by omega)]
      refine Ev.ite_pos (by omega) (Ev.bindc (spec_l01Div_eq _ _ n0 (by omega) (by omega) (by omega)) (Ev.ite_pos (by omega) (Ev.bind (spec_l16Resonance_ev l _ h hq) (Ev.ite_pos (by omega) ?_))))
      rw [← hqq, ← ht, w64 (x := x - q) (by omega) (by omega), w64 (x := 10 * t) (by omega) (by omega), w64 (x := x - q + 10 * t) (by omega) (by omega), w64 (x := (i : Int) + 1) (by omega) (by omega)]
      simpa using r2
    · refine Ev.succ ?_
      simp only [impl_ResonanceCurve.l0]
      rw [w64 (x := x * dc) (by omega) (by omega)]
      refine Ev.ite_pos (by omega) (Ev.ite_pos (by omega) (Ev.ite_pos (by omega) (Ev.bind (impl_resonanceOf_ev l _ h hq) (Ev.bindc (impl_divRound_eq _ _ n0 (by omega) (by omega) (by omega)) (Ev.ite_pos (by omega) ?_)))))
      rw [← hqq, ← ht, w64 (x := 10 * t) (by omega) (by omega), w64 (x := 10 * t - q) (by omega) (by omega), w64 (x := x + (10 * t - q)) (by omega) (by omega), w64 (x := (i : Int) + 1) (by omega) (by omega), show x + (10 * t - q) = x - q + 10 * t by omega]
      simpa using r3
theorem bothResonanceCurve (l : List Int) (m : List S75) (dc : Int) (hl : l.length ≤ 1048576) (hm : m.length ≤ 1048576) : ∃ r c, r.length ≤ 3072 ∧ Ev (fun k => spec_ResonanceCurve.f k l m dc) (r, c) ∧ Ev (fun k => impl_ResonanceCurve.f k l m dc) (r, c) := by
  unfold spec_ResonanceCurve.f impl_ResonanceCurve.f
  cases h : stringsB l with
  | false =>
    refine ⟨[], 1, by simp, Ev.bind (spec_l16Strings_ev l) (Ev.ite_neg (by rw [h]; decide) (Ev.succ ?_)), Ev.bind (impl_ValidStrings_ev l) (Ev.ite_neg (by rw [h]; decide) (Ev.succ ?_))⟩
    · simp only [spec_ResonanceCurve.j0]
      exact Ev.ite_pos (by decide) (Ev.now _)
    · simp only [impl_ResonanceCurve.j0]
      exact Ev.ite_pos (by decide) (Ev.now _)
  | true =>
    cases g : melB m with
    | false =>
      refine ⟨[], 1, by simp, Ev.bind (spec_l16Strings_ev l) (Ev.ite_pos h (Ev.bind (spec_l09Ok_ev m (by omega)) (Ev.succ ?_))), Ev.bind (impl_ValidStrings_ev l) (Ev.ite_pos h (Ev.bind (impl_ValidMelody_ev m (by omega)) (Ev.succ ?_)))⟩
      · simp only [spec_ResonanceCurve.j0]
        exact Ev.ite_pos (by rw [g]; decide) (Ev.now _)
      · simp only [impl_ResonanceCurve.j0]
        exact Ev.ite_pos (by rw [g]; decide) (Ev.now _)
    | true =>
      have h3 := unitsM_len m (melB_all g).1
      have h4 := (melB_all g).2
      cases hd : (decide (0 ≤ dc) && decide (dc ≤ 1000)) with
      | false =>
        refine ⟨[], 2, by simp, Ev.bind (spec_l16Strings_ev l) (Ev.ite_pos h (Ev.bind (spec_l09Ok_ev m (by omega)) (Ev.succ ?_))), Ev.bind (impl_ValidStrings_ev l) (Ev.ite_pos h (Ev.bind (impl_ValidMelody_ev m (by omega)) (Ev.succ ?_)))⟩
        · simp only [spec_ResonanceCurve.j0]
          exact Ev.ite_neg (by rw [g]; decide) (Ev.bindc (spec_l00In_eq _ _ _) (Ev.ite_neg (by rw [hd]; decide) (Ev.now _)))
        · simp only [impl_ResonanceCurve.j0]
          exact Ev.ite_neg (by rw [g]; decide) (Ev.bindc (impl_within_eq _ _ _) (Ev.ite_neg (by rw [hd]; decide) (Ev.now _)))
      | true =>
        have hd' := hd
        rw [Bool.and_eq_true, decide_eq_true_eq, decide_eq_true_eq] at hd'
        obtain ⟨r, r1, r2, r3⟩ := curve_loop l m dc h g hd'.1 hd'.2 (by omega) (unitsM m).length 0 [] 0 (by omega) (by omega) rfl (by omega) (by omega)
        refine ⟨r, 0, r1, Ev.bind (spec_l16Strings_ev l) (Ev.ite_pos h (Ev.bind (spec_l09Ok_ev m (by omega)) (Ev.succ ?_))), Ev.bind (impl_ValidStrings_ev l) (Ev.ite_pos h (Ev.bind (impl_ValidMelody_ev m (by omega)) (Ev.succ ?_)))⟩
        · simp only [spec_ResonanceCurve.j0]
          exact Ev.ite_neg (by rw [g]; decide) (Ev.bindc (spec_l00In_eq _ _ _) (Ev.ite_pos hd (Ev.bind (spec_l16Units_ev m g) (by simpa using r2))))
        · simp only [impl_ResonanceCurve.j0]
          exact Ev.ite_neg (by rw [g]; decide) (Ev.bindc (impl_within_eq _ _ _) (Ev.ite_pos hd (Ev.bind (impl_unitsOf_ev m g) (by simpa using r3))))
theorem FnExactResonanceCurve : laws_FnExactResonanceCurve.Pure := by
  intro l m dc ⟨hl, _⟩ ⟨hm, _⟩ wdc
  refine Ev.out (r := true) ?_
  unfold laws_FnExactResonanceCurve.f
  by_cases gl : (l.length : Int) > 1048576
  · exact Ev.ite_pos gl (Ev.now _)
  refine Ev.ite_neg gl ?_
  refine Ev.bindc (szNoteS_eq m _ (by omega) (by omega) (Nat.le_trans hm (by decide))) ?_
  by_cases gm : (1048576 : Int) - m.length < 0
  · rw [if_pos gm]
    exact Ev.ite_pos (by omega) (Ev.now _)
  rw [if_neg gm]
  refine Ev.ite_neg gm ?_
  have tl := toInt64S_ev l (by omega)
  have ll : l.length ≤ 1048576 := by omega
  have tm := toNoteS_ev m (by omega)
  have lm : (m.map noteOf).length ≤ 1048576 := by simp; omega
  obtain ⟨r, c, lr, es, ei⟩ := bothResonanceCurve l (m.map noteOf) dc ll lm
  refine Ev.bind tl ?_
  refine Ev.bind tm ?_
  refine Ev.bind es ?_
  refine Ev.bind tl ?_
  refine Ev.bind tm ?_
  refine Ev.bind ei ?_
  refine Ev.bind (eqInt64S_self r (by omega)) ?_
  refine Ev.ite_pos rfl ?_
  refine Ev.succ ?_
  simp only [laws_FnExactResonanceCurve.j0]
  refine Ev.ite_neg (by simp) ?_
  refine Ev.bind tl ?_
  refine Ev.bind (eqInt64S_self l (by omega)) ?_
  refine Ev.ite_pos rfl ?_
  refine Ev.bind tm ?_
  refine Ev.bind (eqNoteS_self (m.map noteOf) (by omega)) ?_
  refine Ev.ite_pos rfl ?_
  refine Ev.bind (markInt64S_ev l (1 : Int) (by omega) (by omega) (by omega)) ?_
  obtain ⟨mm, emm⟩ := markNoteS_ev (m.map noteOf) ((1 : Int) + (l.length : Int)) (by omega) (by omega) (by omega)
  refine Ev.bind emm ?_
  refine Ev.ite_neg (show ¬ ((((1 : Int) + (l.length : Int)) + 2 * ((m.map noteOf).length : Int)) < 0) by omega) ?_
  refine Ev.bind (eqInt64S_self r (by omega)) ?_
  refine Ev.ite_pos rfl ?_
  refine Ev.succ ?_
  simp only [laws_FnExactResonanceCurve.j1]
  refine Ev.ite_neg (by simp) ?_
  refine Ev.bind (markInt64S_ev r 1 (by omega) (by omega) (by omega)) ?_
  refine Ev.bind (heldInt64S_ev r.length 1 (by omega) (by omega) (by omega)) ?_
  refine Ev.ite_neg (by omega) ?_
  refine Ev.ite_pos rfl ?_
  refine Ev.bind tl ?_
  refine Ev.bind tm ?_
  refine Ev.bind ei ?_
  refine Ev.bind (eqInt64S_self r (by omega)) ?_
  refine Ev.ite_pos rfl ?_
  refine Ev.succ ?_
  simp only [laws_FnExactResonanceCurve.j2]
  refine Ev.ite_neg (by simp) ?_
  refine Ev.bind (heldInt64S_ev r.length 1 (by omega) (by omega) (by omega)) ?_
  refine Ev.ite_neg (by omega) ?_
  exact Ev.ite_pos rfl (Ev.now _)

end Go.Proofs.Ytlgigomahobfbaa.Pure
end
