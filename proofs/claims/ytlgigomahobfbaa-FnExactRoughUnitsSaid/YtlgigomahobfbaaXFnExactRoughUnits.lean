/- The pure statement of FnExactRoughUnits. No condition. -/
import Derived.Test.YtlgigomahobfbaaGb1
import Derived.Test.YtlgigomahobfbaaGb2
import Derived.Test.YtlgigomahobfbaaGb3
import Derived.Test.YtlgigomahobfbaaGb4
section
namespace Go.Proofs.Ytlgigomahobfbaa.P
open Go.RowKit Go.Proofs.YtlgigomahobfbaaW.PrintWords Go.Proofs.YtlgigomahobfbaaW.PrintLast Go.Proofs.YtlgigomahobfbaaW.PrintMore
attribute [local go_sem] max2_int min2_int max_two min_two max_three min_three max_four min_four   -- for this text's walks alone
set_option linter.unusedVariables false
set_option linter.unusedSimpArgs false

/-! ### laws_FnExactRoughUnits: function 8 -/
mutual
def laws_FnExactRoughUnits.j0 : Nat → List (S77) → List (S77) → Int → List Int → Int → List (S75) → List (S75) → List Int → Int → Bool → Option (Bool)
  | 0, _, _, _, _, _, _, _, _, _, _ => none
  | k + 1, x0, x1, x2, x8, x9, x10, x11, x12, x13, x57 => if x57 = true then (some false) else ((laws_toNoteS.f k x0).bind fun t429 => ((laws_eqNoteS.f k x10 t429).bind fun t432 => (if t432 = true then ((laws_toNoteS.f k x1).bind fun t433 => ((laws_eqNoteS.f k x11 t433).bind fun t436 => (if t436 = true then ((laws_markNoteS.f k x10 1).bind fun bt437 => ((laws_markNoteS.f k x11 bt437.1).bind fun bt439 => (if bt439.1 < 0 then (laws_FnExactRoughUnits.j1 k x0 x1 x2 x8 x9 x12 true) else ((laws_eqInt64S.f k x12 x8).bind fun t441 => (if t441 = true then (laws_FnExactRoughUnits.j1 k x0 x1 x2 x8 x9 x12 (x13 != x9)) else (laws_FnExactRoughUnits.j1 k x0 x1 x2 x8 x9 x12 true)))))) else (some false)))) else (some false))))
def laws_FnExactRoughUnits.j1 : Nat → List (S77) → List (S77) → Int → List Int → Int → List Int → Bool → Option (Bool)
  | 0, _, _, _, _, _, _, _ => none
  | k + 1, x0, x1, x2, x8, x9, x12, x86 => if x86 = true then (some false) else ((laws_markInt64S.f k x12 1).bind fun bt442 => ((laws_heldInt64S.f k bt442.2 1).bind fun t444 => (if t444 < 0 then (some false) else (if t444 = bt442.1 then ((laws_toNoteS.f k x0).bind fun t445 => ((laws_toNoteS.f k x1).bind fun t448 => ((impl_RoughUnits.f k t445 t448 x2).bind fun bt451 => ((laws_eqInt64S.f k bt451.1 x8).bind fun t455 => (if t455 = true then (laws_FnExactRoughUnits.j2 k bt442.2 bt442.1 (bt451.2 != x9)) else (laws_FnExactRoughUnits.j2 k bt442.2 bt442.1 true)))))) else (some false)))))
def laws_FnExactRoughUnits.j2 : Nat → List Int → Int → Bool → Option (Bool)
  | 0, _, _, _ => none
  | k + 1, x12, x15, x115 => if x115 = true then (some false) else ((laws_heldInt64S.f k x12 1).bind fun t456 => (if t456 < 0 then (some false) else (if t456 = x15 then (some true) else (some false))))
end
def laws_FnExactRoughUnits.f (k : Nat) (l0 : List (S77)) (l1 : List (S77)) (a2 : Int) : Option (Bool) := (laws_szNoteS.f l0 1048576).bind fun t406 => (if t406 < 0 then (some true) else ((laws_szNoteS.f l1 t406).bind fun t407 => (if t407 < 0 then (some true) else ((laws_toNoteS.f k l0).bind fun t408 => ((laws_toNoteS.f k l1).bind fun t411 => ((spec_RoughUnits.f k t408 t411 a2).bind fun bt414 => ((laws_toNoteS.f k l0).bind fun t418 => ((laws_toNoteS.f k l1).bind fun t421 => ((impl_RoughUnits.f k t418 t421 a2).bind fun bt424 => ((laws_eqInt64S.f k bt424.1 bt414.1).bind fun t428 => (if t428 = true then (laws_FnExactRoughUnits.j0 k l0 l1 a2 bt414.1 bt414.2 t418 t421 bt424.1 bt424.2 (bt424.2 != bt414.2)) else (laws_FnExactRoughUnits.j0 k l0 l1 a2 bt414.1 bt414.2 t418 t421 bt424.1 bt424.2 true))))))))))))
theorem laws_FnExactRoughUnits.mono_l : ∀ k, (∀ y0 y1 y2 y3 y4 y5 y6 y7 y8 y9, LeO (laws_FnExactRoughUnits.j0 k y0 y1 y2 y3 y4 y5 y6 y7 y8 y9) (laws_FnExactRoughUnits.j0 (k + 1) y0 y1 y2 y3 y4 y5 y6 y7 y8 y9)) ∧ (∀ y0 y1 y2 y3 y4 y5 y6, LeO (laws_FnExactRoughUnits.j1 k y0 y1 y2 y3 y4 y5 y6) (laws_FnExactRoughUnits.j1 (k + 1) y0 y1 y2 y3 y4 y5 y6)) ∧ (∀ y0 y1 y2, LeO (laws_FnExactRoughUnits.j2 k y0 y1 y2) (laws_FnExactRoughUnits.j2 (k + 1) y0 y1 y2))
  | 0 => ⟨fun _ _ _ _ _ _ _ _ _ _ r h => by simp [laws_FnExactRoughUnits.j0] at h, fun _ _ _ _ _ _ _ r h => by simp [laws_FnExactRoughUnits.j1] at h, fun _ _ _ r h => by simp [laws_FnExactRoughUnits.j2] at h⟩
  | k + 1 => by
    obtain ⟨ih0, ih1, ih2⟩ := laws_FnExactRoughUnits.mono_l k
    refine ⟨?_, ?_, ?_⟩
    · intro y0 y1 y2 y3 y4 y5 y6 y7 y8 y9
      unfold laws_FnExactRoughUnits.j0
      repeat' first
      | (with_reducible exact ih0 _ _ _ _ _ _ _ _ _ _)
      | (with_reducible exact ih1 _ _ _ _ _ _ _)
      | (with_reducible exact ih2 _ _ _)
      | (with_reducible exact impl_RoughUnits.mono _ _ _ _)
      | (with_reducible exact laws_eqInt64S.mono _ _ _)
      | (with_reducible exact laws_eqNoteS.mono _ _ _)
      | (with_reducible exact laws_heldInt64S.mono _ _ _)
      | (with_reducible exact laws_markInt64S.mono _ _ _)
      | (with_reducible exact laws_markNoteS.mono _ _ _)
      | (with_reducible exact laws_toNoteS.mono _ _)
      | (with_reducible exact spec_RoughUnits.mono _ _ _ _)
      | (with_reducible exact LeO.refl _)
      | (with_reducible exact LeO.none _)
      | (with_reducible refine LeO.ite ?_ ?_)
      | (with_reducible refine LeO.bind ?_ (fun _ => ?_))
      | exact ih0 _ _ _ _ _ _ _ _ _ _
      | exact ih1 _ _ _ _ _ _ _
      | exact ih2 _ _ _
      | exact impl_RoughUnits.mono _ _ _ _
      | exact laws_eqInt64S.mono _ _ _
      | exact laws_eqNoteS.mono _ _ _
      | exact laws_heldInt64S.mono _ _ _
      | exact laws_markInt64S.mono _ _ _
      | exact laws_markNoteS.mono _ _ _
      | exact laws_toNoteS.mono _ _
      | exact spec_RoughUnits.mono _ _ _ _
      | exact LeO.none _
      | refine LeO.ite ?_ ?_
      | refine LeO.bind ?_ (fun _ => ?_)
    · intro y0 y1 y2 y3 y4 y5 y6
      unfold laws_FnExactRoughUnits.j1
      repeat' first
      | (with_reducible exact ih0 _ _ _ _ _ _ _ _ _ _)
      | (with_reducible exact ih1 _ _ _ _ _ _ _)
      | (with_reducible exact ih2 _ _ _)
      | (with_reducible exact impl_RoughUnits.mono _ _ _ _)
      | (with_reducible exact laws_eqInt64S.mono _ _ _)
      | (with_reducible exact laws_eqNoteS.mono _ _ _)
      | (with_reducible exact laws_heldInt64S.mono _ _ _)
      | (with_reducible exact laws_markInt64S.mono _ _ _)
      | (with_reducible exact laws_markNoteS.mono _ _ _)
      | (with_reducible exact laws_toNoteS.mono _ _)
      | (with_reducible exact spec_RoughUnits.mono _ _ _ _)
      | (with_reducible exact LeO.refl _)
      | (with_reducible exact LeO.none _)
      | (with_reducible refine LeO.ite ?_ ?_)
      | (with_reducible refine LeO.bind ?_ (fun _ => ?_))
      | exact ih0 _ _ _ _ _ _ _ _ _ _
      | exact ih1 _ _ _ _ _ _ _
      | exact ih2 _ _ _
      | exact impl_RoughUnits.mono _ _ _ _
      | exact laws_eqInt64S.mono _ _ _
      | exact laws_eqNoteS.mono _ _ _
      | exact laws_heldInt64S.mono _ _ _
      | exact laws_markInt64S.mono _ _ _
      | exact laws_markNoteS.mono _ _ _
      | exact laws_toNoteS.mono _ _
      | exact spec_RoughUnits.mono _ _ _ _
      | exact LeO.none _
      | refine LeO.ite ?_ ?_
      | refine LeO.bind ?_ (fun _ => ?_)
    · intro y0 y1 y2
      unfold laws_FnExactRoughUnits.j2
      repeat' first
      | (with_reducible exact ih0 _ _ _ _ _ _ _ _ _ _)
      | (with_reducible exact ih1 _ _ _ _ _ _ _)
      | (with_reducible exact ih2 _ _ _)
      | (with_reducible exact impl_RoughUnits.mono _ _ _ _)
      | (with_reducible exact laws_eqInt64S.mono _ _ _)
      | (with_reducible exact laws_eqNoteS.mono _ _ _)
      | (with_reducible exact laws_heldInt64S.mono _ _ _)
      | (with_reducible exact laws_markInt64S.mono _ _ _)
      | (with_reducible exact laws_markNoteS.mono _ _ _)
      | (with_reducible exact laws_toNoteS.mono _ _)
      | (with_reducible exact spec_RoughUnits.mono _ _ _ _)
      | (with_reducible exact LeO.refl _)
      | (with_reducible exact LeO.none _)
      | (with_reducible refine LeO.ite ?_ ?_)
      | (with_reducible refine LeO.bind ?_ (fun _ => ?_))
      | exact ih0 _ _ _ _ _ _ _ _ _ _
      | exact ih1 _ _ _ _ _ _ _
      | exact ih2 _ _ _
      | exact impl_RoughUnits.mono _ _ _ _
      | exact laws_eqInt64S.mono _ _ _
      | exact laws_eqNoteS.mono _ _ _
      | exact laws_heldInt64S.mono _ _ _
      | exact laws_markInt64S.mono _ _ _
      | exact laws_markNoteS.mono _ _ _
      | exact laws_toNoteS.mono _ _
      | exact spec_RoughUnits.mono _ _ _ _
      | exact LeO.none _
      | refine LeO.ite ?_ ?_
      | refine LeO.bind ?_ (fun _ => ?_)
theorem laws_FnExactRoughUnits.mono : ∀ a0 a1 a2 k, LeO (laws_FnExactRoughUnits.f k a0 a1 a2) (laws_FnExactRoughUnits.f (k + 1) a0 a1 a2) := by
  intro a0 a1 a2 k
  obtain ⟨ih0, ih1, ih2⟩ := laws_FnExactRoughUnits.mono_l k
  unfold laws_FnExactRoughUnits.f
  repeat' first
      | (with_reducible exact ih0 _ _ _ _ _ _ _ _ _ _)
      | (with_reducible exact ih1 _ _ _ _ _ _ _)
      | (with_reducible exact ih2 _ _ _)
      | (with_reducible exact impl_RoughUnits.mono _ _ _ _)
      | (with_reducible exact laws_eqInt64S.mono _ _ _)
      | (with_reducible exact laws_eqNoteS.mono _ _ _)
      | (with_reducible exact laws_heldInt64S.mono _ _ _)
      | (with_reducible exact laws_markInt64S.mono _ _ _)
      | (with_reducible exact laws_markNoteS.mono _ _ _)
      | (with_reducible exact laws_toNoteS.mono _ _)
      | (with_reducible exact spec_RoughUnits.mono _ _ _ _)
      | (with_reducible exact LeO.refl _)
      | (with_reducible exact LeO.none _)
      | (with_reducible refine LeO.ite ?_ ?_)
      | (with_reducible refine LeO.bind ?_ (fun _ => ?_))
      | exact ih0 _ _ _ _ _ _ _ _ _ _
      | exact ih1 _ _ _ _ _ _ _
      | exact ih2 _ _ _
      | exact impl_RoughUnits.mono _ _ _ _
      | exact laws_eqInt64S.mono _ _ _
      | exact laws_eqNoteS.mono _ _ _
      | exact laws_heldInt64S.mono _ _ _
      | exact laws_markInt64S.mono _ _ _
      | exact laws_markNoteS.mono _ _ _
      | exact laws_toNoteS.mono _ _
      | exact spec_RoughUnits.mono _ _ _ _
      | exact LeO.none _
      | refine LeO.ite ?_ ?_
      | refine LeO.bind ?_ (fun _ => ?_)
set_option maxHeartbeats 8000000 in
set_option maxRecDepth 100000 in
theorem laws_FnExactRoughUnits.calls (k : Nat) (A0 : Option Addr) (c0 : Nat) (l0 : List (S77)) (A1 : Option Addr) (c1 : Nat) (l1 : List (S77)) (a2 : Int) (r : Bool) (w : World) (hr0 : Kd.C k77 w A0 l0.length l0) (hc0 : l0.length ≤ c0) (hr1 : Kd.C k77 w A1 l1.length l1) (hc1 : l1.length ≤ c1) (hT : r = true) (h : laws_FnExactRoughUnits.f k l0 l1 a2 = some r) :
    Calls Try.prog 8 #[.slice A0 l0.length c0, .slice A1 l1.length c1, .int .i64 a2] w fun e w' => e = .returned (.bool r) ∧ Below w.heap.size w w' := by
  have HR0 := Aside0.mk hr0
  have HC0 := Aside0.mk hc0
  clear hr0 hc0
  have HR1 := Aside0.mk hr1
  have HC1 := Aside0.mk hc1
  clear hr1 hc1
  have HT := Aside0.mk hT
  clear hT
  have HB := Aside0.mk (Below.refl w.heap.size w)
  have H : ((laws_szNoteS.f l0 1048576).bind fun t406 => (if t406 < 0 then (some true) else ((laws_szNoteS.f l1 t406).bind fun t407 => (if t407 < 0 then (some true) else ((laws_toNoteS.f k l0).bind fun t408 => ((laws_toNoteS.f k l1).bind fun t411 => ((spec_RoughUnits.f k t408 t411 a2).bind fun bt414 => ((laws_toNoteS.f k l0).bind fun t418 => ((laws_toNoteS.f k l1).bind fun t421 => ((impl_RoughUnits.f k t418 t421 a2).bind fun bt424 => ((laws_eqInt64S.f k bt424.1 bt414.1).bind fun t428 => (if t428 = true then (laws_FnExactRoughUnits.j0 k l0 l1 a2 bt414.1 bt414.2 t418 t421 bt424.1 bt424.2 (bt424.2 != bt414.2)) else (laws_FnExactRoughUnits.j0 k l0 l1 a2 bt414.1 bt414.2 t418 t421 bt424.1 bt424.2 true))))))))))))) = some r := h
  clear h
  replace H := Option.bind_eq_some_iff.mp H
  obtain ⟨t406, A40, H⟩ := H
  replace H : (if t406 < 0 then (some true) else ((laws_szNoteS.f l1 t406).bind fun t407 => (if t407 < 0 then (some true) else ((laws_toNoteS.f k l0).bind fun t408 => ((laws_toNoteS.f k l1).bind fun t411 => ((spec_RoughUnits.f k t408 t411 a2).bind fun bt414 => ((laws_toNoteS.f k l0).bind fun t418 => ((laws_toNoteS.f k l1).bind fun t421 => ((impl_RoughUnits.f k t418 t421 a2).bind fun bt424 => ((laws_eqInt64S.f k bt424.1 bt414.1).bind fun t428 => (if t428 = true then (laws_FnExactRoughUnits.j0 k l0 l1 a2 bt414.1 bt414.2 t418 t421 bt424.1 bt424.2 (bt424.2 != bt414.2)) else (laws_FnExactRoughUnits.j0 k l0 l1 a2 bt414.1 bt414.2 t418 t421 bt424.1 bt424.2 true)))))))))))) = some r := H
  have A4 := Aside0.mk A40
  clear A40
  by_cases c5 : t406 < 0
  · rw [if_pos c5] at H
    have c5b0 : decide (t406 < 0) = true := decide_eq_true c5
    clear c5
    obtain rfl := Option.some.inj H
    go_enter Try.func8, Try.ntmps8
    go_wp2_with (first | ((with_reducible refine gate_callee (f := 15) rfl ?_); refine goesL_ (some 21) rfl rfl Try.func15 (by kernel_rfl) rfl #[.slice A0 l0.length c0, .int .i64 1048576] rfl (by (try simp only [List.map_toArray, List.map_cons, List.map_nil]); first | done | rfl | (simp only [List.length_drop, List.length_take]; rfl)) ?_; (with_reducible refine (laws_szNoteS.calls _ _ l0 1048576 t406 _ ?side1 ?side2 A4.out).mono ?_); (case side1 => repeat (first | exact HR0.out | (with_reducible refine Kd.C_alloc ?_ _) | (with_reducible refine Kd.C_drewN ?_ _) | (with_reducible refine Kd.C_drew ?_))); (case side2 => exact HC0.out); rintro e w' ⟨rfl, ⟨nd, rfl⟩⟩; refine ⟨_, rfl, ?_⟩))
    go_ret
    exact ⟨by first | rfl | (simp [errW_none, errW_some] <;> rfl) | (simp [*, errW_none, errW_some] <;> rfl), by repeat (first | (with_reducible first | exact HB.out | apply below_alloc | apply pw_below_drewN | apply below_drew1) | exact HB.out)⟩
  · rw [if_neg c5] at H
    have c5b0 : decide (t406 < 0) = false := decide_eq_false c5
    clear c5
    replace H := Option.bind_eq_some_iff.mp H
    obtain ⟨t407, A60, H⟩ := H
    replace H : (if t407 < 0 then (some true) else ((laws_toNoteS.f k l0).bind fun t408 => ((laws_toNoteS.f k l1).bind fun t411 => ((spec_RoughUnits.f k t408 t411 a2).bind fun bt414 => ((laws_toNoteS.f k l0).bind fun t418 => ((laws_toNoteS.f k l1).bind fun t421 => ((impl_RoughUnits.f k t418 t421 a2).bind fun bt424 => ((laws_eqInt64S.f k bt424.1 bt414.1).bind fun t428 => (if t428 = true then (laws_FnExactRoughUnits.j0 k l0 l1 a2 bt414.1 bt414.2 t418 t421 bt424.1 bt424.2 (bt424.2 != bt414.2)) else (laws_FnExactRoughUnits.j0 k l0 l1 a2 bt414.1 bt414.2 t418 t421 bt424.1 bt424.2 true)))))))))) = some r := H
    have A6 := Aside0.mk A60
    clear A60
    by_cases c7 : t407 < 0
    · rw [if_pos c7] at H
      have c7b0 : decide (t407 < 0) = true := decide_eq_true c7
      clear c7
      obtain rfl := Option.some.inj H
      go_enter Try.func8, Try.ntmps8
      go_wp2_with (first | ((with_reducible refine gate_callee (f := 15) rfl ?_); refine goesL_ (some 21) rfl rfl Try.func15 (by kernel_rfl) rfl #[.slice A0 l0.length c0, .int .i64 1048576] rfl (by (try simp only [List.map_toArray, List.map_cons, List.map_nil]); first | done | rfl | (simp only [List.length_drop, List.length_take]; rfl)) ?_; (with_reducible refine (laws_szNoteS.calls _ _ l0 1048576 t406 _ ?side1 ?side2 A4.out).mono ?_); (case side1 => repeat (first | exact HR0.out | (with_reducible refine Kd.C_alloc ?_ _) | (with_reducible refine Kd.C_drewN ?_ _) | (with_reducible refine Kd.C_drew ?_))); (case side2 => exact HC0.out); rintro e w' ⟨rfl, ⟨nd, rfl⟩⟩; refine ⟨_, rfl, ?_⟩) | ((with_reducible refine gate_callee (f := 15) rfl ?_); refine goesL_ (some 26) rfl rfl Try.func15 (by kernel_rfl) rfl #[.slice A1 l1.length c1, .int .i64 t406] rfl (by (try simp only [List.map_toArray, List.map_cons, List.map_nil]); first | done | rfl | (simp only [List.length_drop, List.length_take]; rfl)) ?_; (with_reducible refine (laws_szNoteS.calls _ _ l1 t406 t407 _ ?side1 ?side2 A6.out).mono ?_); (case side1 => repeat (first | exact HR1.out | (with_reducible refine Kd.C_alloc ?_ _) | (with_reducible refine Kd.C_drewN ?_ _) | (with_reducible refine Kd.C_drew ?_))); (case side2 => exact HC1.out); rintro e w' ⟨rfl, ⟨nd, rfl⟩⟩; refine ⟨_, rfl, ?_⟩))
      go_ret
      exact ⟨by first | rfl | (simp [errW_none, errW_some] <;> rfl) | (simp [*, errW_none, errW_some] <;> rfl), by repeat (first | (with_reducible first | exact HB.out | apply below_alloc | apply pw_below_drewN | apply below_drew1) | exact HB.out)⟩
    · rw [if_neg c7] at H
      have c7b0 : decide (t407 < 0) = false := decide_eq_false c7
      clear c7
      replace H := Option.bind_eq_some_iff.mp H
      obtain ⟨t408, A80, H⟩ := H
      replace H : ((laws_toNoteS.f k l1).bind fun t411 => ((spec_RoughUnits.f k t408 t411 a2).bind fun bt414 => ((laws_toNoteS.f k l0).bind fun t418 => ((laws_toNoteS.f k l1).bind fun t421 => ((impl_RoughUnits.f k t418 t421 a2).bind fun bt424 => ((laws_eqInt64S.f k bt424.1 bt414.1).bind fun t428 => (if t428 = true then (laws_FnExactRoughUnits.j0 k l0 l1 a2 bt414.1 bt414.2 t418 t421 bt424.1 bt424.2 (bt424.2 != bt414.2)) else (laws_FnExactRoughUnits.j0 k l0 l1 a2 bt414.1 bt414.2 t418 t421 bt424.1 bt424.2 true)))))))) = some r := H
      have A8 := Aside0.mk A80
      clear A80
      replace H := Option.bind_eq_some_iff.mp H
      obtain ⟨t411, A90, H⟩ := H
      replace H : ((spec_RoughUnits.f k t408 t411 a2).bind fun bt414 => ((laws_toNoteS.f k l0).bind fun t418 => ((laws_toNoteS.f k l1).bind fun t421 => ((impl_RoughUnits.f k t418 t421 a2).bind fun bt424 => ((laws_eqInt64S.f k bt424.1 bt414.1).bind fun t428 => (if t428 = true then (laws_FnExactRoughUnits.j0 k l0 l1 a2 bt414.1 bt414.2 t418 t421 bt424.1 bt424.2 (bt424.2 != bt414.2)) else (laws_FnExactRoughUnits.j0 k l0 l1 a2 bt414.1 bt414.2 t418 t421 bt424.1 bt424.2 true))))))) = some r := H
      have A9 := Aside0.mk A90
      clear A90
      replace H := Option.bind_eq_some_iff.mp H
      obtain ⟨⟨t414, t415⟩, A100, H⟩ := H
      replace H : ((laws_toNoteS.f k l0).bind fun t418 => ((laws_toNoteS.f k l1).bind fun t421 => ((impl_RoughUnits.f k t418 t421 a2).bind fun bt424 => ((laws_eqInt64S.f k bt424.1 t414).bind fun t428 => (if t428 = true then (laws_FnExactRoughUnits.j0 k l0 l1 a2 t414 t415 t418 t421 bt424.1 bt424.2 (bt424.2 != t415)) else (laws_FnExactRoughUnits.j0 k l0 l1 a2 t414 t415 t418 t421 bt424.1 bt424.2 true)))))) = some r := H
      have A10 := Aside0.mk A100
      clear A100
      replace H := Option.bind_eq_some_iff.mp H
      obtain ⟨t418, A110, H⟩ := H
      replace H : ((laws_toNoteS.f k l1).bind fun t421 => ((impl_RoughUnits.f k t418 t421 a2).bind fun bt424 => ((laws_eqInt64S.f k bt424.1 t414).bind fun t428 => (if t428 = true then (laws_FnExactRoughUnits.j0 k l0 l1 a2 t414 t415 t418 t421 bt424.1 bt424.2 (bt424.2 != t415)) else (laws_FnExactRoughUnits.j0 k l0 l1 a2 t414 t415 t418 t421 bt424.1 bt424.2 true))))) = some r := H
      have A11 := Aside0.mk A110
      clear A110
      replace H := Option.bind_eq_some_iff.mp H
      obtain ⟨t421, A120, H⟩ := H
      replace H : ((impl_RoughUnits.f k t418 t421 a2).bind fun bt424 => ((laws_eqInt64S.f k bt424.1 t414).bind fun t428 => (if t428 = true then (laws_FnExactRoughUnits.j0 k l0 l1 a2 t414 t415 t418 t421 bt424.1 bt424.2 (bt424.2 != t415)) else (laws_FnExactRoughUnits.j0 k l0 l1 a2 t414 t415 t418 t421 bt424.1 bt424.2 true)))) = some r := H
      have A12 := Aside0.mk A120
      clear A120
      replace H := Option.bind_eq_some_iff.mp H
      obtain ⟨⟨t424, t425⟩, A130, H⟩ := H
      replace H : ((laws_eqInt64S.f k t424 t414).bind fun t428 => (if t428 = true then (laws_FnExactRoughUnits.j0 k l0 l1 a2 t414 t415 t418 t421 t424 t425 (t425 != t415)) else (laws_FnExactRoughUnits.j0 k l0 l1 a2 t414 t415 t418 t421 t424 t425 true))) = some r := H
      have A13 := Aside0.mk A130
      clear A130
      have HC14 := Aside0.mk H
      clear H
      go_enter Try.func8, Try.ntmps8
      go_upto_region 12 with (first | ((with_reducible refine gate_callee (f := 15) rfl ?_); refine goesL_ (some 21) rfl rfl Try.func15 (by kernel_rfl) rfl #[.slice A0 l0.length c0, .int .i64 1048576] rfl (by (try simp only [List.map_toArray, List.map_cons, List.map_nil]); first | done | rfl | (simp only [List.length_drop, List.length_take]; rfl)) ?_; (with_reducible refine (laws_szNoteS.calls _ _ l0 1048576 t406 _ ?side1 ?side2 A4.out).mono ?_); (case side1 => repeat (first | exact HR0.out | (with_reducible refine Kd.C_alloc ?_ _) | (with_reducible refine Kd.C_drewN ?_ _) | (with_reducible refine Kd.C_drew ?_))); (case side2 => exact HC0.out); rintro e w' ⟨rfl, ⟨nd, rfl⟩⟩; refine ⟨_, rfl, ?_⟩) | ((with_reducible refine gate_callee (f := 15) rfl ?_); refine goesL_ (some 26) rfl rfl Try.func15 (by kernel_rfl) rfl #[.slice A1 l1.length c1, .int .i64 t406] rfl (by (try simp only [List.map_toArray, List.map_cons, List.map_nil]); first | done | rfl | (simp only [List.length_drop, List.length_take]; rfl)) ?_; (with_reducible refine (laws_szNoteS.calls _ _ l1 t406 t407 _ ?side1 ?side2 A6.out).mono ?_); (case side1 => repeat (first | exact HR1.out | (with_reducible refine Kd.C_alloc ?_ _) | (with_reducible refine Kd.C_drewN ?_ _) | (with_reducible refine Kd.C_drew ?_))); (case side2 => exact HC1.out); rintro e w' ⟨rfl, ⟨nd, rfl⟩⟩; refine ⟨_, rfl, ?_⟩) | ((with_reducible refine gate_callee (f := 17) rfl ?_); refine goesL_ (some 31) rfl rfl Try.func17 (by kernel_rfl) rfl #[.slice A0 l0.length c0] rfl (by (try simp only [List.map_toArray, List.map_cons, List.map_nil]); first | done | rfl | (simp only [List.length_drop, List.length_take]; rfl)) ?_; (with_reducible refine (laws_toNoteS.calls k _ _ l0 t408 _ ?side1 ?side2 A8.out).mono ?_); (case side1 => repeat (first | exact HR0.out | (with_reducible refine Kd.C_alloc ?_ _) | (with_reducible refine Kd.C_drewN ?_ _) | (with_reducible refine Kd.C_drew ?_))); (case side2 => exact HC0.out); rintro e w15 ⟨v409, rfl, ho0, hb⟩; refine ⟨_, rfl, ?_⟩; have n0_ := Aside0.mk (Kd.R_lower ho0 (below_size (by repeat (first | (with_reducible first | exact HB.out | apply below_alloc | apply pw_below_drewN | apply below_drew1) | exact HB.out)))); have n1_ := Aside0.mk (below_step (by repeat (first | (with_reducible first | exact HB.out | apply below_alloc | apply pw_below_drewN | apply below_drew1) | exact HB.out)) hb); clear HB; have HO410 := n0_; have HB := n1_; clear n0_ n1_; (try clear hb); (try clear hb2); (try clear hk); (try clear hi); (try clear ho0)) | ((with_reducible refine gate_callee (f := 17) rfl ?_); refine goesL_ (some 33) rfl rfl Try.func17 (by kernel_rfl) rfl #[.slice A1 l1.length c1] rfl (by (try simp only [List.map_toArray, List.map_cons, List.map_nil]); first | done | rfl | (simp only [List.length_drop, List.length_take]; rfl)) ?_; (with_reducible refine (laws_toNoteS.calls k _ _ l1 t411 _ ?side1 ?side2 A9.out).mono ?_); (case side1 => repeat (first | exact (Kd.C_below HR1.out HB.out) | (with_reducible refine Kd.C_alloc ?_ _) | (with_reducible refine Kd.C_drewN ?_ _) | (with_reducible refine Kd.C_drew ?_))); (case side2 => exact HC1.out); rintro e w16 ⟨v412, rfl, ho0, hb⟩; refine ⟨_, rfl, ?_⟩; have n0_ := Aside0.mk (Kd.R_elder' (by (with_reducible repeat (first | apply Kd.R_alloc | apply Kd.R_drewN | apply Kd.R_drew)); exact HO410.out) (Kd.R_base ho0) hb); have n1_ := Aside0.mk (Kd.R_lower (Kd.R_new' ho0 (Kd.R_lt (by (with_reducible repeat (first | apply Kd.R_alloc | apply Kd.R_drewN | apply Kd.R_drew)); exact HO410.out))) (below_size (by repeat (first | (with_reducible first | exact HB.out | apply below_alloc | apply pw_below_drewN | apply below_drew1) | exact HB.out)))); have n2_ := Aside0.mk (below_step (by repeat (first | (with_reducible first | exact HB.out | apply below_alloc | apply pw_below_drewN | apply below_drew1) | exact HB.out)) hb); clear HO410; clear HB; have HO410 := n0_; have HO413 := n1_; have HB := n2_; clear n0_ n1_ n2_; (try clear hb); (try clear hb2); (try clear hk); (try clear hi); (try clear ho0); obtain ⟨Ao17, co17, eo17⟩ := Kd.R_slice HO410.out; subst eo17; obtain ⟨Ao18, co18, eo18⟩ := Kd.R_slice HO413.out; subst eo18) | ((with_reducible refine gate_callee (f := 30) rfl ?_); refine goesL_ (some 35) rfl rfl Try.func30 (by kernel_rfl) rfl #[.slice Ao17 t408.length co17, .slice Ao18 t411.length co18, .int .i64 a2] rfl (by (try simp only [List.map_toArray, List.map_cons, List.map_nil]); first | done | rfl | (simp only [List.length_drop, List.length_take]; rfl)) ?_; (with_reducible refine (spec_RoughUnits.calls k _ _ t408 _ _ t411 a2 t414 t415 _ ?side1 ?side2 ?side3 ?side4 A10.out).mono ?_); (case side1 => repeat (first | exact (Kd.R_reads' HO410.out).2.2 | (with_reducible refine Kd.C_alloc ?_ _) | (with_reducible refine Kd.C_drewN ?_ _) | (with_reducible refine Kd.C_drew ?_))); (case side2 => exact (Kd.R_reads' HO410.out).2.1); (case side3 => repeat (first | exact (Kd.R_reads' HO413.out).2.2 | (with_reducible refine Kd.C_alloc ?_ _) | (with_reducible refine Kd.C_drewN ?_ _) | (with_reducible refine Kd.C_drew ?_))); (case side4 => exact (Kd.R_reads' HO413.out).2.1); rintro e w19 ⟨v416, rfl, ho0, hb⟩; refine ⟨_, rfl, ?_⟩; have n0_ := Aside0.mk (Kd.R_below (by (with_reducible repeat (first | apply Kd.R_alloc | apply Kd.R_drewN | apply Kd.R_drew)); exact HO410.out) hb); have n1_ := Aside0.mk (Kd.R_below (by (with_reducible repeat (first | apply Kd.R_alloc | apply Kd.R_drewN | apply Kd.R_drew)); exact HO413.out) hb); have n2_ := Aside0.mk (Kd.R_lower ho0 (below_size (by repeat (first | (with_reducible first | exact HB.out | apply below_alloc | apply pw_below_drewN | apply below_drew1) | exact HB.out)))); have n3_ := Aside0.mk (below_step (by repeat (first | (with_reducible first | exact HB.out | apply below_alloc | apply pw_below_drewN | apply below_drew1) | exact HB.out)) hb); clear HO410; clear HO413; clear HB; have HO410 := n0_; have HO413 := n1_; have HO417 := n2_; have HB := n3_; clear n0_ n1_ n2_ n3_; (try clear hb); (try clear hb2); (try clear hk); (try clear hi); (try clear ho0)) | ((with_reducible refine gate_callee (f := 17) rfl ?_); refine goesL_ (some 39) rfl rfl Try.func17 (by kernel_rfl) rfl #[.slice A0 l0.length c0] rfl (by (try simp only [List.map_toArray, List.map_cons, List.map_nil]); first | done | rfl | (simp only [List.length_drop, List.length_take]; rfl)) ?_; (with_reducible refine (laws_toNoteS.calls k _ _ l0 t418 _ ?side1 ?side2 A11.out).mono ?_); (case side1 => repeat (first | exact (Kd.C_below HR0.out HB.out) | (with_reducible refine Kd.C_alloc ?_ _) | (with_reducible refine Kd.C_drewN ?_ _) | (with_reducible refine Kd.C_drew ?_))); (case side2 => exact HC0.out); rintro e w20 ⟨v419, rfl, ho0, hb⟩; refine ⟨_, rfl, ?_⟩; have n0_ := Aside0.mk (Kd.R_elder' (by (with_reducible repeat (first | apply Kd.R_alloc | apply Kd.R_drewN | apply Kd.R_drew)); exact HO410.out) (Kd.R_base ho0) hb); have n1_ := Aside0.mk (Kd.R_elder' (by (with_reducible repeat (first | apply Kd.R_alloc | apply Kd.R_drewN | apply Kd.R_drew)); exact HO413.out) (Kd.R_base ho0) hb); have n2_ := Aside0.mk (Kd.R_below (by (with_reducible repeat (first | apply Kd.R_alloc | apply Kd.R_drewN | apply Kd.R_drew)); exact HO417.out) hb); have n3_ := Aside0.mk (Kd.R_lower (Kd.R_new' (Kd.R_new' ho0 (Kd.R_lt (by (with_reducible repeat (first | apply Kd.R_alloc | apply Kd.R_drewN | apply Kd.R_drew)); exact HO410.out))) (Kd.R_lt (by (with_reducible repeat (first | apply Kd.R_alloc | apply Kd.R_drewN | apply Kd.R_drew)); exact HO413.out))) (below_size (by repeat (first | (with_reducible first | exact HB.out | apply below_alloc | apply pw_below_drewN | apply below_drew1) | exact HB.out)))); have n4_ := Aside0.mk (below_step (by repeat (first | (with_reducible first | exact HB.out | apply below_alloc | apply pw_below_drewN | apply below_drew1) | exact HB.out)) hb); clear HO410; clear HO413; clear HO417; clear HB; have HO410 := n0_; have HO413 := n1_; have HO417 := n2_; have HO420 := n3_; have HB := n4_; clear n0_ n1_ n2_ n3_ n4_; (try clear hb); (try clear hb2); (try clear hk); (try clear hi); (try clear ho0)) | ((with_reducible refine gate_callee (f := 17) rfl ?_); refine goesL_ (some 41) rfl rfl Try.func17 (by kernel_rfl) rfl #[.slice A1 l1.length c1] rfl (by (try simp only [List.map_toArray, List.map_cons, List.map_nil]); first | done | rfl | (simp only [List.length_drop, List.length_take]; rfl)) ?_; (with_reducible refine (laws_toNoteS.calls k _ _ l1 t421 _ ?side1 ?side2 A12.out).mono ?_); (case side1 => repeat (first | exact (Kd.C_below HR1.out HB.out) | (with_reducible refine Kd.C_alloc ?_ _) | (with_reducible refine Kd.C_drewN ?_ _) | (with_reducible refine Kd.C_drew ?_))); (case side2 => exact HC1.out); rintro e w21 ⟨v422, rfl, ho0, hb⟩; refine ⟨_, rfl, ?_⟩; have n0_ := Aside0.mk (Kd.R_elder' (by (with_reducible repeat (first | apply Kd.R_alloc | apply Kd.R_drewN | apply Kd.R_drew)); exact HO410.out) (Kd.R_base ho0) hb); have n1_ := Aside0.mk (Kd.R_elder' (by (with_reducible repeat (first | apply Kd.R_alloc | apply Kd.R_drewN | apply Kd.R_drew)); exact HO413.out) (Kd.R_base ho0) hb); have n2_ := Aside0.mk (Kd.R_below (by (with_reducible repeat (first | apply Kd.R_alloc | apply Kd.R_drewN | apply Kd.R_drew)); exact HO417.out) hb); have n3_ := Aside0.mk (Kd.R_elder' (by (with_reducible repeat (first | apply Kd.R_alloc | apply Kd.R_drewN | apply Kd.R_drew)); exact HO420.out) (Kd.R_base ho0) hb); have n4_ := Aside0.mk (Kd.R_lower (Kd.R_new' (Kd.R_new' (Kd.R_new' ho0 (Kd.R_lt (by (with_reducible repeat (first | apply Kd.R_alloc | apply Kd.R_drewN | apply Kd.R_drew)); exact HO410.out))) (Kd.R_lt (by (with_reducible repeat (first | apply Kd.R_alloc | apply Kd.R_drewN | apply Kd.R_drew)); exact HO413.out))) (Kd.R_lt (by (with_reducible repeat (first | apply Kd.R_alloc | apply Kd.R_drewN | apply Kd.R_drew)); exact HO420.out))) (below_size (by repeat (first | (with_reducible first | exact HB.out | apply below_alloc | apply pw_below_drewN | apply below_drew1) | exact HB.out)))); have n5_ := Aside0.mk (below_step (by repeat (first | (with_reducible first | exact HB.out | apply below_alloc | apply pw_below_drewN | apply below_drew1) | exact HB.out)) hb); clear HO410; clear HO413; clear HO417; clear HO420; clear HB; have HO410 := n0_; have HO413 := n1_; have HO417 := n2_; have HO420 := n3_; have HO423 := n4_; have HB := n5_; clear n0_ n1_ n2_ n3_ n4_ n5_; (try clear hb); (try clear hb2); (try clear hk); (try clear hi); (try clear ho0); obtain ⟨Ao22, co22, eo22⟩ := Kd.R_slice HO420.out; subst eo22; obtain ⟨Ao23, co23, eo23⟩ := Kd.R_slice HO423.out; subst eo23) | ((with_reducible refine gate_callee (f := 31) rfl ?_); refine goesL_ (some 46) rfl rfl Try.func31 (by kernel_rfl) rfl #[.slice Ao22 t418.length co22, .slice Ao23 t421.length co23, .int .i64 a2] rfl (by (try simp only [List.map_toArray, List.map_cons, List.map_nil]); first | done | rfl | (simp only [List.length_drop, List.length_take]; rfl)) ?_; (with_reducible refine (impl_RoughUnits.calls k _ _ t418 _ _ t421 a2 t424 t425 _ ?side1 ?side2 ?side3 ?side4 A13.out).mono ?_); (case side1 => repeat (first | exact (Kd.R_reads' HO420.out).2.2 | (with_reducible refine Kd.C_alloc ?_ _) | (with_reducible refine Kd.C_drewN ?_ _) | (with_reducible refine Kd.C_drew ?_))); (case side2 => exact (Kd.R_reads' HO420.out).2.1); (case side3 => repeat (first | exact (Kd.R_reads' HO423.out).2.2 | (with_reducible refine Kd.C_alloc ?_ _) | (with_reducible refine Kd.C_drewN ?_ _) | (with_reducible refine Kd.C_drew ?_))); (case side4 => exact (Kd.R_reads' HO423.out).2.1); rintro e w24 ⟨v426, rfl, ho0, hb⟩; refine ⟨_, rfl, ?_⟩; have n0_ := Aside0.mk (Kd.R_below (by (with_reducible repeat (first | apply Kd.R_alloc | apply Kd.R_drewN | apply Kd.R_drew)); exact HO410.out) hb); have n1_ := Aside0.mk (Kd.R_below (by (with_reducible repeat (first | apply Kd.R_alloc | apply Kd.R_drewN | apply Kd.R_drew)); exact HO413.out) hb); have n2_ := Aside0.mk (Kd.R_elder' (by (with_reducible repeat (first | apply Kd.R_alloc | apply Kd.R_drewN | apply Kd.R_drew)); exact HO417.out) (Kd.R_base ho0) hb); have n3_ := Aside0.mk (Kd.R_below (by (with_reducible repeat (first | apply Kd.R_alloc | apply Kd.R_drewN | apply Kd.R_drew)); exact HO420.out) hb); have n4_ := Aside0.mk (Kd.R_below (by (with_reducible repeat (first | apply Kd.R_alloc | apply Kd.R_drewN | apply Kd.R_drew)); exact HO423.out) hb); have n5_ := Aside0.mk (Kd.R_lower (Kd.R_new' ho0 (Kd.R_lt (by (with_reducible repeat (first | apply Kd.R_alloc | apply Kd.R_drewN | apply Kd.R_drew)); exact HO417.out))) (below_size (by repeat (first | (with_reducible first | exact HB.out | apply below_alloc | apply pw_below_drewN | apply below_drew1) | exact HB.out)))); have n6_ := Aside0.mk (below_step (by repeat (first | (with_reducible first | exact HB.out | apply below_alloc | apply pw_below_drewN | apply below_drew1) | exact HB.out)) hb); clear HO410; clear HO413; clear HO417; clear HO420; clear HO423; clear HB; have HO410 := n0_; have HO413 := n1_; have HO417 := n2_; have HO420 := n3_; have HO423 := n4_; have HO427 := n5_; have HB := n6_; clear n0_ n1_ n2_ n3_ n4_ n5_ n6_; (try clear hb); (try clear hb2); (try clear hk); (try clear hi); (try clear ho0)))
      (try simp only [Act.put, List.setIfInBounds_toArray, List.set_cons_zero, List.set_cons_succ])
      go_cut [57] (fun v57 wc => ∃ (kq : Nat) (x57_13 : Bool), v57 = .bool x57_13 ∧ Aside0 (laws_FnExactRoughUnits.j0 kq l0 l1 a2 t414 t415 t418 t421 t424 t425 x57_13 = some r) ∧ Aside0 (kq ≤ k) ∧ Aside0 (Kd.R (Kd.int .i64) 2 wc w.heap.size (fun k_ => some k_ ≠ (v426 : Value).ownBlock) v416 t414) ∧ Aside0 (Kd.R k75 75 wc w.heap.size (fun k_ => some k_ ≠ ((.slice Ao23 t421.length co23) : Value).ownBlock) (.slice Ao22 t418.length co22) t418) ∧ Aside0 (Kd.R k75 75 wc w.heap.size (fun k_ => some k_ ≠ ((.slice Ao22 t418.length co22) : Value).ownBlock) (.slice Ao23 t421.length co23) t421) ∧ Aside0 (Kd.R (Kd.int .i64) 2 wc w.heap.size (fun k_ => some k_ ≠ (v416 : Value).ownBlock) v426 t424) ∧ Aside0 (Below w.heap.size w wc))
      case first =>
        have H := HC14.out
        clear HC14
        replace H := Option.bind_eq_some_iff.mp H
        obtain ⟨t428, A250, H⟩ := H
        replace H : (if t428 = true then (laws_FnExactRoughUnits.j0 k l0 l1 a2 t414 t415 t418 t421 t424 t425 (t425 != t415)) else (laws_FnExactRoughUnits.j0 k l0 l1 a2 t414 t415 t418 t421 t424 t425 true)) = some r := H
        have A25 := Aside0.mk A250
        clear A250
        by_cases c26 : t428 = true
        · subst c26
          have H1 : (laws_FnExactRoughUnits.j0 k l0 l1 a2 t414 t415 t418 t421 t424 t425 (t425 != t415)) = some r := by rw [if_pos rfl] at H; exact H
          clear H
          have H := H1
          clear H1
          have H' := Aside0.mk H
          clear H
          obtain ⟨Ao27, co27, eo27⟩ := Kd.R_slice HO427.out
          subst eo27
          obtain ⟨Ao28, co28, eo28⟩ := Kd.R_slice HO417.out
          subst eo28
          go_wp2_with (first | ((with_reducible refine gate_callee (f := 23) rfl ?_); refine goesL_ (some 51) rfl rfl Try.func23 (by kernel_rfl) rfl #[.slice Ao27 t424.length co27, .slice Ao28 t414.length co28] rfl (by (try simp only [List.map_toArray, List.map_cons, List.map_nil]); first | done | rfl | (simp only [List.length_drop, List.length_take]; rfl)) ?_; (with_reducible refine (laws_eqInt64S.calls k _ _ t424 _ _ t414 true _ ?side1 ?side2 ?side3 ?side4 A25.out).mono ?_); (case side1 => repeat (first | exact (Kd.R_reads' HO427.out).2.2 | (with_reducible refine Kd.C_alloc ?_ _) | (with_reducible refine Kd.C_drewN ?_ _) | (with_reducible refine Kd.C_drew ?_))); (case side2 => exact (Kd.R_reads' HO427.out).2.1); (case side3 => repeat (first | exact (Kd.R_reads' HO417.out).2.2 | (with_reducible refine Kd.C_alloc ?_ _) | (with_reducible refine Kd.C_drewN ?_ _) | (with_reducible refine Kd.C_drew ?_))); (case side4 => exact (Kd.R_reads' HO417.out).2.1); rintro e w' ⟨rfl, ⟨nd, rfl⟩⟩; refine ⟨_, rfl, ?_⟩))
          go_meet
          case rel => exact ⟨_, ((t425 != t415)), (by first | rfl | (simp; done) | (simp [*]; done)), H', ⟨by first | omega | exact Nat.le_refl _⟩, ⟨by (with_reducible repeat (first | apply Kd.R_alloc | apply Kd.R_drewN | apply Kd.R_drew)); exact Kd.R_mono HO417.out (fun _ hk => hk.2)⟩, ⟨by (with_reducible repeat (first | apply Kd.R_alloc | apply Kd.R_drewN | apply Kd.R_drew)); exact Kd.R_mono HO420.out (fun _ hk => hk.2)⟩, ⟨by (with_reducible repeat (first | apply Kd.R_alloc | apply Kd.R_drewN | apply Kd.R_drew)); exact Kd.R_mono HO423.out (fun _ hk => hk.2)⟩, ⟨by (with_reducible repeat (first | apply Kd.R_alloc | apply Kd.R_drewN | apply Kd.R_drew)); exact Kd.R_mono HO427.out (fun _ hk => hk.2)⟩, ⟨by repeat (first | (with_reducible first | exact HB.out | apply below_alloc | apply pw_below_drewN | apply below_drew1) | exact HB.out)⟩⟩
        · replace c26 := Bool.eq_false_iff.mpr c26
          subst c26
          have H1 : (laws_FnExactRoughUnits.j0 k l0 l1 a2 t414 t415 t418 t421 t424 t425 true) = some r := by rw [if_neg (show ¬ (false = true) by decide)] at H; exact H
          clear H
          have H := H1
          clear H1
          have H' := Aside0.mk H
          clear H
          obtain ⟨Ao29, co29, eo29⟩ := Kd.R_slice HO427.out
          subst eo29
          obtain ⟨Ao30, co30, eo30⟩ := Kd.R_slice HO417.out
          subst eo30
          go_wp2_with (first | ((with_reducible refine gate_callee (f := 23) rfl ?_); refine goesL_ (some 51) rfl rfl Try.func23 (by kernel_rfl) rfl #[.slice Ao29 t424.length co29, .slice Ao30 t414.length co30] rfl (by (try simp only [List.map_toArray, List.map_cons, List.map_nil]); first | done | rfl | (simp only [List.length_drop, List.length_take]; rfl)) ?_; (with_reducible refine (laws_eqInt64S.calls k _ _ t424 _ _ t414 false _ ?side1 ?side2 ?side3 ?side4 A25.out).mono ?_); (case side1 => repeat (first | exact (Kd.R_reads' HO427.out).2.2 | (with_reducible refine Kd.C_alloc ?_ _) | (with_reducible refine Kd.C_drewN ?_ _) | (with_reducible refine Kd.C_drew ?_))); (case side2 => exact (Kd.R_reads' HO427.out).2.1); (case side3 => repeat (first | exact (Kd.R_reads' HO417.out).2.2 | (with_reducible refine Kd.C_alloc ?_ _) | (with_reducible refine Kd.C_drewN ?_ _) | (with_reducible refine Kd.C_drew ?_))); (case side4 => exact (Kd.R_reads' HO417.out).2.1); rintro e w' ⟨rfl, ⟨nd, rfl⟩⟩; refine ⟨_, rfl, ?_⟩))
          go_meet
          case rel => exact ⟨_, (true), (by first | rfl | (simp; done) | (simp [*]; done)), H', ⟨by first | omega | exact Nat.le_refl _⟩, ⟨by (with_reducible repeat (first | apply Kd.R_alloc | apply Kd.R_drewN | apply Kd.R_drew)); exact Kd.R_mono HO417.out (fun _ hk => hk.2)⟩, ⟨by (with_reducible repeat (first | apply Kd.R_alloc | apply Kd.R_drewN | apply Kd.R_drew)); exact Kd.R_mono HO420.out (fun _ hk => hk.2)⟩, ⟨by (with_reducible repeat (first | apply Kd.R_alloc | apply Kd.R_drewN | apply Kd.R_drew)); exact Kd.R_mono HO423.out (fun _ hk => hk.2)⟩, ⟨by (with_reducible repeat (first | apply Kd.R_alloc | apply Kd.R_drewN | apply Kd.R_drew)); exact Kd.R_mono HO427.out (fun _ hk => hk.2)⟩, ⟨by repeat (first | (with_reducible first | exact HB.out | apply below_alloc | apply pw_below_drewN | apply below_drew1) | exact HB.out)⟩⟩
      case rest =>
        clear HC14
        try clear c1
        try clear c2
        try clear p2
        try clear c3
        try clear c5
        try clear c5b0
        try clear c7
        try clear c7b0
        try clear c8
        try clear c15
        try clear c17
        try clear c23
        try clear c26
        try clear c30
        obtain ⟨kq, x57_13, rfl, HA, HJ13, HO_8, HO_10, HO_11, HO_12, HB⟩ := hcut
        cases kq with
        | zero => exact absurd HA.out (by simp [laws_FnExactRoughUnits.j0])
        | succ kj13 =>
          have H := HA.out
          clear HA
          simp only [laws_FnExactRoughUnits.j0] at H
          by_cases c31 : x57_13 = true
          · subst c31
            have H1 : (some false) = some r := by rw [if_pos rfl] at H; exact H
            clear H
            have H := H1
            clear H1
            exact absurd ((Option.some.inj H).trans HT.out) (by decide)
          · replace c31 := Bool.eq_false_iff.mpr c31
            subst c31
            have H1 : ((laws_toNoteS.f kj13 l0).bind fun t429 => ((laws_eqNoteS.f kj13 t418 t429).bind fun t432 => (if t432 = true then ((laws_toNoteS.f kj13 l1).bind fun t433 => ((laws_eqNoteS.f kj13 t421 t433).bind fun t436 => (if t436 = true then ((laws_markNoteS.f kj13 t418 1).bind fun bt437 => ((laws_markNoteS.f kj13 t421 bt437.1).bind fun bt439 => (if bt439.1 < 0 then (laws_FnExactRoughUnits.j1 kj13 l0 l1 a2 t414 t415 t424 true) else ((laws_eqInt64S.f kj13 t424 t414).bind fun t441 => (if t441 = true then (laws_FnExactRoughUnits.j1 kj13 l0 l1 a2 t414 t415 t424 (t425 != t415)) else (laws_FnExactRoughUnits.j1 kj13 l0 l1 a2 t414 t415 t424 true)))))) else (some false)))) else (some false)))) = some r := by rw [if_neg (show ¬ (false = true) by decide)] at H; exact H
            clear H
            have H := H1
            clear H1
            replace H := Option.bind_eq_some_iff.mp H
            obtain ⟨t429, A320, H⟩ := H
            replace H : ((laws_eqNoteS.f kj13 t418 t429).bind fun t432 => (if t432 = true then ((laws_toNoteS.f kj13 l1).bind fun t433 => ((laws_eqNoteS.f kj13 t421 t433).bind fun t436 => (if t436 = true then ((laws_markNoteS.f kj13 t418 1).bind fun bt437 => ((laws_markNoteS.f kj13 t421 bt437.1).bind fun bt439 => (if bt439.1 < 0 then (laws_FnExactRoughUnits.j1 kj13 l0 l1 a2 t414 t415 t424 true) else ((laws_eqInt64S.f kj13 t424 t414).bind fun t441 => (if t441 = true then (laws_FnExactRoughUnits.j1 kj13 l0 l1 a2 t414 t415 t424 (t425 != t415)) else (laws_FnExactRoughUnits.j1 kj13 l0 l1 a2 t414 t415 t424 true)))))) else (some false)))) else (some false))) = some r := H
            have A32 := Aside0.mk A320
            clear A320
            replace H := Option.bind_eq_some_iff.mp H
            obtain ⟨t432, A330, H⟩ := H
            replace H : (if t432 = true then ((laws_toNoteS.f kj13 l1).bind fun t433 => ((laws_eqNoteS.f kj13 t421 t433).bind fun t436 => (if t436 = true then ((laws_markNoteS.f kj13 t418 1).bind fun bt437 => ((laws_markNoteS.f kj13 t421 bt437.1).bind fun bt439 => (if bt439.1 < 0 then (laws_FnExactRoughUnits.j1 kj13 l0 l1 a2 t414 t415 t424 true) else ((laws_eqInt64S.f kj13 t424 t414).bind fun t441 => (if t441 = true then (laws_FnExactRoughUnits.j1 kj13 l0 l1 a2 t414 t415 t424 (t425 != t415)) else (laws_FnExactRoughUnits.j1 kj13 l0 l1 a2 t414 t415 t424 true)))))) else (some false)))) else (some false)) = some r := H
            have A33 := Aside0.mk A330
            clear A330
            by_cases c34 : t432 = true
            · subst c34
              have H1 : ((laws_toNoteS.f kj13 l1).bind fun t433 => ((laws_eqNoteS.f kj13 t421 t433).bind fun t436 => (if t436 = true then ((laws_markNoteS.f kj13 t418 1).bind fun bt437 => ((laws_markNoteS.f kj13 t421 bt437.1).bind fun bt439 => (if bt439.1 < 0 then (laws_FnExactRoughUnits.j1 kj13 l0 l1 a2 t414 t415 t424 true) else ((laws_eqInt64S.f kj13 t424 t414).bind fun t441 => (if t441 = true then (laws_FnExactRoughUnits.j1 kj13 l0 l1 a2 t414 t415 t424 (t425 != t415)) else (laws_FnExactRoughUnits.j1 kj13 l0 l1 a2 t414 t415 t424 true)))))) else (some false)))) = some r := by rw [if_pos rfl] at H; exact H
              clear H
              have H := H1
              clear H1
              replace H := Option.bind_eq_some_iff.mp H
              obtain ⟨t433, A350, H⟩ := H
              replace H : ((laws_eqNoteS.f kj13 t421 t433).bind fun t436 => (if t436 = true then ((laws_markNoteS.f kj13 t418 1).bind fun bt437 => ((laws_markNoteS.f kj13 t421 bt437.1).bind fun bt439 => (if bt439.1 < 0 then (laws_FnExactRoughUnits.j1 kj13 l0 l1 a2 t414 t415 t424 true) else ((laws_eqInt64S.f kj13 t424 t414).bind fun t441 => (if t441 = true then (laws_FnExactRoughUnits.j1 kj13 l0 l1 a2 t414 t415 t424 (t425 != t415)) else (laws_FnExactRoughUnits.j1 kj13 l0 l1 a2 t414 t415 t424 true)))))) else (some false))) = some r := H
              have A35 := Aside0.mk A350
              clear A350
              replace H := Option.bind_eq_some_iff.mp H
              obtain ⟨t436, A360, H⟩ := H
              replace H : (if t436 = true then ((laws_markNoteS.f kj13 t418 1).bind fun bt437 => ((laws_markNoteS.f kj13 t421 bt437.1).bind fun bt439 => (if bt439.1 < 0 then (laws_FnExactRoughUnits.j1 kj13 l0 l1 a2 t414 t415 t424 true) else ((laws_eqInt64S.f kj13 t424 t414).bind fun t441 => (if t441 = true then (laws_FnExactRoughUnits.j1 kj13 l0 l1 a2 t414 t415 t424 (t425 != t415)) else (laws_FnExactRoughUnits.j1 kj13 l0 l1 a2 t414 t415 t424 true)))))) else (some false)) = some r := H
              have A36 := Aside0.mk A360
              clear A360
              by_cases c37 : t436 = true
              · subst c37
                have H1 : ((laws_markNoteS.f kj13 t418 1).bind fun bt437 => ((laws_markNoteS.f kj13 t421 bt437.1).bind fun bt439 => (if bt439.1 < 0 then (laws_FnExactRoughUnits.j1 kj13 l0 l1 a2 t414 t415 t424 true) else ((laws_eqInt64S.f kj13 t424 t414).bind fun t441 => (if t441 = true then (laws_FnExactRoughUnits.j1 kj13 l0 l1 a2 t414 t415 t424 (t425 != t415)) else (laws_FnExactRoughUnits.j1 kj13 l0 l1 a2 t414 t415 t424 true)))))) = some r := by rw [if_pos rfl] at H; exact H
                clear H
                have H := H1
                clear H1
                replace H := Option.bind_eq_some_iff.mp H
                obtain ⟨⟨t437, t438⟩, A380, H⟩ := H
                replace H : ((laws_markNoteS.f kj13 t421 t437).bind fun bt439 => (if bt439.1 < 0 then (laws_FnExactRoughUnits.j1 kj13 l0 l1 a2 t414 t415 t424 true) else ((laws_eqInt64S.f kj13 t424 t414).bind fun t441 => (if t441 = true then (laws_FnExactRoughUnits.j1 kj13 l0 l1 a2 t414 t415 t424 (t425 != t415)) else (laws_FnExactRoughUnits.j1 kj13 l0 l1 a2 t414 t415 t424 true))))) = some r := H
                have A38 := Aside0.mk A380
                clear A380
                replace H := Option.bind_eq_some_iff.mp H
                obtain ⟨⟨t439, t440⟩, A390, H⟩ := H
                replace H : (if t439 < 0 then (laws_FnExactRoughUnits.j1 kj13 l0 l1 a2 t414 t415 t424 true) else ((laws_eqInt64S.f kj13 t424 t414).bind fun t441 => (if t441 = true then (laws_FnExactRoughUnits.j1 kj13 l0 l1 a2 t414 t415 t424 (t425 != t415)) else (laws_FnExactRoughUnits.j1 kj13 l0 l1 a2 t414 t415 t424 true)))) = some r := H
                have A39 := Aside0.mk A390
                clear A390
                have HC40 := Aside0.mk H
                clear H
                go_upto_region 21 with (first | ((with_reducible refine gate_callee (f := 17) rfl ?_); refine goesL_ (some 60) rfl rfl Try.func17 (by kernel_rfl) rfl #[.slice A0 l0.length c0] rfl (by (try simp only [List.map_toArray, List.map_cons, List.map_nil]); first | done | rfl | (simp only [List.length_drop, List.length_take]; rfl)) ?_; (with_reducible refine (laws_toNoteS.calls kj13 _ _ l0 t429 _ ?side1 ?side2 A32.out).mono ?_); (case side1 => repeat (first | exact (Kd.C_below HR0.out HB.out) | (with_reducible refine Kd.C_alloc ?_ _) | (with_reducible refine Kd.C_drewN ?_ _) | (with_reducible refine Kd.C_drew ?_))); (case side2 => exact HC0.out); rintro e w41 ⟨v430, rfl, ho0, hb⟩; refine ⟨_, rfl, ?_⟩; have n0_ := Aside0.mk (Kd.R_below (by (with_reducible repeat (first | apply Kd.R_alloc | apply Kd.R_drewN | apply Kd.R_drew)); exact HO_8.out) hb); have n1_ := Aside0.mk (Kd.R_elder' (by (with_reducible repeat (first | apply Kd.R_alloc | apply Kd.R_drewN | apply Kd.R_drew)); exact HO_10.out) (Kd.R_base ho0) hb); have n2_ := Aside0.mk (Kd.R_elder' (by (with_reducible repeat (first | apply Kd.R_alloc | apply Kd.R_drewN | apply Kd.R_drew)); exact HO_11.out) (Kd.R_base ho0) hb); have n3_ := Aside0.mk (Kd.R_below (by (with_reducible repeat (first | apply Kd.R_alloc | apply Kd.R_drewN | apply Kd.R_drew)); exact HO_12.out) hb); have n4_ := Aside0.mk (Kd.R_lower (Kd.R_new' (Kd.R_new' ho0 (Kd.R_lt (by (with_reducible repeat (first | apply Kd.R_alloc | apply Kd.R_drewN | apply Kd.R_drew)); exact HO_10.out))) (Kd.R_lt (by (with_reducible repeat (first | apply Kd.R_alloc | apply Kd.R_drewN | apply Kd.R_drew)); exact HO_11.out))) (below_size (by repeat (first | (with_reducible first | exact HB.out | apply below_alloc | apply pw_below_drewN | apply below_drew1) | exact HB.out)))); have n5_ := Aside0.mk (below_step (by repeat (first | (with_reducible first | exact HB.out | apply below_alloc | apply pw_below_drewN | apply below_drew1) | exact HB.out)) hb); clear HO_8; clear HO_10; clear HO_11; clear HO_12; clear HB; have HO_8 := n0_; have HO_10 := n1_; have HO_11 := n2_; have HO_12 := n3_; have HO431 := n4_; have HB := n5_; clear n0_ n1_ n2_ n3_ n4_ n5_; (try clear hb); (try clear hb2); (try clear hk); (try clear hi); (try clear ho0); obtain ⟨Ao42, co42, eo42⟩ := Kd.R_slice HO431.out; subst eo42) | ((with_reducible refine gate_callee (f := 19) rfl ?_); refine goesL_ (some 61) rfl rfl Try.func19 (by kernel_rfl) rfl #[.slice Ao22 t418.length co22, .slice Ao42 t429.length co42] rfl (by (try simp only [List.map_toArray, List.map_cons, List.map_nil]); first | done | rfl | (simp only [List.length_drop, List.length_take]; rfl)) ?_; (with_reducible refine (laws_eqNoteS.calls kj13 _ _ t418 _ _ t429 true _ ?side1 ?side2 ?side3 ?side4 A33.out).mono ?_); (case side1 => repeat (first | exact (Kd.R_reads' HO_10.out).2.2 | (with_reducible refine Kd.C_alloc ?_ _) | (with_reducible refine Kd.C_drewN ?_ _) | (with_reducible refine Kd.C_drew ?_))); (case side2 => exact (Kd.R_reads' HO_10.out).2.1); (case side3 => repeat (first | exact (Kd.R_reads' HO431.out).2.2 | (with_reducible refine Kd.C_alloc ?_ _) | (with_reducible refine Kd.C_drewN ?_ _) | (with_reducible refine Kd.C_drew ?_))); (case side4 => exact (Kd.R_reads' HO431.out).2.1); rintro e w43 ⟨rfl, hb⟩; refine ⟨_, rfl, ?_⟩; have n0_ := Aside0.mk (Kd.R_below (by (with_reducible repeat (first | apply Kd.R_alloc | apply Kd.R_drewN | apply Kd.R_drew)); exact HO_8.out) hb); have n1_ := Aside0.mk (Kd.R_below (by (with_reducible repeat (first | apply Kd.R_alloc | apply Kd.R_drewN | apply Kd.R_drew)); exact HO_10.out) hb); have n2_ := Aside0.mk (Kd.R_below (by (with_reducible repeat (first | apply Kd.R_alloc | apply Kd.R_drewN | apply Kd.R_drew)); exact HO_11.out) hb); have n3_ := Aside0.mk (Kd.R_below (by (with_reducible repeat (first | apply Kd.R_alloc | apply Kd.R_drewN | apply Kd.R_drew)); exact HO_12.out) hb); have n4_ := Aside0.mk (Kd.R_below (by (with_reducible repeat (first | apply Kd.R_alloc | apply Kd.R_drewN | apply Kd.R_drew)); exact HO431.out) hb); have n5_ := Aside0.mk (below_step (by repeat (first | (with_reducible first | exact HB.out | apply below_alloc | apply pw_below_drewN | apply below_drew1) | exact HB.out)) hb); clear HO_8; clear HO_10; clear HO_11; clear HO_12; clear HO431; clear HB; have HO_8 := n0_; have HO_10 := n1_; have HO_11 := n2_; have HO_12 := n3_; have HO431 := n4_; have HB := n5_; clear n0_ n1_ n2_ n3_ n4_ n5_; (try clear hb); (try clear hb2); (try clear hk); (try clear hi)) | ((with_reducible refine gate_callee (f := 17) rfl ?_); refine goesL_ (some 65) rfl rfl Try.func17 (by kernel_rfl) rfl #[.slice A1 l1.length c1] rfl (by (try simp only [List.map_toArray, List.map_cons, List.map_nil]); first | done | rfl | (simp only [List.length_drop, List.length_take]; rfl)) ?_; (with_reducible refine (laws_toNoteS.calls kj13 _ _ l1 t433 _ ?side1 ?side2 A35.out).mono ?_); (case side1 => repeat (first | exact (Kd.C_below HR1.out HB.out) | (with_reducible refine Kd.C_alloc ?_ _) | (with_reducible refine Kd.C_drewN ?_ _) | (with_reducible refine Kd.C_drew ?_))); (case side2 => exact HC1.out); rintro e w44 ⟨v434, rfl, ho0, hb⟩; refine ⟨_, rfl, ?_⟩; have n0_ := Aside0.mk (Kd.R_below (by (with_reducible repeat (first | apply Kd.R_alloc | apply Kd.R_drewN | apply Kd.R_drew)); exact HO_8.out) hb); have n1_ := Aside0.mk (Kd.R_elder' (by (with_reducible repeat (first | apply Kd.R_alloc | apply Kd.R_drewN | apply Kd.R_drew)); exact HO_10.out) (Kd.R_base ho0) hb); have n2_ := Aside0.mk (Kd.R_elder' (by (with_reducible repeat (first | apply Kd.R_alloc | apply Kd.R_drewN | apply Kd.R_drew)); exact HO_11.out) (Kd.R_base ho0) hb); have n3_ := Aside0.mk (Kd.R_below (by (with_reducible repeat (first | apply Kd.R_alloc | apply Kd.R_drewN | apply Kd.R_drew)); exact HO_12.out) hb); have n4_ := Aside0.mk (Kd.R_elder' (by (with_reducible repeat (first | apply Kd.R_alloc | apply Kd.R_drewN | apply Kd.R_drew)); exact HO431.out) (Kd.R_base ho0) hb); have n5_ := Aside0.mk (Kd.R_lower (Kd.R_new' (Kd.R_new' (Kd.R_new' ho0 (Kd.R_lt (by (with_reducible repeat (first | apply Kd.R_alloc | apply Kd.R_drewN | apply Kd.R_drew)); exact HO_10.out))) (Kd.R_lt (by (with_reducible repeat (first | apply Kd.R_alloc | apply Kd.R_drewN | apply Kd.R_drew)); exact HO_11.out))) (Kd.R_lt (by (with_reducible repeat (first | apply Kd.R_alloc | apply Kd.R_drewN | apply Kd.R_drew)); exact HO431.out))) (below_size (by repeat (first | (with_reducible first | exact HB.out | apply below_alloc | apply pw_below_drewN | apply below_drew1) | exact HB.out)))); have n6_ := Aside0.mk (below_step (by repeat (first | (with_reducible first | exact HB.out | apply below_alloc | apply pw_below_drewN | apply below_drew1) | exact HB.out)) hb); clear HO_8; clear HO_10; clear HO_11; clear HO_12; clear HO431; clear HB; have HO_8 := n0_; have HO_10 := n1_; have HO_11 := n2_; have HO_12 := n3_; have HO431 := n4_; have HO435 := n5_; have HB := n6_; clear n0_ n1_ n2_ n3_ n4_ n5_ n6_; (try clear hb); (try clear hb2); (try clear hk); (try clear hi); (try clear ho0); obtain ⟨Ao45, co45, eo45⟩ := Kd.R_slice HO435.out; subst eo45) | ((with_reducible refine gate_callee (f := 19) rfl ?_); refine goesL_ (some 66) rfl rfl Try.func19 (by kernel_rfl) rfl #[.slice Ao23 t421.length co23, .slice Ao45 t433.length co45] rfl (by (try simp only [List.map_toArray, List.map_cons, List.map_nil]); first | done | rfl | (simp only [List.length_drop, List.length_take]; rfl)) ?_; (with_reducible refine (laws_eqNoteS.calls kj13 _ _ t421 _ _ t433 true _ ?side1 ?side2 ?side3 ?side4 A36.out).mono ?_); (case side1 => repeat (first | exact (Kd.R_reads' HO_11.out).2.2 | (with_reducible refine Kd.C_alloc ?_ _) | (with_reducible refine Kd.C_drewN ?_ _) | (with_reducible refine Kd.C_drew ?_))); (case side2 => exact (Kd.R_reads' HO_11.out).2.1); (case side3 => repeat (first | exact (Kd.R_reads' HO435.out).2.2 | (with_reducible refine Kd.C_alloc ?_ _) | (with_reducible refine Kd.C_drewN ?_ _) | (with_reducible refine Kd.C_drew ?_))); (case side4 => exact (Kd.R_reads' HO435.out).2.1); rintro e w46 ⟨rfl, hb⟩; refine ⟨_, rfl, ?_⟩; have n0_ := Aside0.mk (Kd.R_below (by (with_reducible repeat (first | apply Kd.R_alloc | apply Kd.R_drewN | apply Kd.R_drew)); exact HO_8.out) hb); have n1_ := Aside0.mk (Kd.R_below (by (with_reducible repeat (first | apply Kd.R_alloc | apply Kd.R_drewN | apply Kd.R_drew)); exact HO_10.out) hb); have n2_ := Aside0.mk (Kd.R_below (by (with_reducible repeat (first | apply Kd.R_alloc | apply Kd.R_drewN | apply Kd.R_drew)); exact HO_11.out) hb); have n3_ := Aside0.mk (Kd.R_below (by (with_reducible repeat (first | apply Kd.R_alloc | apply Kd.R_drewN | apply Kd.R_drew)); exact HO_12.out) hb); have n4_ := Aside0.mk (Kd.R_below (by (with_reducible repeat (first | apply Kd.R_alloc | apply Kd.R_drewN | apply Kd.R_drew)); exact HO431.out) hb); have n5_ := Aside0.mk (Kd.R_below (by (with_reducible repeat (first | apply Kd.R_alloc | apply Kd.R_drewN | apply Kd.R_drew)); exact HO435.out) hb); have n6_ := Aside0.mk (below_step (by repeat (first | (with_reducible first | exact HB.out | apply below_alloc | apply pw_below_drewN | apply below_drew1) | exact HB.out)) hb); clear HO_8; clear HO_10; clear HO_11; clear HO_12; clear HO431; clear HO435; clear HB; have HO_8 := n0_; have HO_10 := n1_; have HO_11 := n2_; have HO_12 := n3_; have HO431 := n4_; have HO435 := n5_; have HB := n6_; clear n0_ n1_ n2_ n3_ n4_ n5_ n6_; (try clear hb); (try clear hb2); (try clear hk); (try clear hi)) | ((with_reducible refine gate_callee (f := 32) rfl ?_); refine goesL_ (some 70) rfl rfl Try.func32 (by kernel_rfl) rfl #[.slice Ao22 t418.length co22, .int .i64 1] rfl (by (try simp only [List.map_toArray, List.map_cons, List.map_nil]); first | done | rfl | (simp only [List.length_drop, List.length_take]; rfl)) ?_; (with_reducible refine (laws_markNoteS.calls kj13 (fun k_ => some k_ = (.slice Ao22 t418.length co22 : Value).ownBlock) (.slice Ao22 t418.length co22) t418 1 t437 t438 w _ ?side1 ?side2 A38.out).mono ?_); (case side1 => repeat (first | (with_reducible first | exact HB.out | apply below_alloc | apply pw_below_drewN | apply below_drew1) | exact HB.out)); (case side2 => exact Kd.R_tight rfl HO_10.out); rintro e w47 ⟨rfl, hy0, hb, hkp⟩; refine ⟨_, rfl, ?_⟩; have n0_ := Aside0.mk (Kd.R_mono (ok' := fun k_ => some k_ ≠ (v426 : Value).ownBlock) (Kd.R_keptB ((Kd.R_apart' HO_8.out (Kd.R_typed HO_10.out) (by decide))) hkp (fun k_ hk_ hs_ => (hk_.2) hs_)) (fun k_ hk_ => hk_.1.1)); have n1_ := Aside0.mk (Kd.R_reok rfl hy0 (fun k_ e_ => HO_10.out.1 k_ e_)); have n2_ := Aside0.mk (Kd.R_mono (ok' := fun k_ => some k_ ≠ (.slice Ao22 t418.length co22 : Value).ownBlock ∧ some k_ ≠ (.slice Ao42 t429.length co42 : Value).ownBlock ∧ some k_ ≠ (.slice Ao45 t433.length co45 : Value).ownBlock) (Kd.R_keptB (HO_11.out) hkp (fun k_ hk_ hs_ => (hk_.1.1) hs_)) (fun k_ hk_ => ⟨hk_.1.1.1, hk_.1.1.2, hk_.1.2⟩)); have n3_ := Aside0.mk (Kd.R_mono (ok' := fun k_ => some k_ ≠ (v416 : Value).ownBlock) (Kd.R_keptB ((Kd.R_apart' HO_12.out (Kd.R_typed HO_10.out) (by decide))) hkp (fun k_ hk_ hs_ => (hk_.2) hs_)) (fun k_ hk_ => hk_.1.1)); have n4_ := Aside0.mk (Kd.R_mono (ok' := fun k_ => some k_ ≠ (.slice Ao22 t418.length co22 : Value).ownBlock ∧ some k_ ≠ (.slice Ao23 t421.length co23 : Value).ownBlock ∧ some k_ ≠ (.slice Ao45 t433.length co45 : Value).ownBlock) (Kd.R_keptB (HO431.out) hkp (fun k_ hk_ hs_ => (hk_.1.1.2) hs_)) (fun k_ hk_ => ⟨hk_.1.1.1.2, hk_.1.1.2, hk_.1.2⟩)); have n5_ := Aside0.mk (Kd.R_mono (ok' := fun k_ => some k_ ≠ (.slice Ao22 t418.length co22 : Value).ownBlock ∧ some k_ ≠ (.slice Ao23 t421.length co23 : Value).ownBlock ∧ some k_ ≠ (.slice Ao42 t429.length co42 : Value).ownBlock) (Kd.R_keptB (HO435.out) hkp (fun k_ hk_ hs_ => (hk_.1.1.2) hs_)) (fun k_ hk_ => ⟨hk_.1.1.1.2, hk_.1.1.2, hk_.1.2⟩)); have n6_ := Aside0.mk (hb); clear HO_8; clear HO_10; clear HO_11; clear HO_12; clear HO431; clear HO435; clear HB; have HO_8 := n0_; have HO_10 := n1_; have HO_11 := n2_; have HO_12 := n3_; have HO431 := n4_; have HO435 := n5_; have HB := n6_; clear n0_ n1_ n2_ n3_ n4_ n5_ n6_; (try clear hb); (try clear hkp); (try clear hy0)) | ((with_reducible refine gate_callee (f := 32) rfl ?_); refine goesL_ (some 73) rfl rfl Try.func32 (by kernel_rfl) rfl #[.slice Ao23 t421.length co23, .int .i64 t437] rfl (by (try simp only [List.map_toArray, List.map_cons, List.map_nil]); first | done | rfl | (simp only [List.length_drop, List.length_take]; rfl)) ?_; (with_reducible refine (laws_markNoteS.calls kj13 (fun k_ => some k_ = (.slice Ao23 t421.length co23 : Value).ownBlock) (.slice Ao23 t421.length co23) t421 t437 t439 t440 w _ ?side1 ?side2 A39.out).mono ?_); (case side1 => repeat (first | (with_reducible first | exact HB.out | apply below_alloc | apply pw_below_drewN | apply below_drew1) | exact HB.out)); (case side2 => exact Kd.R_tight rfl HO_11.out); rintro e w48 ⟨rfl, hy0, hb, hkp⟩; refine ⟨_, rfl, ?_⟩; have n0_ := Aside0.mk (Kd.R_mono (ok' := fun k_ => some k_ ≠ (v426 : Value).ownBlock) (Kd.R_keptB ((Kd.R_apart' HO_8.out (Kd.R_typed HO_11.out) (by decide))) hkp (fun k_ hk_ hs_ => (hk_.2) hs_)) (fun k_ hk_ => hk_.1.1)); have n1_ := Aside0.mk (Kd.R_mono (ok' := fun k_ => some k_ ≠ (.slice Ao23 t421.length co23 : Value).ownBlock ∧ some k_ ≠ (.slice Ao42 t429.length co42 : Value).ownBlock ∧ some k_ ≠ (.slice Ao45 t433.length co45 : Value).ownBlock) (Kd.R_keptB (HO_10.out) hkp (fun k_ hk_ hs_ => (hk_.1.1) hs_)) (fun k_ hk_ => ⟨hk_.1.1.1, hk_.1.1.2, hk_.1.2⟩)); have n2_ := Aside0.mk (Kd.R_reok rfl hy0 (fun k_ e_ => HO_11.out.1 k_ e_)); have n3_ := Aside0.mk (Kd.R_mono (ok' := fun k_ => some k_ ≠ (v416 : Value).ownBlock) (Kd.R_keptB ((Kd.R_apart' HO_12.out (Kd.R_typed HO_11.out) (by decide))) hkp (fun k_ hk_ hs_ => (hk_.2) hs_)) (fun k_ hk_ => hk_.1.1)); have n4_ := Aside0.mk (Kd.R_mono (ok' := fun k_ => some k_ ≠ (.slice Ao22 t418.length co22 : Value).ownBlock ∧ some k_ ≠ (.slice Ao23 t421.length co23 : Value).ownBlock ∧ some k_ ≠ (.slice Ao45 t433.length co45 : Value).ownBlock) (Kd.R_keptB (HO431.out) hkp (fun k_ hk_ hs_ => (hk_.2.1) hs_)) (fun k_ hk_ => ⟨hk_.1.1, hk_.1.2.1, hk_.1.2.2⟩)); have n5_ := Aside0.mk (Kd.R_mono (ok' := fun k_ => some k_ ≠ (.slice Ao22 t418.length co22 : Value).ownBlock ∧ some k_ ≠ (.slice Ao23 t421.length co23 : Value).ownBlock ∧ some k_ ≠ (.slice Ao42 t429.length co42 : Value).ownBlock) (Kd.R_keptB (HO435.out) hkp (fun k_ hk_ hs_ => (hk_.2.1) hs_)) (fun k_ hk_ => ⟨hk_.1.1, hk_.1.2.1, hk_.1.2.2⟩)); have n6_ := Aside0.mk (hb); clear HO_8; clear HO_10; clear HO_11; clear HO_12; clear HO431; clear HO435; clear HB; have HO_8 := n0_; have HO_10 := n1_; have HO_11 := n2_; have HO_12 := n3_; have HO431 := n4_; have HO435 := n5_; have HB := n6_; clear n0_ n1_ n2_ n3_ n4_ n5_ n6_; (try clear hb); (try clear hkp); (try clear hy0)))
                (try simp only [Act.put, List.setIfInBounds_toArray, List.set_cons_zero, List.set_cons_succ])
                go_cut [86] (fun v86 wc => ∃ (kq : Nat) (x86_39 : Bool), v86 = .bool x86_39 ∧ Aside0 (laws_FnExactRoughUnits.j1 kq l0 l1 a2 t414 t415 t424 x86_39 = some r) ∧ Aside0 (kq ≤ kj13) ∧ Aside0 (Kd.R (Kd.int .i64) 2 wc w.heap.size (fun k_ => some k_ ≠ (v426 : Value).ownBlock) v416 t414) ∧ Aside0 (Kd.R (Kd.int .i64) 2 wc w.heap.size (fun k_ => some k_ ≠ (v416 : Value).ownBlock) v426 t424) ∧ Aside0 (Below w.heap.size w wc))
                case first =>
                  have H := HC40.out
                  clear HC40
                  by_cases c49 : t439 < 0
                  · rw [if_pos c49] at H
                    have c49b0 : decide (t439 < 0) = true := decide_eq_true c49
                    clear c49
                    (first | rw [c49b0] | (simp only [i64_w, i32_w]; rw [c49b0]) | skip)
                    have H' := Aside0.mk H
                    clear H
                    go_wp2
                    go_meet
                    case rel => exact ⟨_, (true), (by first | rfl | (simp; done) | (simp [*]; done)), H', ⟨by have := HJ13.out; first | omega | exact Nat.le_refl _⟩, ⟨by (with_reducible repeat (first | apply Kd.R_alloc | apply Kd.R_drewN | apply Kd.R_drew)); exact HO_8.out⟩, ⟨by (with_reducible repeat (first | apply Kd.R_alloc | apply Kd.R_drewN | apply Kd.R_drew)); exact HO_12.out⟩, ⟨by repeat (first | (with_reducible first | exact HB.out | apply below_alloc | apply pw_below_drewN | apply below_drew1) | exact HB.out)⟩⟩
                  · rw [if_neg c49] at H
                    have c49b0 : decide (t439 < 0) = false := decide_eq_false c49
                    clear c49
                    (first | rw [c49b0] | (simp only [i64_w, i32_w]; rw [c49b0]) | skip)
                    replace H := Option.bind_eq_some_iff.mp H
                    obtain ⟨t441, A500, H⟩ := H
                    replace H : (if t441 = true then (laws_FnExactRoughUnits.j1 kj13 l0 l1 a2 t414 t415 t424 (t425 != t415)) else (laws_FnExactRoughUnits.j1 kj13 l0 l1 a2 t414 t415 t424 true)) = some r := H
                    have A50 := Aside0.mk A500
                    clear A500
                    by_cases c51 : t441 = true
                    · subst c51
                      have H1 : (laws_FnExactRoughUnits.j1 kj13 l0 l1 a2 t414 t415 t424 (t425 != t415)) = some r := by rw [if_pos rfl] at H; exact H
                      clear H
                      have H := H1
                      clear H1
                      have H' := Aside0.mk H
                      clear H
                      obtain ⟨Ao52, co52, eo52⟩ := Kd.R_slice HO_12.out
                      subst eo52
                      obtain ⟨Ao53, co53, eo53⟩ := Kd.R_slice HO_8.out
                      subst eo53
                      go_wp2_with (first | (go_at_call 23; (with_reducible refine (laws_eqInt64S.calls kj13 _ _ t424 _ _ t414 true _ ?side1 ?side2 ?side3 ?side4 A50.out).mono ?_); (case side1 => repeat (first | exact (Kd.R_reads' HO_12.out).2.2 | (with_reducible refine Kd.C_alloc ?_ _) | (with_reducible refine Kd.C_drewN ?_ _) | (with_reducible refine Kd.C_drew ?_))); (case side2 => exact (Kd.R_reads' HO_12.out).2.1); (case side3 => repeat (first | exact (Kd.R_reads' HO_8.out).2.2 | (with_reducible refine Kd.C_alloc ?_ _) | (with_reducible refine Kd.C_drewN ?_ _) | (with_reducible refine Kd.C_drew ?_))); (case side4 => exact (Kd.R_reads' HO_8.out).2.1); rintro e w' ⟨rfl, ⟨nd, rfl⟩⟩))
                      go_meet
                      case rel => exact ⟨_, ((t425 != t415)), (by first | rfl | (simp; done) | (simp [*]; done)), H', ⟨by have := HJ13.out; first | omega | exact Nat.le_refl _⟩, ⟨by (with_reducible repeat (first | apply Kd.R_alloc | apply Kd.R_drewN | apply Kd.R_drew)); exact HO_8.out⟩, ⟨by (with_reducible repeat (first | apply Kd.R_alloc | apply Kd.R_drewN | apply Kd.R_drew)); exact HO_12.out⟩, ⟨by repeat (first | (with_reducible first | exact HB.out | apply below_alloc | apply pw_below_drewN | apply below_drew1) | exact HB.out)⟩⟩
                    · replace c51 := Bool.eq_false_iff.mpr c51
                      subst c51
                      have H1 : (laws_FnExactRoughUnits.j1 kj13 l0 l1 a2 t414 t415 t424 true) = some r := by rw [if_neg (show ¬ (false = true) by decide)] at H; exact H
                      clear H
                      have H := H1
                      clear H1
                      have H' := Aside0.mk H
                      clear H
                      obtain ⟨Ao54, co54, eo54⟩ := Kd.R_slice HO_12.out
                      subst eo54
                      obtain ⟨Ao55, co55, eo55⟩ := Kd.R_slice HO_8.out
                      subst eo55
                      go_wp2_with (first | (go_at_call 23; (with_reducible refine (laws_eqInt64S.calls kj13 _ _ t424 _ _ t414 false _ ?side1 ?side2 ?side3 ?side4 A50.out).mono ?_); (case side1 => repeat (first | exact (Kd.R_reads' HO_12.out).2.2 | (with_reducible refine Kd.C_alloc ?_ _) | (with_reducible refine Kd.C_drewN ?_ _) | (with_reducible refine Kd.C_drew ?_))); (case side2 => exact (Kd.R_reads' HO_12.out).2.1); (case side3 => repeat (first | exact (Kd.R_reads' HO_8.out).2.2 | (with_reducible refine Kd.C_alloc ?_ _) | (with_reducible refine Kd.C_drewN ?_ _) | (with_reducible refine Kd.C_drew ?_))); (case side4 => exact (Kd.R_reads' HO_8.out).2.1); rintro e w' ⟨rfl, ⟨nd, rfl⟩⟩))
                      go_meet
                      case rel => exact ⟨_, (true), (by first | rfl | (simp; done) | (simp [*]; done)), H', ⟨by have := HJ13.out; first | omega | exact Nat.le_refl _⟩, ⟨by (with_reducible repeat (first | apply Kd.R_alloc | apply Kd.R_drewN | apply Kd.R_drew)); exact HO_8.out⟩, ⟨by (with_reducible repeat (first | apply Kd.R_alloc | apply Kd.R_drewN | apply Kd.R_drew)); exact HO_12.out⟩, ⟨by repeat (first | (with_reducible first | exact HB.out | apply below_alloc | apply pw_below_drewN | apply below_drew1) | exact HB.out)⟩⟩
                case rest =>
                  clear HC40
                  try clear c1
                  try clear c2
                  try clear p2
                  try clear c3
                  try clear c4
                  try clear c5
                  try clear c5b0
                  try clear c7
                  try clear c7b0
                  try clear c8
                  try clear c15
                  try clear c17
                  try clear c19
                  try clear c23
                  try clear c26
                  try clear c30
                  try clear c31
                  try clear c32
                  try clear c34
                  try clear c37
                  try clear c49
                  try clear c49b0
                  try clear c51
                  try clear p2
                  obtain ⟨kq, x86_39, rfl, HA, HJ39, HO_8, HO_12, HB⟩ := hcut
                  cases kq with
                  | zero => exact absurd HA.out (by simp [laws_FnExactRoughUnits.j1])
                  | succ kj39 =>
                    have H := HA.out
                    clear HA
                    simp only [laws_FnExactRoughUnits.j1] at H
                    by_cases c56 : x86_39 = true
                    · subst c56
                      have H1 : (some false) = some r := by rw [if_pos rfl] at H; exact H
                      clear H
                      have H := H1
                      clear H1
                      exact absurd ((Option.some.inj H).trans HT.out) (by decide)
                    · replace c56 := Bool.eq_false_iff.mpr c56
                      subst c56
                      have H1 : ((laws_markInt64S.f kj39 t424 1).bind fun bt442 => ((laws_heldInt64S.f kj39 bt442.2 1).bind fun t444 => (if t444 < 0 then (some false) else (if t444 = bt442.1 then ((laws_toNoteS.f kj39 l0).bind fun t445 => ((laws_toNoteS.f kj39 l1).bind fun t448 => ((impl_RoughUnits.f kj39 t445 t448 a2).bind fun bt451 => ((laws_eqInt64S.f kj39 bt451.1 t414).bind fun t455 => (if t455 = true then (laws_FnExactRoughUnits.j2 kj39 bt442.2 bt442.1 (bt451.2 != t415)) else (laws_FnExactRoughUnits.j2 kj39 bt442.2 bt442.1 true)))))) else (some false))))) = some r := by rw [if_neg (show ¬ (false = true) by decide)] at H; exact H
                      clear H
                      have H := H1
                      clear H1
                      replace H := Option.bind_eq_some_iff.mp H
                      obtain ⟨⟨t442, t443⟩, A570, H⟩ := H
                      replace H : ((laws_heldInt64S.f kj39 t443 1).bind fun t444 => (if t444 < 0 then (some false) else (if t444 = t442 then ((laws_toNoteS.f kj39 l0).bind fun t445 => ((laws_toNoteS.f kj39 l1).bind fun t448 => ((impl_RoughUnits.f kj39 t445 t448 a2).bind fun bt451 => ((laws_eqInt64S.f kj39 bt451.1 t414).bind fun t455 => (if t455 = true then (laws_FnExactRoughUnits.j2 kj39 t443 t442 (bt451.2 != t415)) else (laws_FnExactRoughUnits.j2 kj39 t443 t442 true)))))) else (some false)))) = some r := H
                      have A57 := Aside0.mk A570
                      clear A570
                      replace H := Option.bind_eq_some_iff.mp H
                      obtain ⟨t444, A580, H⟩ := H
                      replace H : (if t444 < 0 then (some false) else (if t444 = t442 then ((laws_toNoteS.f kj39 l0).bind fun t445 => ((laws_toNoteS.f kj39 l1).bind fun t448 => ((impl_RoughUnits.f kj39 t445 t448 a2).bind fun bt451 => ((laws_eqInt64S.f kj39 bt451.1 t414).bind fun t455 => (if t455 = true then (laws_FnExactRoughUnits.j2 kj39 t443 t442 (bt451.2 != t415)) else (laws_FnExactRoughUnits.j2 kj39 t443 t442 true)))))) else (some false))) = some r := H
                      have A58 := Aside0.mk A580
                      clear A580
                      by_cases c59 : t444 < 0
                      · rw [if_pos c59] at H
                        have c59b0 : decide (t444 < 0) = true := decide_eq_true c59
                        clear c59
                        exact absurd ((Option.some.inj H).trans HT.out) (by decide)
                      · rw [if_neg c59] at H
                        have c59b0 : decide (t444 < 0) = false := decide_eq_false c59
                        clear c59
                        by_cases c60 : t444 = t442
                        · rw [if_pos c60] at H
                          have c60b0 : (t444 == t442) = true := beq_iff_eq.mpr c60
                          have c60b1 : (t444 != t442) = false := bne_eq_false_iff_eq.mpr c60
                          clear c60
                          replace H := Option.bind_eq_some_iff.mp H
                          obtain ⟨t445, A610, H⟩ := H
                          replace H : ((laws_toNoteS.f kj39 l1).bind fun t448 => ((impl_RoughUnits.f kj39 t445 t448 a2).bind fun bt451 => ((laws_eqInt64S.f kj39 bt451.1 t414).bind fun t455 => (if t455 = true then (laws_FnExactRoughUnits.j2 kj39 t443 t442 (bt451.2 != t415)) else (laws_FnExactRoughUnits.j2 kj39 t443 t442 true))))) = some r := H
                          have A61 := Aside0.mk A610
                          clear A610
                          replace H := Option.bind_eq_some_iff.mp H
                          obtain ⟨t448, A620, H⟩ := H
                          replace H : ((impl_RoughUnits.f kj39 t445 t448 a2).bind fun bt451 => ((laws_eqInt64S.f kj39 bt451.1 t414).bind fun t455 => (if t455 = true then (laws_FnExactRoughUnits.j2 kj39 t443 t442 (bt451.2 != t415)) else (laws_FnExactRoughUnits.j2 kj39 t443 t442 true)))) = some r := H
                          have A62 := Aside0.mk A620
                          clear A620
                          replace H := Option.bind_eq_some_iff.mp H
                          obtain ⟨⟨t451, t452⟩, A630, H⟩ := H
                          replace H : ((laws_eqInt64S.f kj39 t451 t414).bind fun t455 => (if t455 = true then (laws_FnExactRoughUnits.j2 kj39 t443 t442 (t452 != t415)) else (laws_FnExactRoughUnits.j2 kj39 t443 t442 true))) = some r := H
                          have A63 := Aside0.mk A630
                          clear A630
                          have HC64 := Aside0.mk H
                          clear H
                          obtain ⟨Ao65, co65, eo65⟩ := Kd.R_slice HO_12.out
                          subst eo65
                          go_upto_region 32 with (first | ((with_reducible refine gate_callee (f := 33) rfl ?_); refine goesL_ (some 89) rfl rfl Try.func33 (by kernel_rfl) rfl #[.slice Ao65 t424.length co65, .int .i64 1] rfl (by (try simp only [List.map_toArray, List.map_cons, List.map_nil]); first | done | rfl | (simp only [List.length_drop, List.length_take]; rfl)) ?_; (with_reducible refine (laws_markInt64S.calls kj39 (fun k_ => some k_ = (.slice Ao65 t424.length co65 : Value).ownBlock) (.slice Ao65 t424.length co65) t424 1 t442 t443 w _ ?side1 ?side2 A57.out).mono ?_); (case side1 => repeat (first | (with_reducible first | exact HB.out | apply below_alloc | apply pw_below_drewN | apply below_drew1) | exact HB.out)); (case side2 => exact Kd.R_tight rfl HO_12.out); rintro e w66 ⟨rfl, hy0, hb, hkp⟩; refine ⟨_, rfl, ?_⟩; have n0_ := Aside0.mk (Kd.R_mono (ok' := fun k_ => some k_ ≠ (.slice Ao65 t424.length co65 : Value).ownBlock) (Kd.R_keptB (HO_8.out) hkp (fun k_ hk_ hs_ => (hk_) hs_)) (fun k_ hk_ => hk_.1)); have n1_ := Aside0.mk (Kd.R_reok rfl hy0 (fun k_ e_ => HO_12.out.1 k_ e_)); have n2_ := Aside0.mk (hb); clear HO_8; clear HO_12; clear HB; have HO_8 := n0_; have HO_12 := n1_; have HB := n2_; clear n0_ n1_ n2_; (try clear hb); (try clear hkp); (try clear hy0)) | ((with_reducible refine gate_callee (f := 34) rfl ?_); refine goesL_ (some 92) rfl rfl Try.func34 (by kernel_rfl) rfl #[.slice Ao65 t443.length co65, .int .i64 1] rfl (by (try simp only [List.map_toArray, List.map_cons, List.map_nil]); first | done | (rw [show t443.length = t424.length from (Kd.R_reads' HO_12.out).1.symm] <;> rfl) | rfl | (simp only [List.length_drop, List.length_take]; rfl)) ?_; (with_reducible refine (laws_heldInt64S.calls kj39 _ _ t443 1 t444 _ ?side1 ?side2 A58.out).mono ?_); (case side1 => repeat (first | exact (Kd.R_reads' HO_12.out).2.2 | (with_reducible refine Kd.C_alloc ?_ _) | (with_reducible refine Kd.C_drewN ?_ _) | (with_reducible refine Kd.C_drew ?_))); (case side2 => rw [show t443.length = t424.length from (Kd.R_reads' HO_12.out).1.symm]; exact (Kd.R_reads' HO_12.out).2.1); rintro e w' ⟨rfl, ⟨nd, rfl⟩⟩; refine ⟨_, rfl, ?_⟩) | ((with_reducible refine gate_callee (f := 17) rfl ?_); refine goesL_ (some 100) rfl rfl Try.func17 (by kernel_rfl) rfl #[.slice A0 l0.length c0] rfl (by (try simp only [List.map_toArray, List.map_cons, List.map_nil]); first | done | rfl | (simp only [List.length_drop, List.length_take]; rfl)) ?_; (with_reducible refine (laws_toNoteS.calls kj39 _ _ l0 t445 _ ?side1 ?side2 A61.out).mono ?_); (case side1 => repeat (first | exact (Kd.C_below HR0.out (by repeat (first | (with_reducible first | exact HB.out | apply below_alloc | apply pw_below_drewN | apply below_drew1) | exact HB.out))) | (with_reducible refine Kd.C_alloc ?_ _) | (with_reducible refine Kd.C_drewN ?_ _) | (with_reducible refine Kd.C_drew ?_))); (case side2 => exact HC0.out); rintro e w67 ⟨v446, rfl, ho0, hb⟩; refine ⟨_, rfl, ?_⟩; have n0_ := Aside0.mk (Kd.R_below (by (with_reducible repeat (first | apply Kd.R_alloc | apply Kd.R_drewN | apply Kd.R_drew)); exact HO_8.out) hb); have n1_ := Aside0.mk (Kd.R_below (by (with_reducible repeat (first | apply Kd.R_alloc | apply Kd.R_drewN | apply Kd.R_drew)); exact HO_12.out) hb); have n2_ := Aside0.mk (Kd.R_lower ho0 (below_size (by repeat (first | (with_reducible first | exact HB.out | apply below_alloc | apply pw_below_drewN | apply below_drew1) | exact HB.out)))); have n3_ := Aside0.mk (below_step (by repeat (first | (with_reducible first | exact HB.out | apply below_alloc | apply pw_below_drewN | apply below_drew1) | exact HB.out)) hb); clear HO_8; clear HO_12; clear HB; have HO_8 := n0_; have HO_12 := n1_; have HO447 := n2_; have HB := n3_; clear n0_ n1_ n2_ n3_; (try clear hb); (try clear hb2); (try clear hk); (try clear hi); (try clear ho0)) | ((with_reducible refine gate_callee (f := 17) rfl ?_); refine goesL_ (some 102) rfl rfl Try.func17 (by kernel_rfl) rfl #[.slice A1 l1.length c1] rfl (by (try simp only [List.map_toArray, List.map_cons, List.map_nil]); first | done | rfl | (simp only [List.length_drop, List.length_take]; rfl)) ?_; (with_reducible refine (laws_toNoteS.calls kj39 _ _ l1 t448 _ ?side1 ?side2 A62.out).mono ?_); (case side1 => repeat (first | exact (Kd.C_below HR1.out HB.out) | (with_reducible refine Kd.C_alloc ?_ _) | (with_reducible refine Kd.C_drewN ?_ _) | (with_reducible refine Kd.C_drew ?_))); (case side2 => exact HC1.out); rintro e w68 ⟨v449, rfl, ho0, hb⟩; refine ⟨_, rfl, ?_⟩; have n0_ := Aside0.mk (Kd.R_below (by (with_reducible repeat (first | apply Kd.R_alloc | apply Kd.R_drewN | apply Kd.R_drew)); exact HO_8.out) hb); have n1_ := Aside0.mk (Kd.R_below (by (with_reducible repeat (first | apply Kd.R_alloc | apply Kd.R_drewN | apply Kd.R_drew)); exact HO_12.out) hb); have n2_ := Aside0.mk (Kd.R_elder' (by (with_reducible repeat (first | apply Kd.R_alloc | apply Kd.R_drewN | apply Kd.R_drew)); exact HO447.out) (Kd.R_base ho0) hb); have n3_ := Aside0.mk (Kd.R_lower (Kd.R_new' ho0 (Kd.R_lt (by (with_reducible repeat (first | apply Kd.R_alloc | apply Kd.R_drewN | apply Kd.R_drew)); exact HO447.out))) (below_size (by repeat (first | (with_reducible first | exact HB.out | apply below_alloc | apply pw_below_drewN | apply below_drew1) | exact HB.out)))); have n4_ := Aside0.mk (below_step (by repeat (first | (with_reducible first | exact HB.out | apply below_alloc | apply pw_below_drewN | apply below_drew1) | exact HB.out)) hb); clear HO_8; clear HO_12; clear HO447; clear HB; have HO_8 := n0_; have HO_12 := n1_; have HO447 := n2_; have HO450 := n3_; have HB := n4_; clear n0_ n1_ n2_ n3_ n4_; (try clear hb); (try clear hb2); (try clear hk); (try clear hi); (try clear ho0); obtain ⟨Ao69, co69, eo69⟩ := Kd.R_slice HO447.out; subst eo69; obtain ⟨Ao70, co70, eo70⟩ := Kd.R_slice HO450.out; subst eo70) | ((with_reducible refine gate_callee (f := 31) rfl ?_); refine goesL_ (some 104) rfl rfl Try.func31 (by kernel_rfl) rfl #[.slice Ao69 t445.length co69, .slice Ao70 t448.length co70, .int .i64 a2] rfl (by (try simp only [List.map_toArray, List.map_cons, List.map_nil]); first | done | rfl | (simp only [List.length_drop, List.length_take]; rfl)) ?_; (with_reducible refine (impl_RoughUnits.calls kj39 _ _ t445 _ _ t448 a2 t451 t452 _ ?side1 ?side2 ?side3 ?side4 A63.out).mono ?_); (case side1 => repeat (first | exact (Kd.R_reads' HO447.out).2.2 | (with_reducible refine Kd.C_alloc ?_ _) | (with_reducible refine Kd.C_drewN ?_ _) | (with_reducible refine Kd.C_drew ?_))); (case side2 => exact (Kd.R_reads' HO447.out).2.1); (case side3 => repeat (first | exact (Kd.R_reads' HO450.out).2.2 | (with_reducible refine Kd.C_alloc ?_ _) | (with_reducible refine Kd.C_drewN ?_ _) | (with_reducible refine Kd.C_drew ?_))); (case side4 => exact (Kd.R_reads' HO450.out).2.1); rintro e w71 ⟨v453, rfl, ho0, hb⟩; refine ⟨_, rfl, ?_⟩; have n0_ := Aside0.mk (Kd.R_elder' (by (with_reducible repeat (first | apply Kd.R_alloc | apply Kd.R_drewN | apply Kd.R_drew)); exact HO_8.out) (Kd.R_base ho0) hb); have n1_ := Aside0.mk (Kd.R_elder' (by (with_reducible repeat (first | apply Kd.R_alloc | apply Kd.R_drewN | apply Kd.R_drew)); exact HO_12.out) (Kd.R_base ho0) hb); have n2_ := Aside0.mk (Kd.R_below (by (with_reducible repeat (first | apply Kd.R_alloc | apply Kd.R_drewN | apply Kd.R_drew)); exact HO447.out) hb); have n3_ := Aside0.mk (Kd.R_below (by (with_reducible repeat (first | apply Kd.R_alloc | apply Kd.R_drewN | apply Kd.R_drew)); exact HO450.out) hb); have n4_ := Aside0.mk (Kd.R_lower (Kd.R_new' (Kd.R_new' ho0 (Kd.R_lt (by (with_reducible repeat (first | apply Kd.R_alloc | apply Kd.R_drewN | apply Kd.R_drew)); exact HO_8.out))) (Kd.R_lt (by (with_reducible repeat (first | apply Kd.R_alloc | apply Kd.R_drewN | apply Kd.R_drew)); exact HO_12.out))) (below_size (by repeat (first | (with_reducible first | exact HB.out | apply below_alloc | apply pw_below_drewN | apply below_drew1) | exact HB.out)))); have n5_ := Aside0.mk (below_step (by repeat (first | (with_reducible first | exact HB.out | apply below_alloc | apply pw_below_drewN | apply below_drew1) | exact HB.out)) hb); clear HO_8; clear HO_12; clear HO447; clear HO450; clear HB; have HO_8 := n0_; have HO_12 := n1_; have HO447 := n2_; have HO450 := n3_; have HO454 := n4_; have HB := n5_; clear n0_ n1_ n2_ n3_ n4_ n5_; (try clear hb); (try clear hb2); (try clear hk); (try clear hi); (try clear ho0)))
                          (try simp only [Act.put, List.setIfInBounds_toArray, List.set_cons_zero, List.set_cons_succ])
                          go_cut [115] (fun v115 wc => ∃ (kq : Nat) (x115_63 : Bool), v115 = .bool x115_63 ∧ Aside0 (laws_FnExactRoughUnits.j2 kq t443 t442 x115_63 = some r) ∧ Aside0 (kq ≤ kj39) ∧ Aside0 (Kd.R (Kd.int .i64) 2 wc w.heap.size (fun _ => True) (.slice Ao65 t424.length co65) t443) ∧ Aside0 (Below w.heap.size w wc))
                          case first =>
                            have H := HC64.out
                            clear HC64
                            replace H := Option.bind_eq_some_iff.mp H
                            obtain ⟨t455, A720, H⟩ := H
                            replace H : (if t455 = true then (laws_FnExactRoughUnits.j2 kj39 t443 t442 (t452 != t415)) else (laws_FnExactRoughUnits.j2 kj39 t443 t442 true)) = some r := H
                            have A72 := Aside0.mk A720
                            clear A720
                            by_cases c73 : t455 = true
                            · subst c73
                              have H1 : (laws_FnExactRoughUnits.j2 kj39 t443 t442 (t452 != t415)) = some r := by rw [if_pos rfl] at H; exact H
                              clear H
                              have H := H1
                              clear H1
                              have H' := Aside0.mk H
                              clear H
                              obtain ⟨Ao74, co74, eo74⟩ := Kd.R_slice HO454.out
                              subst eo74
                              obtain ⟨Ao75, co75, eo75⟩ := Kd.R_slice HO_8.out
                              subst eo75
                              go_wp2_with (first | ((with_reducible refine gate_callee (f := 23) rfl ?_); refine goesL_ (some 109) rfl rfl Try.func23 (by kernel_rfl) rfl #[.slice Ao74 t451.length co74, .slice Ao75 t414.length co75] rfl (by (try simp only [List.map_toArray, List.map_cons, List.map_nil]); first | done | rfl | (simp only [List.length_drop, List.length_take]; rfl)) ?_; (with_reducible refine (laws_eqInt64S.calls kj39 _ _ t451 _ _ t414 true _ ?side1 ?side2 ?side3 ?side4 A72.out).mono ?_); (case side1 => repeat (first | exact (Kd.R_reads' HO454.out).2.2 | (with_reducible refine Kd.C_alloc ?_ _) | (with_reducible refine Kd.C_drewN ?_ _) | (with_reducible refine Kd.C_drew ?_))); (case side2 => exact (Kd.R_reads' HO454.out).2.1); (case side3 => repeat (first | exact (Kd.R_reads' HO_8.out).2.2 | (with_reducible refine Kd.C_alloc ?_ _) | (with_reducible refine Kd.C_drewN ?_ _) | (with_reducible refine Kd.C_drew ?_))); (case side4 => exact (Kd.R_reads' HO_8.out).2.1); rintro e w' ⟨rfl, ⟨nd, rfl⟩⟩; refine ⟨_, rfl, ?_⟩))
                              go_meet
                              case rel => exact ⟨_, ((t452 != t415)), (by first | rfl | (simp; done) | (simp [*]; done)), H', ⟨by have := HJ13.out; have := HJ39.out; first | omega | exact Nat.le_refl _⟩, ⟨by (with_reducible repeat (first | apply Kd.R_alloc | apply Kd.R_drewN | apply Kd.R_drew)); exact Kd.R_mono HO_12.out (fun _ hk => trivial)⟩, ⟨by repeat (first | (with_reducible first | exact HB.out | apply below_alloc | apply pw_below_drewN | apply below_drew1) | exact HB.out)⟩⟩
                            · replace c73 := Bool.eq_false_iff.mpr c73
                              subst c73
                              have H1 : (laws_FnExactRoughUnits.j2 kj39 t443 t442 true) = some r := by rw [if_neg (show ¬ (false = true) by decide)] at H; exact H
                              clear H
                              have H := H1
                              clear H1
                              have H' := Aside0.mk H
                              clear H
                              obtain ⟨Ao76, co76, eo76⟩ := Kd.R_slice HO454.out
                              subst eo76
                              obtain ⟨Ao77, co77, eo77⟩ := Kd.R_slice HO_8.out
                              subst eo77
                              go_wp2_with (first | ((with_reducible refine gate_callee (f := 23) rfl ?_); refine goesL_ (some 109) rfl rfl Try.func23 (by kernel_rfl) rfl #[.slice Ao76 t451.length co76, .slice Ao77 t414.length co77] rfl (by (try simp only [List.map_toArray, List.map_cons, List.map_nil]); first | done | rfl | (simp only [List.length_drop, List.length_take]; rfl)) ?_; (with_reducible refine (laws_eqInt64S.calls kj39 _ _ t451 _ _ t414 false _ ?side1 ?side2 ?side3 ?side4 A72.out).mono ?_); (case side1 => repeat (first | exact (Kd.R_reads' HO454.out).2.2 | (with_reducible refine Kd.C_alloc ?_ _) | (with_reducible refine Kd.C_drewN ?_ _) | (with_reducible refine Kd.C_drew ?_))); (case side2 => exact (Kd.R_reads' HO454.out).2.1); (case side3 => repeat (first | exact (Kd.R_reads' HO_8.out).2.2 | (with_reducible refine Kd.C_alloc ?_ _) | (with_reducible refine Kd.C_drewN ?_ _) | (with_reducible refine Kd.C_drew ?_))); (case side4 => exact (Kd.R_reads' HO_8.out).2.1); rintro e w' ⟨rfl, ⟨nd, rfl⟩⟩; refine ⟨_, rfl, ?_⟩))
                              go_meet
                              case rel => exact ⟨_, (true), (by first | rfl | (simp; done) | (simp [*]; done)), H', ⟨by have := HJ13.out; have := HJ39.out; first | omega | exact Nat.le_refl _⟩, ⟨by (with_reducible repeat (first | apply Kd.R_alloc | apply Kd.R_drewN | apply Kd.R_drew)); exact Kd.R_mono HO_12.out (fun _ hk => trivial)⟩, ⟨by repeat (first | (with_reducible first | exact HB.out | apply below_alloc | apply pw_below_drewN | apply below_drew1) | exact HB.out)⟩⟩
                          case rest =>
                            clear HC64
                            try clear c1
                            try clear c2
                            try clear p2
                            try clear c3
                            try clear c4
                            try clear c5
                            try clear c5b0
                            try clear c6
                            try clear c7
                            try clear c7b0
                            try clear c8
                            try clear c15
                            try clear c17
                            try clear c19
                            try clear c23
                            try clear c26
                            try clear c30
                            try clear c31
                            try clear c32
                            try clear c33
                            try clear c34
                            try clear c37
                            try clear c49
                            try clear c49b0
                            try clear c51
                            try clear c56
                            try clear c59
                            try clear c59b0
                            try clear c60
                            try clear c60b0
                            try clear c60b1
                            try clear c73
                            try clear p2
                            obtain ⟨kq, x115_63, rfl, HA, HJ63, HO_12, HB⟩ := hcut
                            have hl12_63 := (Kd.R_reads' HO_12.out).1
                            rw [hl12_63] at HO_12
                            (try simp only [hl12_63])
                            cases kq with
                            | zero => exact absurd HA.out (by simp [laws_FnExactRoughUnits.j2])
                            | succ kj63 =>
                              have H := HA.out
                              clear HA
                              simp only [laws_FnExactRoughUnits.j2] at H
                              by_cases c78 : x115_63 = true
                              · subst c78
                                have H1 : (some false) = some r := by rw [if_pos rfl] at H; exact H
                                clear H
                                have H := H1
                                clear H1
                                exact absurd ((Option.some.inj H).trans HT.out) (by decide)
                              · replace c78 := Bool.eq_false_iff.mpr c78
                                subst c78
                                have H1 : ((laws_heldInt64S.f kj63 t443 1).bind fun t456 => (if t456 < 0 then (some false) else (if t456 = t442 then (some true) else (some false)))) = some r := by rw [if_neg (show ¬ (false = true) by decide)] at H; exact H
                                clear H
                                have H := H1
                                clear H1
                                replace H := Option.bind_eq_some_iff.mp H
                                obtain ⟨t456, A790, H⟩ := H
                                replace H : (if t456 < 0 then (some false) else (if t456 = t442 then (some true) else (some false))) = some r := H
                                have A79 := Aside0.mk A790
                                clear A790
                                by_cases c80 : t456 < 0
                                · rw [if_pos c80] at H
                                  have c80b0 : decide (t456 < 0) = true := decide_eq_true c80
                                  have c80b2 := c80b0; (try simp only [hl12_63] at c80b2)
                                  clear c80
                                  exact absurd ((Option.some.inj H).trans HT.out) (by decide)
                                · rw [if_neg c80] at H
                                  have c80b0 : decide (t456 < 0) = false := decide_eq_false c80
                                  have c80b2 := c80b0; (try simp only [hl12_63] at c80b2)
                                  clear c80
                                  by_cases c81 : t456 = t442
                                  · rw [if_pos c81] at H
                                    have c81b0 : (t456 == t442) = true := beq_iff_eq.mpr c81
                                    have c81b1 : (t456 != t442) = false := bne_eq_false_iff_eq.mpr c81
                                    clear c81
                                    obtain rfl := Option.some.inj H
                                    go_wp2_with (first | ((with_reducible refine gate_callee (f := 34) rfl ?_); refine goesL_ (some 118) rfl rfl Try.func34 (by kernel_rfl) rfl #[.slice Ao65 t443.length co65, .int .i64 1] rfl (by (try simp only [List.map_toArray, List.map_cons, List.map_nil]); first | done | rfl | (simp only [List.length_drop, List.length_take]; rfl)) ?_; (with_reducible refine (laws_heldInt64S.calls kj63 _ _ t443 1 t456 _ ?side1 ?side2 A79.out).mono ?_); (case side1 => repeat (first | exact (Kd.R_reads' HO_12.out).2.2 | (with_reducible refine Kd.C_alloc ?_ _) | (with_reducible refine Kd.C_drewN ?_ _) | (with_reducible refine Kd.C_drew ?_))); (case side2 => exact (Kd.R_reads' HO_12.out).2.1); rintro e w' ⟨rfl, ⟨nd, rfl⟩⟩; refine ⟨_, rfl, ?_⟩))
                                    go_ret
                                    exact ⟨by first | rfl | (simp [errW_none, errW_some] <;> rfl) | (simp [*, errW_none, errW_some] <;> rfl), by repeat (first | (with_reducible first | exact HB.out | apply below_alloc | apply pw_below_drewN | apply below_drew1) | exact HB.out)⟩
                                  · rw [if_neg c81] at H
                                    have c81b0 : (t456 == t442) = false := beq_eq_false_iff_ne.mpr c81
                                    have c81b1 : (t456 != t442) = true := bne_iff_ne.mpr c81
                                    exact absurd ((Option.some.inj H).trans HT.out) (by decide)
                        · rw [if_neg c60] at H
                          have c60b0 : (t444 == t442) = false := beq_eq_false_iff_ne.mpr c60
                          have c60b1 : (t444 != t442) = true := bne_iff_ne.mpr c60
                          exact absurd ((Option.some.inj H).trans HT.out) (by decide)
              · replace c37 := Bool.eq_false_iff.mpr c37
                subst c37
                have H1 : (some false) = some r := by rw [if_neg (show ¬ (false = true) by decide)] at H; exact H
                clear H
                have H := H1
                clear H1
                exact absurd ((Option.some.inj H).trans HT.out) (by decide)
            · replace c34 := Bool.eq_false_iff.mpr c34
              subst c34
              have H1 : (some false) = some r := by rw [if_neg (show ¬ (false = true) by decide)] at H; exact H
              clear H
              have H := H1
              clear H1
              exact absurd ((Option.some.inj H).trans HT.out) (by decide)

/-- THE ONE PURE STATEMENT of laws_FnExactRoughUnits. -/
def laws_FnExactRoughUnits.Pure : Prop := ∀ (l0 : List (S77)) (l1 : List (S77)) (a2 : Int), (l0.length ≤ maxLen ∧ ∀ y0 ∈ l0, ((Lit.int .i64 y0.f0).wf = true ∧ (Lit.int .i64 y0.f1).wf = true)) → (l1.length ≤ maxLen ∧ ∀ y0 ∈ l1, ((Lit.int .i64 y0.f0).wf = true ∧ (Lit.int .i64 y0.f1).wf = true)) → (Lit.int .i64 a2).wf = true → ∃ k, laws_FnExactRoughUnits.f k l0 l1 a2 = some true
theorem laws_FnExactRoughUnits.walk (P : laws_FnExactRoughUnits.Pure) (A0 : Option Addr) (c0 : Nat) (l0 : List (S77)) (A1 : Option Addr) (c1 : Nat) (l1 : List (S77)) (a2 : Int) (w : World) (hr0 : Kd.C k77 w A0 l0.length l0) (hc0 : l0.length ≤ c0) (hr1 : Kd.C k77 w A1 l1.length l1) (hc1 : l1.length ≤ c1) (w0 : (l0.length ≤ maxLen ∧ ∀ y0 ∈ l0, ((Lit.int .i64 y0.f0).wf = true ∧ (Lit.int .i64 y0.f1).wf = true))) (w1 : (l1.length ≤ maxLen ∧ ∀ y0 ∈ l1, ((Lit.int .i64 y0.f0).wf = true ∧ (Lit.int .i64 y0.f1).wf = true))) (w2 : (Lit.int .i64 a2).wf = true) :
    Calls Try.prog 8 #[.slice A0 l0.length c0, .slice A1 l1.length c1, .int .i64 a2] w fun e w' => e = .returned (.bool true) ∧ Below w.heap.size w w' := by
  obtain ⟨k, h⟩ := P l0 l1 a2 w0 w1 w2
  refine (laws_FnExactRoughUnits.calls k _ _ l0 _ _ l1 a2 true w hr0 hc0 hr1 hc1 rfl h).mono ?_
  rintro e w' ⟨rfl, hd⟩
  exact ⟨rfl, hd⟩

end Go.Proofs.Ytlgigomahobfbaa.P
end

section
namespace Go.Proofs.Ytlgigomahobfbaa.Pure
open Go.RowKit Go.Proofs.Ytlgigomahobfbaa.P Go.Proofs.YtlgigomahobfbaaW.PrintWords Go.Proofs.YtlgigomahobfbaaW.PrintLast Go.Proofs.YtlgigomahobfbaaW.PrintMore
set_option linter.unusedVariables false
set_option linter.unusedSimpArgs false

theorem rough_loop (m l : List S75) (b : Int) (hm : melB m = true) (hl : melB l = true) (h0 : 0 < (unitsM l).length) (hn : (unitsM m).length ≤ 3072) : ∀ (d i : Nat) (acc : List Int), (unitsM m).length - i = d → acc.length ≤ i →
    ∃ r c, r.length ≤ 3072 ∧ Ev (fun k => spec_RoughUnits.l0 k b (unitsM m) (unitsM l) acc i) (r, c) ∧ Ev (fun k => impl_RoughUnits.l0 k b acc (consR (unitsM m) (unitsM l) 0 (unitsM m).length 0) ((unitsM m).length : Int) i) (r, c) := by
  intro d
  induction d with
  | zero =>
    intro i acc hd ha
    by_cases hf : (acc.length : Int) > 64
    · refine ⟨[], 5, by simp, ?_, ?_⟩
      · refine Ev.succ ?_
        simp only [spec_RoughUnits.l0]
        exact Ev.ite_neg (by omega) (Ev.ite_pos hf (Ev.now _))
      · refine Ev.succ ?_
        simp only [impl_RoughUnits.l0]
        exact Ev.ite_neg (by omega) (Ev.ite_pos hf (Ev.now _))
    · refine ⟨acc, 0, by omega, ?_, ?_⟩
      · refine Ev.succ ?_
        simp only [spec_RoughUnits.l0]
        exact Ev.ite_neg (by omega) (Ev.ite_neg hf (Ev.now _))
      · refine Ev.succ ?_
        simp only [impl_RoughUnits.l0]
        exact Ev.ite_neg (by omega) (Ev.ite_neg hf (Ev.now _))
  | succ d ih =>
    intro i acc hd ha
    have ht := tmod_in (i : Int) _ (by omega) h0
    have hc : rd (consR (unitsM m) (unitsM l) 0 (unitsM m).length 0) (i : Int) = consM (rd (unitsM m) i) (rd (unitsM l) (Int.tmod i ((unitsM l).length : Int))) := by
      rw [consR_rd _ _ _ _ _ _ (by omega)]
      simp
    have hs := spec_l16Consonance_eq (rd (unitsM m) i) (rd (unitsM l) (Int.tmod i ((unitsM l).length : Int))) (unitsM_rd m (melB_all hm).1 i (by omega)) (rd_tmod (melB_all hl).1 _ (by omega) h0)
    by_cases hq : consM (rd (unitsM m) i) (rd (unitsM l) (Int.tmod i ((unitsM l).length : Int))) < b
    · obtain ⟨r, c, r1, r2, r3⟩ := ih (i + 1) (acc ++ [(i : Int)]) (by omega) (by simp; omega)
      refine ⟨r, c, r1, ?_, ?_⟩
      · refine Ev.succ ?_
        simp only [spec_RoughUnits.l0]
        rw [w64 (x := (i : Int) + 1) (by omega) (by omega)]
        exact Ev.ite_pos (by omega) (Ev.ite_pos (by omega) (Ev.ite_neg (by omega) (Ev.ite_pos ht.1 (Ev.ite_pos ht.2 (Ev.bindc hs (Ev.ite_pos hq (Ev.ite_pos (by omega) (by simpa using r2))))))))
      · refine Ev.succ ?_
        simp only [impl_RoughUnits.l0]
        rw [w64 (x := (i : Int) + 1) (by omega) (by omega), hc]
        exact Ev.ite_pos (by omega) (Ev.ite_pos (by omega) (Ev.ite_pos (by rw [consR_len]; omega) (Ev.ite_pos hq (Ev.ite_pos (by omega) (by simpa using r3)))))
    · obtain ⟨r, c, r1, r2, r3⟩ := ih (i + 1) acc (by omega) (by omega)
      refine ⟨r, c, r1, ?_, ?_⟩
      · refine Ev.succ ?_
        simp only [spec_RoughUnits.l0]
        rw [w64 (x := (i : Int) + 1) (by omega) (by omega)]
        exact Ev.ite_pos (by omega) (Ev.ite_pos (by omega) (Ev.ite_neg (by omega) (Ev.ite_pos ht.1 (Ev.ite_pos ht.2 (Ev.bindc hs (Ev.ite_neg hq (by simpa using r2)))))))
      · refine Ev.succ ?_
        simp only [impl_RoughUnits.l0]
        rw [w64 (x := (i : Int) + 1) (by omega) (by omega), hc]
        exact Ev.ite_pos (by omega) (Ev.ite_pos (by omega) (Ev.ite_pos (by rw [consR_len]; omega) (Ev.ite_neg hq (by simpa using r3))))
theorem bothRoughUnits (m l : List S75) (b : Int) (hm : m.length ≤ 1048576) (hl : l.length ≤ 1048576) : ∃ r c, r.length ≤ 3072 ∧ Ev (fun k => spec_RoughUnits.f k m l b) (r, c) ∧ Ev (fun k => impl_RoughUnits.f k m l b) (r, c) := by
  unfold spec_RoughUnits.f impl_RoughUnits.f
  cases h : melB m with
  | false =>
    refine ⟨[], 1, by simp, Ev.bind (spec_l09Ok_ev m (by omega)) (Ev.ite_neg (by rw [h]; decide) (Ev.succ ?_)), Ev.bind (impl_ValidMelody_ev m (by omega)) (Ev.ite_neg (by rw [h]; decide) (Ev.succ ?_))⟩
    · simp only [spec_RoughUnits.j0]
      exact Ev.ite_pos (by decide) (Ev.now _)
    · simp only [impl_RoughUnits.j0]
      exact Ev.ite_pos (by decide) (Ev.now _)
  | true =>
    cases g : (melB l && decide (0 < l.length)) with
    | false =>
      refine ⟨[], 1, by simp, Ev.bind (spec_l09Ok_ev m (by omega)) (Ev.ite_pos h (Ev.bind (spec_l16Drone_ev l (by omega)) (Ev.succ ?_))), Ev.bind (impl_ValidMelody_ev m (by omega)) (Ev.ite_pos h (Ev.bind (impl_droneOk_ev l (by omega)) (Ev.succ ?_)))⟩
      · simp only [spec_RoughUnits.j0]
        exact Ev.ite_pos (by rw [g]; decide) (Ev.now _)
      · simp only [impl_RoughUnits.j0]
        exact Ev.ite_pos (by rw [g]; decide) (Ev.now _)
    | true =>
      have g' := g
      rw [Bool.and_eq_true, decide_eq_true_eq] at g'
      have h3 := unitsM_len m (melB_all h).1
      have h4 := (melB_all h).2
      have h5 := unitsM_len l (melB_all g'.1).1
      cases hd : (decide (0 ≤ b) && decide (b ≤ 101)) with
      | false =>
        refine ⟨[], 2, by simp, Ev.bind (spec_l09Ok_ev m (by omega)) (Ev.ite_pos h (Ev.bind (spec_l16Drone_ev l (by omega)) (Ev.succ ?_))), Ev.bind (impl_ValidMelody_ev m (by omega)) (Ev.ite_pos h (Ev.bind (impl_droneOk_ev l (by omega)) (Ev.succ ?_)))⟩
        · simp only [spec_RoughUnits.j0]
          exact Ev.ite_neg (by rw [g]; decide) (Ev.bindc (spec_l00In_eq _ _ _) (Ev.ite_neg (by rw [hd]; decide) (Ev.now _)))
        · simp only [impl_RoughUnits.j0]
          exact Ev.ite_neg (by rw [g]; decide) (Ev.bindc (impl_within_eq _ _ _) (Ev.ite_neg (by rw [hd]; decide) (Ev.now _)))
      | true =>
        obtain ⟨r, c, r1, r2, r3⟩ := rough_loop m l b h g'.1 (by omega) (by omega) (unitsM m).length 0 [] (by omega) (by simp)
        refine ⟨r, c, r1, Ev.bind (spec_l09Ok_ev m (by omega)) (Ev.ite_pos h (Ev.bind (spec_l16Drone_ev l (by omega)) (Ev.succ ?_))), Ev.bind (impl_ValidMelody_ev m (by omega)) (Ev.ite_pos h (Ev.bind (impl_droneOk_ev l (by omega)) (Ev.succ ?_)))⟩
        · simp only [spec_RoughUnits.j0]
          exact Ev.ite_neg (by rw [g]; decide) (Ev.bindc (spec_l00In_eq _ _ _) (Ev.ite_pos hd (Ev.bind (spec_l16Units_ev m h) (Ev.bind (spec_l16Units_ev l g'.1) (by simpa using r2)))))
        · simp only [impl_RoughUnits.j0]
          refine Ev.ite_neg (by rw [g]; decide) (Ev.bindc (impl_within_eq _ _ _) (Ev.ite_pos hd (Ev.bind (impl_consonances_ev m l h g'.1 g'.2 0 (by omega) (by omega)) ?_)))
          rw [consR_len]
          simpa using r3
theorem FnExactRoughUnits : laws_FnExactRoughUnits.Pure := by
  intro m l b ⟨hm, _⟩ ⟨hl, _⟩ wb
  refine Ev.out (r := true) ?_
  unfold laws_FnExactRoughUnits.f
  refine Ev.bindc (szNoteS_eq m _ (by omega) (by omega) (Nat.le_trans hm (by decide))) ?_
  by_cases gm : (1048576 : Int) - m.length < 0
  · rw [if_pos gm]
    exact Ev.ite_pos (by omega) (Ev.now _)
  rw [if_neg gm]
  refine Ev.ite_neg gm ?_
  refine Ev.bindc (szNoteS_eq l _ (by omega) (by omega) (Nat.le_trans hl (by decide))) ?_
  by_cases gl : (1048576 : Int) - m.length - l.length < 0
  · rw [if_pos gl]
    exact Ev.ite_pos (by omega) (Ev.now _)
  rw [if_neg gl]
  refine Ev.ite_neg gl ?_
  have tm := toNoteS_ev m (by omega)
  have lm : (m.map noteOf).length ≤ 1048576 := by simp; omega
  have tl := toNoteS_ev l (by omega)
  have ll : (l.map noteOf).length ≤ 1048576 := by simp; omega
  obtain ⟨r, c, lr, es, ei⟩ := bothRoughUnits (m.map noteOf) (l.map noteOf) b lm ll
  refine Ev.bind tm ?_
  refine Ev.bind tl ?_
  refine Ev.bind es ?_
  refine Ev.bind tm ?_
  refine Ev.bind tl ?_
  refine Ev.bind ei ?_
  refine Ev.bind (eqInt64S_self r (by omega)) ?_
  refine Ev.ite_pos rfl ?_
  refine Ev.succ ?_
  simp only [laws_FnExactRoughUnits.j0]
  refine Ev.ite_neg (by simp) ?_
  refine Ev.bind tm ?_
  refine Ev.bind (eqNoteS_self (m.map noteOf) (by omega)) ?_
  refine Ev.ite_pos rfl ?_
  refine Ev.bind tl ?_
  refine Ev.bind (eqNoteS_self (l.map noteOf) (by omega)) ?_
  refine Ev.ite_pos rfl ?_
  obtain ⟨mm, emm⟩ := markNoteS_ev (m.map noteOf) (1 : Int) (by omega) (by omega) (by omega)
  refine Ev.bind emm ?_
  obtain ⟨ml, eml⟩ := markNoteS_ev (l.map noteOf) ((1 : Int) + 2 * ((m.map noteOf).length : Int)) (by omega) (by omega) (by omega)
  refine Ev.bind eml ?_
  refine Ev.ite_neg (show ¬ ((((1 : Int) + 2 * ((m.map noteOf).length : Int)) + 2 * ((l.map noteOf).length : Int)) < 0) by omega) ?_
  refine Ev.bind (eqInt64S_self r (by omega)) ?_
  refine Ev.ite_pos rfl ?_
  refine Ev.succ ?_
  simp only [laws_FnExactRoughUnits.j1]
  refine Ev.ite_neg (by simp) ?_
  refine Ev.bind (markInt64S_ev r 1 (by omega) (by omega) (by omega)) ?_
  refine Ev.bind (heldInt64S_ev r.length 1 (by omega) (by omega) (by omega)) ?_
  refine Ev.ite_neg (by omega) ?_
  refine Ev.ite_pos rfl ?_
  refine Ev.bind tm ?_
  refine Ev.bind tl ?_
  refine Ev.bind ei ?_
  refine Ev.bind (eqInt64S_self r (by omega)) ?_
  refine Ev.ite_pos rfl ?_
  refine Ev.succ ?_
  simp only [laws_FnExactRoughUnits.j2]
  refine Ev.ite_neg (by simp) ?_
  refine Ev.bind (heldInt64S_ev r.length 1 (by omega) (by omega) (by omega)) ?_
  refine Ev.ite_neg (by omega) ?_
  exact Ev.ite_pos rfl (Ev.now _)

end Go.Proofs.Ytlgigomahobfbaa.Pure
end
