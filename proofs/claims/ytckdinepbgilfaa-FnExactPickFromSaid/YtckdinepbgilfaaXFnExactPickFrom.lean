/- The pure statement of FnExactPickFrom. No condition. -/
import Derived.Test.YtckdinepbgilfaaGb1
section
namespace Go.Proofs.Ytckdinepbgilfaa.P
open Go.RowKit Go.Proofs.YtckdinepbgilfaaW.PrintWords Go.Proofs.YtckdinepbgilfaaW.PrintLast Go.Proofs.YtckdinepbgilfaaW.PrintMore
attribute [local go_sem] max2_int min2_int max_two min_two max_three min_three max_four min_four   -- for this text's walks alone
set_option linter.unusedVariables false
set_option linter.unusedSimpArgs false

/-! ### laws_FnExactPickFrom: function 4 -/
def laws_FnExactPickFrom.f (a0 : Int) (a1 : Int) : Option (Bool) := (spec_PickFrom.f a0 a1).bind fun bt122 => ((impl_PickFrom.f a0 a1).bind fun bt125 => (if bt125.1 = bt122.1 then (if bt125.2.1 = bt122.2.1 then (if bt125.2.2 = bt122.2.2 then (some true) else (some false)) else (some false)) else (some false)))
set_option maxHeartbeats 8000000 in
set_option maxRecDepth 100000 in
theorem laws_FnExactPickFrom.calls (a0 : Int) (a1 : Int) (r : Bool) (w : World) (hT : r = true) (h : laws_FnExactPickFrom.f a0 a1 = some r) :
    Calls Try.prog 4 #[.int .i64 a0, .int .i64 a1] w fun e w' => e = .returned (.bool r) ∧ Below w.heap.size w w' := by
  have HT := Aside0.mk hT
  clear hT
  have HB := Aside0.mk (Below.refl w.heap.size w)
  have H : ((spec_PickFrom.f a0 a1).bind fun bt122 => ((impl_PickFrom.f a0 a1).bind fun bt125 => (if bt125.1 = bt122.1 then (if bt125.2.1 = bt122.2.1 then (if bt125.2.2 = bt122.2.2 then (some true) else (some false)) else (some false)) else (some false)))) = some r := h
  clear h
  replace H := Option.bind_eq_some_iff.mp H
  obtain ⟨⟨t122, t123, t124⟩, A30, H⟩ := H
  replace H : ((impl_PickFrom.f a0 a1).bind fun bt125 => (if bt125.1 = t122 then (if bt125.2.1 = t123 then (if bt125.2.2 = t124 then (some true) else (some false)) else (some false)) else (some false))) = some r := H
  have A3 := Aside0.mk A30
  clear A30
  replace H := Option.bind_eq_some_iff.mp H
  obtain ⟨⟨t125, t126, t127⟩, A40, H⟩ := H
  replace H : (if t125 = t122 then (if t126 = t123 then (if t127 = t124 then (some true) else (some false)) else (some false)) else (some false)) = some r := H
  have A4 := Aside0.mk A40
  clear A40
  by_cases c5 : t125 = t122
  · rw [if_pos c5] at H
    have c5b0 : (t125 == t122) = true := beq_iff_eq.mpr c5
    have c5b1 : (t125 != t122) = false := bne_eq_false_iff_eq.mpr c5
    clear c5
    by_cases c6 : t126 = t123
    · rw [if_pos c6] at H
      have c6b0 : (t126 == t123) = true := beq_iff_eq.mpr c6
      have c6b1 : (t126 != t123) = false := bne_eq_false_iff_eq.mpr c6
      clear c6
      by_cases c7 : t127 = t124
      · rw [if_pos c7] at H
        have c7b0 : (t127 == t124) = true := beq_iff_eq.mpr c7
        have c7b1 : (t127 != t124) = false := bne_eq_false_iff_eq.mpr c7
        clear c7
        obtain rfl := Option.some.inj H
        go_enter Try.func4, Try.ntmps4
        go_wp2_with (first | ((with_reducible refine gate_callee (f := 17) rfl ?_); refine goesL_ (some 14) rfl rfl Try.func17 (by kernel_rfl) rfl #[.int .i64 a0, .int .i64 a1] rfl (by (try simp only [List.map_toArray, List.map_cons, List.map_nil]); first | done | rfl | (simp only [List.length_drop, List.length_take]; rfl)) ?_; (with_reducible refine (spec_PickFrom.calls a0 a1 t122 t123 t124 _ A3.out).mono ?_); rintro e w' ⟨rfl, ⟨nd, rfl⟩⟩; refine ⟨_, rfl, ?_⟩) | ((with_reducible refine gate_callee (f := 18) rfl ?_); refine goesL_ (some 21) rfl rfl Try.func18 (by kernel_rfl) rfl #[.int .i64 a0, .int .i64 a1] rfl (by (try simp only [List.map_toArray, List.map_cons, List.map_nil]); first | done | rfl | (simp only [List.length_drop, List.length_take]; rfl)) ?_; (with_reducible refine (impl_PickFrom.calls a0 a1 t125 t126 t127 _ A4.out).mono ?_); rintro e w8 ⟨rfl, hb⟩; refine ⟨_, rfl, ?_⟩; have n0_ := Aside0.mk (below_step (by repeat (first | (with_reducible first | exact HB.out | apply below_alloc | apply pw_below_drewN | apply below_drew1) | exact HB.out)) hb); clear HB; have HB := n0_; clear n0_; (try clear hb); (try clear hb2); (try clear hk); (try clear hi)))
        go_ret
        exact ⟨by first | rfl | (simp [errW_none, errW_some] <;> rfl) | (simp [*, errW_none, errW_some] <;> rfl), by repeat (first | (with_reducible first | exact HB.out | apply below_alloc | apply pw_below_drewN | apply below_drew1) | exact HB.out)⟩
      · rw [if_neg c7] at H
        have c7b0 : (t127 == t124) = false := beq_eq_false_iff_ne.mpr c7
        have c7b1 : (t127 != t124) = true := bne_iff_ne.mpr c7
        exact absurd ((Option.some.inj H).trans HT.out) (by decide)
    · rw [if_neg c6] at H
      have c6b0 : (t126 == t123) = false := beq_eq_false_iff_ne.mpr c6
      have c6b1 : (t126 != t123) = true := bne_iff_ne.mpr c6
      exact absurd ((Option.some.inj H).trans HT.out) (by decide)
  · rw [if_neg c5] at H
    have c5b0 : (t125 == t122) = false := beq_eq_false_iff_ne.mpr c5
    have c5b1 : (t125 != t122) = true := bne_iff_ne.mpr c5
    exact absurd ((Option.some.inj H).trans HT.out) (by decide)

/-- THE ONE PURE STATEMENT of laws_FnExactPickFrom. -/
def laws_FnExactPickFrom.Pure : Prop := ∀ (a0 : Int) (a1 : Int), (Lit.int .i64 a0).wf = true → (Lit.int .i64 a1).wf = true → laws_FnExactPickFrom.f a0 a1 = some true
theorem laws_FnExactPickFrom.walk (P : laws_FnExactPickFrom.Pure) (a0 : Int) (a1 : Int) (w : World)  (w0 : (Lit.int .i64 a0).wf = true) (w1 : (Lit.int .i64 a1).wf = true) :
    Calls Try.prog 4 #[.int .i64 a0, .int .i64 a1] w fun e w' => e = .returned (.bool true) ∧ Below w.heap.size w w' := by
  have h := P a0 a1 w0 w1
  refine (laws_FnExactPickFrom.calls a0 a1 true w  rfl h).mono ?_
  rintro e w' ⟨rfl, hd⟩
  exact ⟨rfl, hd⟩

end Go.Proofs.Ytckdinepbgilfaa.P
end

section
namespace Go.Proofs.Ytckdinepbgilfaa.Pure
open Go.RowKit Go.Proofs.Ytckdinepbgilfaa.P Go.Proofs.YtckdinepbgilfaaW.PrintWords Go.Proofs.YtckdinepbgilfaaW.PrintLast Go.Proofs.YtckdinepbgilfaaW.PrintMore
set_option linter.unusedVariables false
set_option linter.unusedSimpArgs false

theorem FnExactPickFrom : laws_FnExactPickFrom.Pure := by
  intro a n _ _
  unfold laws_FnExactPickFrom.f spec_PickFrom.f impl_PickFrom.f
  rw [spec_l13Seed_eq, impl_seedOk_eq, spec_l00In_eq, impl_within_eq, pick_eq]
  unfold spec_l13Pick.f spec_l13Next.f
  cases (decide (0 ≤ a) && decide (a ≤ 999999)) <;> cases (decide (1 ≤ n) && decide (n ≤ 1000000)) <;> simp

end Go.Proofs.Ytckdinepbgilfaa.Pure
end
