/- The pure statement of FnExactConsonanceOf. No condition. -/
import Derived.Test.YtckdinepbgilfaaGb1
section
namespace Go.Proofs.Ytckdinepbgilfaa.P
open Go.RowKit Go.Proofs.YtckdinepbgilfaaW.PrintWords Go.Proofs.YtckdinepbgilfaaW.PrintLast Go.Proofs.YtckdinepbgilfaaW.PrintMore
attribute [local go_sem] max2_int min2_int max_two min_two max_three min_three max_four min_four   -- for this text's walks alone
set_option linter.unusedVariables false
set_option linter.unusedSimpArgs false

/-! ### laws_FnExactConsonanceOf: function 5 -/
def laws_FnExactConsonanceOf.f (a0 : Int) (a1 : Int) : Option (Bool) := (spec_ConsonanceOf.f a0 a1).bind fun bt142 => ((impl_ConsonanceOf.f a0 a1).bind fun bt144 => (if bt144.1 = bt142.1 then (if bt144.2 = bt142.2 then (some true) else (some false)) else (some false)))
set_option maxHeartbeats 8000000 in
set_option maxRecDepth 100000 in
theorem laws_FnExactConsonanceOf.calls (a0 : Int) (a1 : Int) (r : Bool) (w : World) (hT : r = true) (h : laws_FnExactConsonanceOf.f a0 a1 = some r) :
    Calls Try.prog 5 #[.int .i64 a0, .int .i64 a1] w fun e w' => e = .returned (.bool r) ∧ Below w.heap.size w w' := by
  have HT := Aside0.mk hT
  clear hT
  have HB := Aside0.mk (Below.refl w.heap.size w)
  have H : ((spec_ConsonanceOf.f a0 a1).bind fun bt142 => ((impl_ConsonanceOf.f a0 a1).bind fun bt144 => (if bt144.1 = bt142.1 then (if bt144.2 = bt142.2 then (some true) else (some false)) else (some false)))) = some r := h
  clear h
  replace H := Option.bind_eq_some_iff.mp H
  obtain ⟨⟨t142, t143⟩, A30, H⟩ := H
  replace H : ((impl_ConsonanceOf.f a0 a1).bind fun bt144 => (if bt144.1 = t142 then (if bt144.2 = t143 then (some true) else (some false)) else (some false))) = some r := H
  have A3 := Aside0.mk A30
  clear A30
  replace H := Option.bind_eq_some_iff.mp H
  obtain ⟨⟨t144, t145⟩, A40, H⟩ := H
  replace H : (if t144 = t142 then (if t145 = t143 then (some true) else (some false)) else (some false)) = some r := H
  have A4 := Aside0.mk A40
  clear A40
  by_cases c5 : t144 = t142
  · rw [if_pos c5] at H
    have c5b0 : (t144 == t142) = true := beq_iff_eq.mpr c5
    have c5b1 : (t144 != t142) = false := bne_eq_false_iff_eq.mpr c5
    clear c5
    by_cases c6 : t145 = t143
    · rw [if_pos c6] at H
      have c6b0 : (t145 == t143) = true := beq_iff_eq.mpr c6
      have c6b1 : (t145 != t143) = false := bne_eq_false_iff_eq.mpr c6
      clear c6
      obtain rfl := Option.some.inj H
      go_enter Try.func5, Try.ntmps5
      go_wp2_with (first | ((with_reducible refine gate_callee (f := 19) rfl ?_); refine goesL_ (some 12) rfl rfl Try.func19 (by kernel_rfl) rfl #[.int .i64 a0, .int .i64 a1] rfl (by (try simp only [List.map_toArray, List.map_cons, List.map_nil]); first | done | rfl | (simp only [List.length_drop, List.length_take]; rfl)) ?_; (with_reducible refine (spec_ConsonanceOf.calls a0 a1 t142 t143 _ A3.out).mono ?_); rintro e w7 ⟨rfl, hb⟩; refine ⟨_, rfl, ?_⟩; have n0_ := Aside0.mk (below_step (by repeat (first | (with_reducible first | exact HB.out | apply below_alloc | apply pw_below_drewN | apply below_drew1) | exact HB.out)) hb); clear HB; have HB := n0_; clear n0_; (try clear hb); (try clear hb2); (try clear hk); (try clear hi)) | ((with_reducible refine gate_callee (f := 20) rfl ?_); refine goesL_ (some 18) rfl rfl Try.func20 (by kernel_rfl) rfl #[.int .i64 a0, .int .i64 a1] rfl (by (try simp only [List.map_toArray, List.map_cons, List.map_nil]); first | done | rfl | (simp only [List.length_drop, List.length_take]; rfl)) ?_; (with_reducible refine (impl_ConsonanceOf.calls a0 a1 t144 t145 _ A4.out).mono ?_); rintro e w8 ⟨rfl, hb⟩; refine ⟨_, rfl, ?_⟩; have n0_ := Aside0.mk (below_step (by repeat (first | (with_reducible first | exact HB.out | apply below_alloc | apply pw_below_drewN | apply below_drew1) | exact HB.out)) hb); clear HB; have HB := n0_; clear n0_; (try clear hb); (try clear hb2); (try clear hk); (try clear hi)))
      go_ret
      exact ⟨by first | rfl | (simp [errW_none, errW_some] <;> rfl) | (simp [*, errW_none, errW_some] <;> rfl), by repeat (first | (with_reducible first | exact HB.out | apply below_alloc | apply pw_below_drewN | apply below_drew1) | exact HB.out)⟩
    · rw [if_neg c6] at H
      have c6b0 : (t145 == t143) = false := beq_eq_false_iff_ne.mpr c6
      have c6b1 : (t145 != t143) = true := bne_iff_ne.mpr c6
      exact absurd ((Option.some.inj H).trans HT.out) (by decide)
  · rw [if_neg c5] at H
    have c5b0 : (t144 == t142) = false := beq_eq_false_iff_ne.mpr c5
    have c5b1 : (t144 != t142) = true := bne_iff_ne.mpr c5
    exact absurd ((Option.some.inj H).trans HT.out) (by decide)

/-- THE ONE PURE STATEMENT of laws_FnExactConsonanceOf. -/
def laws_FnExactConsonanceOf.Pure : Prop := ∀ (a0 : Int) (a1 : Int), (Lit.int .i64 a0).wf = true → (Lit.int .i64 a1).wf = true → laws_FnExactConsonanceOf.f a0 a1 = some true
theorem laws_FnExactConsonanceOf.walk (P : laws_FnExactConsonanceOf.Pure) (a0 : Int) (a1 : Int) (w : World)  (w0 : (Lit.int .i64 a0).wf = true) (w1 : (Lit.int .i64 a1).wf = true) :
    Calls Try.prog 5 #[.int .i64 a0, .int .i64 a1] w fun e w' => e = .returned (.bool true) ∧ Below w.heap.size w w' := by
  have h := P a0 a1 w0 w1
  refine (laws_FnExactConsonanceOf.calls a0 a1 true w  rfl h).mono ?_
  rintro e w' ⟨rfl, hd⟩
  exact ⟨rfl, hd⟩

end Go.Proofs.Ytckdinepbgilfaa.P
end

section
namespace Go.Proofs.Ytckdinepbgilfaa.Pure
open Go.RowKit Go.Proofs.Ytckdinepbgilfaa.P Go.Proofs.YtckdinepbgilfaaW.PrintWords Go.Proofs.YtckdinepbgilfaaW.PrintLast Go.Proofs.YtckdinepbgilfaaW.PrintMore
set_option linter.unusedVariables false
set_option linter.unusedSimpArgs false

theorem FnExactConsonanceOf : laws_FnExactConsonanceOf.Pure := by
  intro a b _ _
  unfold laws_FnExactConsonanceOf.f spec_ConsonanceOf.f impl_ConsonanceOf.f
  rw [spec_l03Pitch_eq, spec_l03Pitch_eq, impl_pitchOk_eq, impl_pitchOk_eq]
  cases ha : inP a with
  | false => simp
  | true =>
    cases hb : inP b with
    | false => simp
    | true =>
      rw [spec_l16Consonance_eq a b ha hb, impl_consonance_eq a b ha hb]
      simp

end Go.Proofs.Ytckdinepbgilfaa.Pure
end
